/- No conditions. -/
import Derived.Test.YtdbfbedholdjaaaGreatTy
import Derived.Test.YtdbfbedholdjaaaGreatProg
set_option linter.unusedVariables false
set_option linter.unusedSimpArgs false
set_option linter.unusedSectionVars false
namespace Go.Proofs.YtdbfbedholdjaaaGreat
open Go Go.Proofs Go.Dl
variable [eC]
set_option maxRecDepth 100000
set_option maxHeartbeats 4000000
def aMw (K:Nat) (a0:Bytes) (a1:Bytes):Option ((Bool) ⊕ (Bool)) :=
 (bM (bL ((iter K (fun (dY:Int)=>(bO (decide (((IntKind.i64.wrap (dY+(Int.ofNat a1.length))):Int)≤(Int.ofNat a0.length))) (fun (l8:Bool)=>(if l8=true then (bM (bL (bW [c9 a0.length dY (IntKind.i64.wrap (dY+(Int.ofNat a1.length)))] (bO (((a0.drop (dY:Int).toNat).take (((IntKind.i64.wrap (dY+(Int.ofNat a1.length))):Int).toNat - (dY:Int).toNat)) == a1) (fun (x31:Bool)=>(if x31=true then (some (.inl (Sum.inr (Sum.inr (true))))) else (some (.inr ()))))))) (fun (eZ:Unit)=>(some (.inr ((IntKind.i64.wrap (dY+1))))))) else (some (.inl (Sum.inl ()))))))) (0)).map .inl)) (fun (u16:Unit)=>(some (.inl (false)))))
theorem aKT (K:Nat) (a0:Bytes) (a1:Bytes):bR Tryz.prog 211 [.c (.str a0),.c (.str a1)] [] (bU (aMw K a0 a1)) (fun r=>.c (.val (.bool r))) (fun r=>[]):=by
 refine bR.it Tryz.f211 (fun r=>⟨[sB 4 r],[],[],0⟩) ?_
 unfold aMw
 exact Ref.pt (
  .bk 0 (fun u16=>⟨[],[],[],0⟩) (
   .lp [] (fun dY=>⟨[sS 0 a0,sS 1 a1,sI 5 dY],[],[],0⟩) fun dY =>
   .lt _ fun l8 =>
   .ite _ (
    .bk 1 (fun eZ=>⟨[sS 0 a0,sS 1 a1,sI 5 dY],[],[],0⟩) (
     .ck _ <|
     .lt _ fun x31 =>
     .ite _ (
      .ret [] _) (
      .nil [] _)) fun eZ =>
    .nil [] _) (
    .ret [] _)) fun u16 =>
  .ret [] _)
def aO4 (K:Nat) (a0:Bytes) (a1:Int):Option ((Int) ⊕ (Int)) :=
 (bM (bL ((iter K (fun (gX:Int)=>(bO (decide (((IntKind.i64.wrap (gX+1)):Int)<(Int.ofNat a0.length))) (fun (x34:Bool)=>(if x34=true then (bM (bL (bW [cS gX a0.length,!(((Int.ofNat (a0.getD (gX:Int).toNat 0).toNat):Int) == 42) || cS (IntKind.i64.wrap (gX+1)) a0.length] (bO ((((Int.ofNat (a0.getD (gX:Int).toNat 0).toNat):Int) == 42) && (((Int.ofNat (a0.getD ((IntKind.i64.wrap (gX+1)):Int).toNat 0).toNat):Int) == 41)) (fun (x37:Bool)=>(if x37=true then (some (.inl (Sum.inr (Sum.inr ((IntKind.i64.wrap (gX+2))))))) else (some (.inr ()))))))) (fun (u36:Unit)=>(some (.inr ((IntKind.i64.wrap (gX+1))))))) else (some (.inl (Sum.inl ()))))))) ((IntKind.i64.wrap (a1+2)))).map .inl)) (fun (u19:Unit)=>(some (.inl ((-1))))))
theorem aRS (K:Nat) (a0:Bytes) (a1:Int):bR Tryz.prog 135 [.c (.str a0),.c (.val (.int .i64 a1))] [] (bU (aO4 K a0 a1)) (fun r=>.c (.val (.int .i64 r))) (fun r=>[]):=by
 refine bR.it Tryz.f135 (fun r=>⟨[sI 4 r],[],[],0⟩) ?_
 unfold aO4
 exact Ref.pt (
  .bk 0 (fun u19=>⟨[],[],[],0⟩) (
   .lp [] (fun gX=>⟨[sS 0 a0,sI 5 gX],[],[],0⟩) fun gX =>
   .lt _ fun x34 =>
   .ite _ (
    .bk 1 (fun u36=>⟨[sS 0 a0,sI 5 gX],[],[],0⟩) (
     .ck _ <|
     .lt _ fun x37 =>
     .ite _ (
      .ret [] _) (
      .nil [] _)) fun u36 =>
    .nil [] _) (
    .ret [] _)) fun u19 =>
  .ret [] _)
def aO5 (K:Nat) (a0:UInt8):Option ((Bool) ⊕ (Bool)) :=
 (bO (((decide (((Int.ofNat a0.toNat):Int) ≥ 65)) && (decide (((Int.ofNat a0.toNat):Int)≤90))) || ((decide (((Int.ofNat a0.toNat):Int) ≥ 97)) && (decide (((Int.ofNat a0.toNat):Int)≤122)))) (fun (x1:Bool)=>(some (.inl (x1)))))
theorem aKU (K:Nat) (a0:UInt8):bR Tryz.prog 179 [.c (.val (.int .u8 (Int.ofNat a0.toNat)))] [] (bU (aO5 K a0)) (fun r=>.c (.val (.bool r))) (fun r=>[]):=by
 refine bR.it Tryz.f179 (fun r=>⟨[sB 2 r],[],[],0⟩) ?_
 unfold aO5
 exact Ref.pt (
  .lt _ fun x1 =>
  .ret [] _)
def aMx (K:Nat) (a0:UInt8):Option ((Bool) ⊕ (Bool)) :=
 (bO ((decide (((Int.ofNat a0.toNat):Int) ≥ 48)) && (decide (((Int.ofNat a0.toNat):Int)≤57))) (fun (x1:Bool)=>(some (.inl (x1)))))
theorem aF9 (K:Nat) (a0:UInt8):bR Tryz.prog 182 [.c (.val (.int .u8 (Int.ofNat a0.toNat)))] [] (bU (aMx K a0)) (fun r=>.c (.val (.bool r))) (fun r=>[]):=by
 refine bR.it Tryz.f182 (fun r=>⟨[sB 2 r],[],[],0⟩) ?_
 unfold aMx
 exact Ref.pt (
  .lt _ fun x1 =>
  .ret [] _)
def aMy (K:Nat) (a0:UInt8):Option ((Bool) ⊕ (Bool)) :=
 ((bU (aO5 K a0)).bind (fun r1=>((cK (!r1) (bU (aMx K a0)) default).bind (fun r2=>(bO ((r1 || r2) || (((Int.ofNat a0.toNat):Int) == 95)) (fun (x3:Bool)=>(some (.inl (x3)))))))))
theorem aKV (K:Nat) (a0:UInt8):bR Tryz.prog 180 [.c (.val (.int .u8 (Int.ofNat a0.toNat)))] [] (bU (aMy K a0)) (fun r=>.c (.val (.bool r))) (fun r=>[]):=by
 refine bR.it Tryz.f180 (fun r=>⟨[sB 2 r],[],[],0⟩) ?_
 unfold aMy
 exact Ref.pt (
  .call [] (aKU _ _) fun r1 =>
  .look (default:Bool) _ [] (aF9 K a0) (fun _=>rfl) fun r2 =>
  .lt _ fun x3 =>
  .ret [] _)
def aO6 (K:Nat) (a0:Bytes):Option ((Bool) ⊕ (Bool)) :=
 (bM (bL ((iter K (fun (jH:Int)=>(bO (decide ((jH:Int)<(Int.ofNat a0.length))) (fun (yV:Bool)=>(if yV=true then (bM (bL (bW [cS jH a0.length] ((bU (aMy K (a0.getD (jH:Int).toNat 0))).bind (fun r29=>(if (!r29)=true then (some (.inl (Sum.inr (Sum.inr (false))))) else (some (.inr ()))))))) (fun (gX:Unit)=>(some (.inr ((IntKind.i64.wrap (jH+1))))))) else (some (.inl (Sum.inl ()))))))) (0)).map .inl)) (fun (wC:Unit)=>(some (.inl (true)))))
theorem aRT (K:Nat) (a0:Bytes):bR Tryz.prog 210 [.c (.str a0)] [] (bU (aO6 K a0)) (fun r=>.c (.val (.bool r))) (fun r=>[]):=by
 refine bR.it Tryz.f210 (fun r=>⟨[sB 2 r],[],[],0⟩) ?_
 unfold aO6
 exact Ref.pt (
  .bk 0 (fun wC=>⟨[],[],[],0⟩) (
   .lp [] (fun jH=>⟨[sS 0 a0,sI 3 jH],[],[],0⟩) fun jH =>
   .lt _ fun yV =>
   .ite _ (
    .bk 1 (fun gX=>⟨[sS 0 a0,sI 3 jH],[],[],0⟩) (
     .ck _ <|
     .call [] (aKV _ _) fun r29 =>
     .ite _ (
      .ret [] _) (
      .nil [] _)) fun gX =>
    .nil [] _) (
    .ret [] _)) fun wC =>
  .ret [] _)
def aO7 (K:Nat) (a0:Bytes):Option ((Bool) ⊕ (Bool)) :=
 ((cK (!(a0 == ([]:Bytes))) (bU (aO6 K a0)) default).bind (fun r1=>(if ((a0 == ([]:Bytes)) || (!r1))=true then (some (.inl (false))) else (bW [room (([32]:Bytes).length+a0.length),room ((([32]:Bytes)++a0).length+([32]:Bytes).length)] (bM (bL ((iter K (fun (kD:Int)=>(bO (decide (((IntKind.i64.wrap (kD+(Int.ofNat ((([32]:Bytes)++a0)++([32]:Bytes)).length))):Int)≤386)) (fun (iW:Bool)=>(if iW=true then (bM (bL (bW [c9 ([32,73,78,84,69,82,70,65,67,69,32,69,78,68,95,73,78,84,69,82,70,65,67,69,32,67,76,65,83,83,32,69,78,68,95,67,76,65,83,83,32,80,82,79,71,82,65,77,32,69,78,68,95,80,82,79,71,82,65,77,32,77,69,84,72,79,68,32,69,78,68,95,77,69,84,72,79,68,32,84,65,83,75,32,73,78,84,69,82,86,65,76,32,80,82,73,79,82,73,84,89,32,69,88,84,69,78,68,83,32,73,77,80,76,69,77,69,78,84,83,32,65,66,83,84,82,65,67,84,32,70,73,78,65,76,32,79,86,69,82,82,73,68,69,32,86,65,82,32,65,84,32,73,78,32,79,85,84,32,73,78,84,32,66,79,79,76,32,82,69,65,76,32,76,82,69,65,76,32,65,82,82,65,89,32,79,70,32,82,69,70,95,84,79,32,82,69,70,32,84,79,78,32,84,79,70,32,84,80,32,67,84,85,32,67,84,68,32,82,95,84,82,73,71,32,70,95,84,82,73,71,32,84,82,85,69,32,70,65,76,83,69,32,78,85,76,76,32,84,72,73,83,32,83,85,80,69,82,32,65,83,32,78,79,84,32,65,78,68,32,79,82,32,88,79,82,32,77,79,68,32,73,70,32,84,72,69,78,32,69,76,83,73,70,32,69,76,83,69,32,69,78,68,95,73,70,32,67,65,83,69,32,69,78,68,95,67,65,83,69,32,87,72,73,76,69,32,68,79,32,69,78,68,95,87,72,73,76,69,32,70,79,82,32,84,79,32,66,89,32,69,78,68,95,70,79,82,32,82,69,84,85,82,78,32,69,88,73,84,32,83,84,69,80,32,68,79,78,69,32,67,79,85,78,84,32]:Bytes).length kD (IntKind.i64.wrap (kD+(Int.ofNat ((([32]:Bytes)++a0)++([32]:Bytes)).length)))] (bO (((([32,73,78,84,69,82,70,65,67,69,32,69,78,68,95,73,78,84,69,82,70,65,67,69,32,67,76,65,83,83,32,69,78,68,95,67,76,65,83,83,32,80,82,79,71,82,65,77,32,69,78,68,95,80,82,79,71,82,65,77,32,77,69,84,72,79,68,32,69,78,68,95,77,69,84,72,79,68,32,84,65,83,75,32,73,78,84,69,82,86,65,76,32,80,82,73,79,82,73,84,89,32,69,88,84,69,78,68,83,32,73,77,80,76,69,77,69,78,84,83,32,65,66,83,84,82,65,67,84,32,70,73,78,65,76,32,79,86,69,82,82,73,68,69,32,86,65,82,32,65,84,32,73,78,32,79,85,84,32,73,78,84,32,66,79,79,76,32,82,69,65,76,32,76,82,69,65,76,32,65,82,82,65,89,32,79,70,32,82,69,70,95,84,79,32,82,69,70,32,84,79,78,32,84,79,70,32,84,80,32,67,84,85,32,67,84,68,32,82,95,84,82,73,71,32,70,95,84,82,73,71,32,84,82,85,69,32,70,65,76,83,69,32,78,85,76,76,32,84,72,73,83,32,83,85,80,69,82,32,65,83,32,78,79,84,32,65,78,68,32,79,82,32,88,79,82,32,77,79,68,32,73,70,32,84,72,69,78,32,69,76,83,73,70,32,69,76,83,69,32,69,78,68,95,73,70,32,67,65,83,69,32,69,78,68,95,67,65,83,69,32,87,72,73,76,69,32,68,79,32,69,78,68,95,87,72,73,76,69,32,70,79,82,32,84,79,32,66,89,32,69,78,68,95,70,79,82,32,82,69,84,85,82,78,32,69,88,73,84,32,83,84,69,80,32,68,79,78,69,32,67,79,85,78,84,32]:Bytes).drop (kD:Int).toNat).take (((IntKind.i64.wrap (kD+(Int.ofNat ((([32]:Bytes)++a0)++([32]:Bytes)).length))):Int).toNat - (kD:Int).toNat)) == ((([32]:Bytes)++a0)++([32]:Bytes))) (fun (x32:Bool)=>(if x32=true then (some (.inl (Sum.inr (Sum.inr (true))))) else (some (.inr ()))))))) (fun (yW:Unit)=>(some (.inr ((IntKind.i64.wrap (kD+1))))))) else (some (.inl (Sum.inl ()))))))) (0)).map .inl)) (fun (gW:Unit)=>(some (.inl (false)))))))))
theorem aRU (K:Nat) (a0:Bytes):bR Tryz.prog 181 [.c (.str a0)] [] (bU (aO7 K a0)) (fun r=>.c (.val (.bool r))) (fun r=>[]):=by
 refine bR.it Tryz.f181 (fun r=>⟨[sB 2 r],[],[],0⟩) ?_
 unfold aO7
 exact Ref.pt (
  .look (default:Bool) _ [] (aRT K a0) (fun _=>rfl) fun r1 =>
  .ite _ (
   .ret [] _) (
   .ck _ <|
   .bk 0 (fun gW=>⟨[],[],[],0⟩) (
    .lp [] (fun kD=>⟨[sS 3 ((aMz++a0)++aMz),sI 4 kD],[],[],0⟩) fun kD =>
    .lt _ fun iW =>
    .ite _ (
     .bk 1 (fun yW=>⟨[sS 3 ((aMz++a0)++aMz),sI 4 kD],[],[],0⟩) (
      .ck _ <|
      .lt _ fun x32 =>
      .ite _ (
       .ret [] _) (
       .nil [] _)) fun yW =>
     .nil [] _) (
     .ret [] _)) fun gW =>
   .ret [] _))
def aO8 (K:Nat) (a0:Bytes) (a1:Int):Option ((Int) ⊕ (Int)) :=
 (bW [!(decide (((IntKind.i64.wrap (a1+1)):Int)<(Int.ofNat a0.length))) || c9 a0.length a1 (IntKind.i64.wrap (a1+2)),!(decide (((IntKind.i64.wrap (a1+1)):Int)<(Int.ofNat a0.length))) || room (([32]:Bytes).length+((a0.drop (a1:Int).toNat).take (((IntKind.i64.wrap (a1+2)):Int).toNat - (a1:Int).toNat)).length),!(decide (((IntKind.i64.wrap (a1+1)):Int)<(Int.ofNat a0.length))) || room ((([32]:Bytes)++((a0.drop (a1:Int).toNat).take (((IntKind.i64.wrap (a1+2)):Int).toNat - (a1:Int).toNat))).length+([32]:Bytes).length)] (bO (decide (((IntKind.i64.wrap (a1+1)):Int)<(Int.ofNat a0.length))) (fun (x1:Bool)=>((cK x1 (bU (aMw K ([32,58,61,32,63,61,32,46,46,32,60,62,32,60,61,32,62,61,32]:Bytes) ((([32]:Bytes)++((a0.drop (a1:Int).toNat).take (((IntKind.i64.wrap (a1+2)):Int).toNat - (a1:Int).toNat)))++([32]:Bytes)))) default).bind (fun r2=>(if (x1 && r2)=true then (some (.inl (2))) else (bW [c9 a0.length a1 (IntKind.i64.wrap (a1+1))] (bO ((a0.drop (a1:Int).toNat).take (((IntKind.i64.wrap (a1+1)):Int).toNat - (a1:Int).toNat)) (fun (x3:Bytes)=>((bU (aMw K ([43,45,42,47,61,60,62,40,41,91,93,44,59,58,46]:Bytes) x3)).bind (fun r4=>(if r4=true then (some (.inl (1))) else (some (.inl (0)))))))))))))))
theorem aRV (K:Nat) (a0:Bytes) (a1:Int):bR Tryz.prog 183 [.c (.str a0),.c (.val (.int .i64 a1))] [] (bU (aO8 K a0 a1)) (fun r=>.c (.val (.int .i64 r))) (fun r=>[]):=by
 refine bR.it Tryz.f183 (fun r=>⟨[sI 4 r],[],[],0⟩) ?_
 unfold aO8
 exact Ref.pt (
  .ck _ <|
  .lt _ fun x1 =>
  .look (default:Bool) _ [] (aKT K ([32,58,61,32,63,61,32,46,46,32,60,62,32,60,61,32,62,61,32]:Bytes) ((aMz++((a0.drop (a1:Int).toNat).take (((IntKind.i64.wrap (a1+2)):Int).toNat - (a1:Int).toNat)))++aMz)) (fun _=>rfl) fun r2 =>
  .ite _ (
   .ret [] _) (
   .ck _ <|
   .lt _ fun x3 =>
   .call [] (aKT _ _ _) fun r4 =>
   .ite _ (
    .ret [] _) (
    .ret [] _)))
def aO9 (K:Nat) (a0:Bytes) (a1:Int):Option ((tS × Int × Int) ⊕ (tS × Int × Int)) :=
 (bM (bL (bW [cS a1 a0.length] ((bU (aO5 K (a0.getD (a1:Int).toNat 0))).bind (fun lR=>(if lR=true then (bM (bL ((iter K (fun (aEN:Int)=>(bW [!(decide ((aEN:Int)<(Int.ofNat a0.length))) || cS aEN a0.length] (bO (decide ((aEN:Int)<(Int.ofNat a0.length))) (fun (aMa:Bool)=>((cK aMa (bU (aMy K (a0.getD (aEN:Int).toNat 0))) default).bind (fun aN0=>(if (aMa && aN0)=true then (bM (bL (some (.inr ((IntKind.i64.wrap (aEN+1)))))) (fun (aRW:Int)=>(some (.inr (aRW))))) else (some (.inl (Sum.inl (aEN))))))))))) (a1)).map .inl)) (fun (yZ:Int)=>(bW [c9 a0.length a1 yZ] (bO ((a0.drop (a1:Int).toNat).take ((yZ:Int).toNat - (a1:Int).toNat)) (fun (aHC:Bytes)=>((bU (aO7 K aHC)).bind (fun aX7=>(bM (if aX7=true then (some (.inr (2))) else (bO (decide (((IntKind.i64.wrap (yZ - a1)):Int) > 12)) (fun (aX8:Bool)=>(if aX8=true then (some (.inl (Sum.inr ((⟨1,aHC,0,a1⟩:tS),yZ,1)))) else (some (.inr (1))))))) (fun (aPa:Int)=>(bO ((aHC == ([82,69,65,76]:Bytes)) || (aHC == ([76,82,69,65,76]:Bytes))) (fun (aX9:Bool)=>(if aX9=true then (some (.inl (Sum.inr ((⟨aPa,aHC,0,a1⟩:tS),yZ,2)))) else (some (.inl (Sum.inr ((⟨aPa,aHC,0,a1⟩:tS),yZ,0)))))))))))))))) else (bW [cS a1 a0.length] ((bU (aMx K (a0.getD (a1:Int).toNat 0))).bind (fun aYa=>(if aYa=true then (bM (bL ((iter K (fun (vF:Int × Int)=>(bW [!(decide ((vF.2:Int)<(Int.ofNat a0.length))) || cS vF.2 a0.length] (bO (decide ((vF.2:Int)<(Int.ofNat a0.length))) (fun (aU0:Bool)=>((cK aU0 (bU (aMx K (a0.getD (vF.2:Int).toNat 0))) default).bind (fun aYb=>(if (aU0 && aYb)=true then (bM (bL (bO (decide (((IntKind.i64.wrap (vF.2 - a1)):Int)<6)) (fun (aYc:Bool)=>(bM (if aYc=true then (bW [cS vF.2 a0.length] (bO (IntKind.i64.wrap (IntKind.u8.wrap ((Int.ofNat (a0.getD (vF.2:Int).toNat 0).toNat) - 48))) (fun (aYd:Int)=>(some (.inr ((IntKind.i64.wrap ((IntKind.i64.wrap (vF.1 * 10))+aYd)))))))) else (some (.inr (vF.1)))) (fun (aRX:Int)=>(some (.inr (aRX,(IntKind.i64.wrap (vF.2+1)))))))))) (fun (aMA:Int × Int)=>(some (.inr (aMA.1,aMA.2))))) else (some (.inl (Sum.inl (vF.1,vF.2))))))))))) (0,a1)).map .inl)) (fun (aCj:Int × Int)=>(bW [c9 a0.length a1 aCj.2] (bO ((a0.drop (a1:Int).toNat).take ((aCj.2:Int).toNat - (a1:Int).toNat)) (fun (aU1:Bytes)=>(bO ((decide (((IntKind.i64.wrap (aCj.2 - a1)):Int) > 5)) || (decide ((aCj.1:Int) > 32768))) (fun (aYe:Bool)=>(if aYe=true then (some (.inl (Sum.inr ((⟨3,aU1,aCj.1,a1⟩:tS),aCj.2,1)))) else (some (.inl (Sum.inr ((⟨3,aU1,aCj.1,a1⟩:tS),aCj.2,0)))))))))))) else (some (.inr ()))))))))))) (fun (aYf:Unit)=>((bU (aO8 K a0 a1)).bind (fun aPb=>(bW [c9 a0.length a1 (IntKind.i64.wrap (a1+aPb))] (bO ((a0.drop (a1:Int).toNat).take (((IntKind.i64.wrap (a1+aPb)):Int).toNat - (a1:Int).toNat)) (fun (aU2:Bytes)=>(if ((aPb:Int) == 0)=true then (some (.inl ((⟨4,aU2,0,a1⟩:tS),a1,1))) else (some (.inl ((⟨4,aU2,0,a1⟩:tS),(IntKind.i64.wrap (a1+aPb)),0)))))))))))
abbrev wW (v0:Bytes) (v1:Int):List (Nat × D):=[sS 0 v0,sI 1 v1,sP 4 0 0 0,sP 7 1 0 0]
theorem aRY (K:Nat) (a0:Bytes) (a1:Int):bR Tryz.prog 136 [.c (.str a0),.c (.val (.int .i64 a1))] [] (bU (aO9 K a0 a1)) (fun r=>.iV [.agg (mI.cs r.1),.c (.val (.int .i64 r.2.1)),.c (.val (.int .i64 r.2.2))]) (fun r=>[mI.o r.1]):=by
 refine bR.it Tryz.f136 (fun r=>⟨[sP 4 0 0 0,sI 5 r.2.1,sI 6 r.2.2],[mI.o r.1],[],0⟩) ?_
 unfold aO9
 exact Ref.pt (
  .bk 0 (fun aYf=>⟨wW a0 a1++[sI 8 a1],[oX7,.cells [iC 0,.str [],iC 0,iC a1]],[],0⟩) (
   .ck _ <|
   .call [] (aKU _ _) fun lR =>
   .ite _ (
    .bk 1 (fun yZ=>⟨wW a0 a1++[sI 8 yZ],[oX7,.cells [iC 0,.str [],iC 0,iC a1]],[],0⟩) (
     .lp [0,1] (fun aEN=>⟨wW a0 a1++[sI 8 aEN],[oX7,.cells [iC 0,.str [],iC 0,iC a1]],[],0⟩) fun aEN =>
     .ck _ <|
     .lt _ fun aMa =>
     .look (default:Bool) _ [] (aKV K (a0.getD (aEN:Int).toNat 0)) (fun _=>rfl) fun aN0 =>
     .ite _ (
      .bk 2 (fun aRW=>⟨wW a0 a1++[sI 8 aRW],[oX7,.cells [iC 0,.str [],iC 0,iC a1]],[],0⟩) (
       .nil [0,1] _) fun aRW =>
      .nil [0,1] _) (
      .ret [0,1] _)) fun yZ =>
    .mT [0,1,2,3,4] _ <|
    .lt _ fun aHC =>
    .tl [5,6,7] <|
    .call [] (aRU _ _) fun aX7 =>
    .jn (fun aPa=>⟨[sP 4 0 0 0,sP 7 1 0 0,sI 8 yZ],[oX7,.cells [iC aPa,.str aHC,iC 0,iC a1]],[],0⟩) (
     .ite _ (
      .nil [0,1] _) (
      .lt _ fun aX8 =>
      .ite _ (
       .ret [0] _) (
       .nil [0,1] _))) fun aPa =>
    .lt _ fun aX9 =>
    .ite _ (
     .ret [0] _) (
     .ret [0] _)) (
    .ck _ <|
    .call [] (aF9 _ _) fun aYa =>
    .ite _ (
     .bk 3 (fun aCj=>⟨wW a0 a1++[sI 8 aCj.2],[oX7,.cells [iC 0,.str [],iC aCj.1,iC a1]],[],0⟩) (
      .lp [0,1] (fun vF=>⟨wW a0 a1++[sI 8 vF.2],[oX7,.cells [iC 0,.str [],iC vF.1,iC a1]],[],0⟩) fun vF =>
      .ck _ <|
      .lt _ fun aU0 =>
      .look (default:Bool) _ [] (aF9 K (a0.getD (vF.2:Int).toNat 0)) (fun _=>rfl) fun aYb =>
      .ite _ (
       .bk 4 (fun aMA=>⟨wW a0 a1++[sI 8 aMA.2],[oX7,.cells [iC 0,.str [],iC aMA.1,iC a1]],[],0⟩) (
        .lt _ fun aYc =>
        .jn (fun aRX=>⟨wW a0 a1++[sI 8 vF.2],[oX7,.cells [iC 0,.str [],iC aRX,iC a1]],[],0⟩) (
         .ite _ (
          .mT [0,3,4,5,6,7] _ <|
          .lt _ fun aYd =>
          .tl [1,2,8,9,10] <|
          .nil [0,1] _) (
          .nil [0,1] _)) fun aRX =>
        .nil [0,1] _) fun aMA =>
       .nil [0,1] _) (
       .ret [0,1] _)) fun aCj =>
     .mT [0,1,2,3,4] _ <|
     .lt _ fun aU1 =>
     .tl [5,6,7] <|
     .lt _ fun aYe =>
     .ite _ (
      .ret [0] _) (
      .ret [0] _)) (
     .nil [0,1] _))) fun aYf =>
  .call [] (aRV _ _ _) fun aPb =>
  .mT [0,1,2,3,4,5,6] _ <|
  .lt _ fun aU2 =>
  .tl [7,8,9] <|
  .ite _ (
   .ret [0] _) (
   .ret [0] _))
def aOZ (K:Nat) (a0:Bytes):Option (((List tS) × Int × Int) ⊕ ((List tS) × Int × Int)) :=
 (bO (decide (((Int.ofNat a0.length):Int) > 6000)) (fun (x1:Bool)=>(if x1=true then (some (.inl ([],5,6000))) else (bM (bL ((iter K (fun (qX:(List tS) × Int)=>(bO (decide ((qX.2:Int)<(Int.ofNat a0.length))) (fun (x63:Bool)=>(if x63=true then (bM (bL (bW [cS qX.2 a0.length,!(!(((Int.ofNat (a0.getD (qX.2:Int).toNat 0).toNat):Int) == 32)) || cS qX.2 a0.length,!(!((((Int.ofNat (a0.getD (qX.2:Int).toNat 0).toNat):Int) == 32) || (((Int.ofNat (a0.getD (qX.2:Int).toNat 0).toNat):Int) == 9))) || cS qX.2 a0.length,!(!(((((Int.ofNat (a0.getD (qX.2:Int).toNat 0).toNat):Int) == 32) || (((Int.ofNat (a0.getD (qX.2:Int).toNat 0).toNat):Int) == 9)) || (((Int.ofNat (a0.getD (qX.2:Int).toNat 0).toNat):Int) == 10))) || cS qX.2 a0.length] (bO ((((((Int.ofNat (a0.getD (qX.2:Int).toNat 0).toNat):Int) == 32) || (((Int.ofNat (a0.getD (qX.2:Int).toNat 0).toNat):Int) == 9)) || (((Int.ofNat (a0.getD (qX.2:Int).toNat 0).toNat):Int) == 10)) || (((Int.ofNat (a0.getD (qX.2:Int).toNat 0).toNat):Int) == 13)) (fun (x70:Bool)=>(if x70=true then (some (.inl (Sum.inl (qX.1,(IntKind.i64.wrap (qX.2+1)))))) else (bW [cS qX.2 a0.length,!((((Int.ofNat (a0.getD (qX.2:Int).toNat 0).toNat):Int) == 40) && (decide (((IntKind.i64.wrap (qX.2+1)):Int)<(Int.ofNat a0.length)))) || cS (IntKind.i64.wrap (qX.2+1)) a0.length] (bO (((((Int.ofNat (a0.getD (qX.2:Int).toNat 0).toNat):Int) == 40) && (decide (((IntKind.i64.wrap (qX.2+1)):Int)<(Int.ofNat a0.length)))) && (((Int.ofNat (a0.getD ((IntKind.i64.wrap (qX.2+1)):Int).toNat 0).toNat):Int) == 42)) (fun (x71:Bool)=>(if x71=true then ((bU (aO4 K a0 qX.2)).bind (fun r72=>(if (decide ((r72:Int)<0))=true then (some (.inl (Sum.inr (Sum.inr ([],1,qX.2))))) else (some (.inl (Sum.inl (qX.1,r72))))))) else ((bU (aO9 K a0 qX.2)).bind (fun r73=>(if ((r73.2.2:Int) != 0)=true then (some (.inl (Sum.inr (Sum.inr ([],r73.2.2,qX.2))))) else (bO (decide (((Int.ofNat qX.1.length):Int) ≥ 1500)) (fun (x74:Bool)=>(if x74=true then (some (.inl (Sum.inr (Sum.inr ([],5,qX.2))))) else (bW [room ((qX.1.length+([r73.1].length)) * 40)] (some (.inr ((qX.1++[r73.1]),r73.2.1))))))))))))))))))) (fun (u69:(List tS) × Int)=>(some (.inr (u69.1,u69.2))))) else (some (.inl (Sum.inl (qX.1)))))))) ([],0)).map .inl)) (fun (s9:(List tS))=>(some (.inl (s9,0,0))))))))
theorem aRR (K:Nat) (a0:Bytes):bR Tryz.prog 106 [.c (.str a0)] [] (bU (aOZ K a0)) (fun r=>.iV [.c (mI.tree r.1),.c (.val (.int .i64 r.2.1)),.c (.val (.int .i64 r.2.2))]) (fun r=>[]):=by
 refine bR.it Tryz.f106 (fun r=>⟨[(2,.c (mI.tree r.1)),sI 3 r.2.1,sI 4 r.2.2],[],[],0⟩) ?_
 unfold aOZ
 exact Ref.pt (
  .lt _ fun x1 =>
  .ite _ (
   .sl 2 0 2 (x:=.c (.nil)) (y:=(.c (mI.tree []))) (eG.c (El.cO mI)) <|
   .ret [] _) (
   .bk 0 (fun s9=>⟨[(5,.c (.own 0 s9.length))],[mI.row s9],[],0⟩) (
    .ad 4 0 5 mI.ty mI.w (mI.at []) <|
    .lp [0] (fun qX=>⟨[sS 0 a0,(5,.c (.own 0 qX.1.length)),sI 6 qX.2],[mI.row qX.1],[],0⟩) fun qX =>
    .lt _ fun x63 =>
    .ite _ (
     .bk 1 (fun u69=>⟨[sS 0 a0,(5,.c (.own 0 u69.1.length)),sI 6 u69.2],[mI.row u69.1],[],0⟩) (
      .ck _ <|
      .lt _ fun x70 =>
      .ite _ (
       .ret [0] _) (
       .ck _ <|
       .lt _ fun x71 =>
       .ite _ (
        .call [] (aRS _ _ _) fun r72 =>
        .ite _ (
         .sl 11 0 2 (x:=.c (.nil)) (y:=(.c (mI.tree []))) (eG.c (El.cO mI)) <|
         .ret [] _) (
         .ret [0] _)) (
        .call [] (aRY _ _ _) fun r73 =>
        .ite _ (
         .sl 15 0 2 (x:=.c (.nil)) (y:=(.c (mI.tree []))) (eG.c (El.cO mI)) <|
         .ret [] _) (
         .lt _ fun x74 =>
         .ite _ (
          .sl 17 0 2 (x:=.c (.nil)) (y:=(.c (mI.tree []))) (eG.c (El.cO mI)) <|
          .ret [] _) (
          .ob 18 2 3 (x:=.row 153 4 1 (hG [(mI.cs r73.1)])) (y:=(mI.row [r73.1])) (El.bZ mI [r73.1] rfl (by kernel_rfl)) <|
          .sl 18 2 84 (x:=.c (.own 3 1)) (y:=(.c (.own 3 ([r73.1].length)))) (eG.c (eD.own (by first | (simp;done) | (simp;omega) | omega))) <|
          .ck _ <|
          .ob 18 1 4 (x:=.row 153 4 (qX.1.length+([r73.1].length)) fun i j=>bif Nat.blt i qX.1.length then mI.at qX.1 i j else (mI.at [r73.1]) (i - qX.1.length) j) (y:=(mI.row (qX.1++[r73.1]))) (El.cH mI qX.1 [r73.1] rfl rfl) <|
          .sl 18 1 85 (x:=.c (.own 4 (qX.1.length+([r73.1].length)))) (y:=(.c (.own 4 ((qX.1++[r73.1]).length)))) (eG.c (eD.own (by first | (simp;done) | (simp;omega) | omega))) <|
          .nil [4] _))))) fun u69 =>
     .nil [0] _) (
     .ret [0] _)) fun s9 =>
   .fz 20 0 0 <|
   .ret [] _))
end Go.Proofs.YtdbfbedholdjaaaGreat
