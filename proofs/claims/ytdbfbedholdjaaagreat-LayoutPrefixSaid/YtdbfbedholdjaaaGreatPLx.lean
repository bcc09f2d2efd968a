/- No conditions. -/
import Derived.Test.YtdbfbedholdjaaaGreatPTy
import Derived.Test.YtdbfbedholdjaaaGreatProg
set_option linter.unusedVariables false
set_option linter.unusedSimpArgs false
set_option linter.unusedSectionVars false
namespace Go.Proofs.YtdbfbedholdjaaaGreat
open Go Go.Proofs Go.Dl
variable [dW]
set_option maxRecDepth 100000
set_option maxHeartbeats 4000000
def aML (K:Nat) (a0:Bytes) (a1:Bytes):Option ((Bool) ⊕ (Bool)) :=
 (bL (bJ ((iter K (fun (dU:Int)=>(bN (decide (((IntKind.i64.wrap (dU+(Int.ofNat a1.length))):Int)≤(Int.ofNat a0.length))) (fun (l4:Bool)=>(if l4=true then (bL (bJ (bW [cW a0.length dU (IntKind.i64.wrap (dU+(Int.ofNat a1.length)))] (bN (((a0.drop (dU:Int).toNat).take (((IntKind.i64.wrap (dU+(Int.ofNat a1.length))):Int).toNat - (dU:Int).toNat)) == a1) (fun (x31:Bool)=>(if x31=true then (some (.inl (Sum.inr (Sum.inr (true))))) else (some (.inr ()))))))) (fun (eY:Unit)=>(some (.inr ((IntKind.i64.wrap (dU+1))))))) else (some (.inl (Sum.inl ()))))))) (0)).map .inl)) (fun (u16:Unit)=>(some (.inl (false)))))
theorem aK8 (K:Nat) (a0:Bytes) (a1:Bytes):bS Tryz.prog 211 [.c (.str a0),.c (.str a1)] [] (bT (aML K a0 a1)) (fun r=>.c (.val (.bool r))) (fun r=>[]):=by
 refine bS.it Tryz.f211 (fun r=>⟨[sB 4 r],[],[],0⟩) ?_
 unfold aML
 exact Ref.pt (
  .bk 0 (fun u16=>⟨[],[],[],0⟩) (
   .lp [] (fun dU=>⟨[sS 0 a0,sS 1 a1,sI 5 dU],[],[],0⟩) fun dU =>
   .lt _ fun l4 =>
   .ite _ (
    .bk 1 (fun eY=>⟨[sS 0 a0,sS 1 a1,sI 5 dU],[],[],0⟩) (
     .ck _ <|
     .lt _ fun x31 =>
     .ite _ (
      .ret [] _) (
      .nil [] _)) fun eY =>
    .nil [] _) (
    .ret [] _)) fun u16 =>
  .ret [] _)
def aPo (K:Nat) (a0:Bytes) (a1:Int):Option ((Int) ⊕ (Int)) :=
 (bL (bJ ((iter K (fun (gU:Int)=>(bN (decide (((IntKind.i64.wrap (gU+1)):Int)<(Int.ofNat a0.length))) (fun (x34:Bool)=>(if x34=true then (bL (bJ (bW [cS gU a0.length,!(((Int.ofNat (a0.getD (gU:Int).toNat 0).toNat):Int) == 42) || cS (IntKind.i64.wrap (gU+1)) a0.length] (bN ((((Int.ofNat (a0.getD (gU:Int).toNat 0).toNat):Int) == 42) && (((Int.ofNat (a0.getD ((IntKind.i64.wrap (gU+1)):Int).toNat 0).toNat):Int) == 41)) (fun (x37:Bool)=>(if x37=true then (some (.inl (Sum.inr (Sum.inr ((IntKind.i64.wrap (gU+2))))))) else (some (.inr ()))))))) (fun (u36:Unit)=>(some (.inr ((IntKind.i64.wrap (gU+1))))))) else (some (.inl (Sum.inl ()))))))) ((IntKind.i64.wrap (a1+2)))).map .inl)) (fun (u19:Unit)=>(some (.inl ((-1))))))
theorem aSf (K:Nat) (a0:Bytes) (a1:Int):bS Tryz.prog 135 [.c (.str a0),.c (.val (.int .i64 a1))] [] (bT (aPo K a0 a1)) (fun r=>.c (.val (.int .i64 r))) (fun r=>[]):=by
 refine bS.it Tryz.f135 (fun r=>⟨[sI 4 r],[],[],0⟩) ?_
 unfold aPo
 exact Ref.pt (
  .bk 0 (fun u19=>⟨[],[],[],0⟩) (
   .lp [] (fun gU=>⟨[sS 0 a0,sI 5 gU],[],[],0⟩) fun gU =>
   .lt _ fun x34 =>
   .ite _ (
    .bk 1 (fun u36=>⟨[sS 0 a0,sI 5 gU],[],[],0⟩) (
     .ck _ <|
     .lt _ fun x37 =>
     .ite _ (
      .ret [] _) (
      .nil [] _)) fun u36 =>
    .nil [] _) (
    .ret [] _)) fun u19 =>
  .ret [] _)
def aPp (K:Nat) (a0:UInt8):Option ((Bool) ⊕ (Bool)) :=
 (bN (((decide (((Int.ofNat a0.toNat):Int) ≥ 65)) && (decide (((Int.ofNat a0.toNat):Int)≤90))) || ((decide (((Int.ofNat a0.toNat):Int) ≥ 97)) && (decide (((Int.ofNat a0.toNat):Int)≤122)))) (fun (x1:Bool)=>(some (.inl (x1)))))
theorem aK9 (K:Nat) (a0:UInt8):bS Tryz.prog 179 [.c (.val (.int .u8 (Int.ofNat a0.toNat)))] [] (bT (aPp K a0)) (fun r=>.c (.val (.bool r))) (fun r=>[]):=by
 refine bS.it Tryz.f179 (fun r=>⟨[sB 2 r],[],[],0⟩) ?_
 unfold aPp
 exact Ref.pt (
  .lt _ fun x1 =>
  .ret [] _)
def aMM (K:Nat) (a0:UInt8):Option ((Bool) ⊕ (Bool)) :=
 (bN ((decide (((Int.ofNat a0.toNat):Int) ≥ 48)) && (decide (((Int.ofNat a0.toNat):Int)≤57))) (fun (x1:Bool)=>(some (.inl (x1)))))
theorem aGh (K:Nat) (a0:UInt8):bS Tryz.prog 182 [.c (.val (.int .u8 (Int.ofNat a0.toNat)))] [] (bT (aMM K a0)) (fun r=>.c (.val (.bool r))) (fun r=>[]):=by
 refine bS.it Tryz.f182 (fun r=>⟨[sB 2 r],[],[],0⟩) ?_
 unfold aMM
 exact Ref.pt (
  .lt _ fun x1 =>
  .ret [] _)
def aMN (K:Nat) (a0:UInt8):Option ((Bool) ⊕ (Bool)) :=
 ((bT (aPp K a0)).bind (fun r1=>((cH (!r1) (bT (aMM K a0)) default).bind (fun r2=>(bN ((r1 || r2) || (((Int.ofNat a0.toNat):Int) == 95)) (fun (x3:Bool)=>(some (.inl (x3)))))))))
theorem aLa (K:Nat) (a0:UInt8):bS Tryz.prog 180 [.c (.val (.int .u8 (Int.ofNat a0.toNat)))] [] (bT (aMN K a0)) (fun r=>.c (.val (.bool r))) (fun r=>[]):=by
 refine bS.it Tryz.f180 (fun r=>⟨[sB 2 r],[],[],0⟩) ?_
 unfold aMN
 exact Ref.pt (
  .call [] (aK9 _ _) fun r1 =>
  .look (default:Bool) _ [] (aGh K a0) (fun _=>rfl) fun r2 =>
  .lt _ fun x3 =>
  .ret [] _)
def aPq (K:Nat) (a0:Bytes):Option ((Bool) ⊕ (Bool)) :=
 (bL (bJ ((iter K (fun (jF:Int)=>(bN (decide ((jF:Int)<(Int.ofNat a0.length))) (fun (y7:Bool)=>(if y7=true then (bL (bJ (bW [cS jF a0.length] ((bT (aMN K (a0.getD (jF:Int).toNat 0))).bind (fun r29=>(if (!r29)=true then (some (.inl (Sum.inr (Sum.inr (false))))) else (some (.inr ()))))))) (fun (gU:Unit)=>(some (.inr ((IntKind.i64.wrap (jF+1))))))) else (some (.inl (Sum.inl ()))))))) (0)).map .inl)) (fun (wD:Unit)=>(some (.inl (true)))))
theorem aSg (K:Nat) (a0:Bytes):bS Tryz.prog 210 [.c (.str a0)] [] (bT (aPq K a0)) (fun r=>.c (.val (.bool r))) (fun r=>[]):=by
 refine bS.it Tryz.f210 (fun r=>⟨[sB 2 r],[],[],0⟩) ?_
 unfold aPq
 exact Ref.pt (
  .bk 0 (fun wD=>⟨[],[],[],0⟩) (
   .lp [] (fun jF=>⟨[sS 0 a0,sI 3 jF],[],[],0⟩) fun jF =>
   .lt _ fun y7 =>
   .ite _ (
    .bk 1 (fun gU=>⟨[sS 0 a0,sI 3 jF],[],[],0⟩) (
     .ck _ <|
     .call [] (aLa _ _) fun r29 =>
     .ite _ (
      .ret [] _) (
      .nil [] _)) fun gU =>
    .nil [] _) (
    .ret [] _)) fun wD =>
  .ret [] _)
def aPr (K:Nat) (a0:Bytes):Option ((Bool) ⊕ (Bool)) :=
 ((cH (!(a0 == ([]:Bytes))) (bT (aPq K a0)) default).bind (fun r1=>(if ((a0 == ([]:Bytes)) || (!r1))=true then (some (.inl (false))) else (bW [room (([32]:Bytes).length+a0.length),room ((([32]:Bytes)++a0).length+([32]:Bytes).length)] (bL (bJ ((iter K (fun (kB:Int)=>(bN (decide (((IntKind.i64.wrap (kB+(Int.ofNat ((([32]:Bytes)++a0)++([32]:Bytes)).length))):Int)≤386)) (fun (iU:Bool)=>(if iU=true then (bL (bJ (bW [cW ([32,73,78,84,69,82,70,65,67,69,32,69,78,68,95,73,78,84,69,82,70,65,67,69,32,67,76,65,83,83,32,69,78,68,95,67,76,65,83,83,32,80,82,79,71,82,65,77,32,69,78,68,95,80,82,79,71,82,65,77,32,77,69,84,72,79,68,32,69,78,68,95,77,69,84,72,79,68,32,84,65,83,75,32,73,78,84,69,82,86,65,76,32,80,82,73,79,82,73,84,89,32,69,88,84,69,78,68,83,32,73,77,80,76,69,77,69,78,84,83,32,65,66,83,84,82,65,67,84,32,70,73,78,65,76,32,79,86,69,82,82,73,68,69,32,86,65,82,32,65,84,32,73,78,32,79,85,84,32,73,78,84,32,66,79,79,76,32,82,69,65,76,32,76,82,69,65,76,32,65,82,82,65,89,32,79,70,32,82,69,70,95,84,79,32,82,69,70,32,84,79,78,32,84,79,70,32,84,80,32,67,84,85,32,67,84,68,32,82,95,84,82,73,71,32,70,95,84,82,73,71,32,84,82,85,69,32,70,65,76,83,69,32,78,85,76,76,32,84,72,73,83,32,83,85,80,69,82,32,65,83,32,78,79,84,32,65,78,68,32,79,82,32,88,79,82,32,77,79,68,32,73,70,32,84,72,69,78,32,69,76,83,73,70,32,69,76,83,69,32,69,78,68,95,73,70,32,67,65,83,69,32,69,78,68,95,67,65,83,69,32,87,72,73,76,69,32,68,79,32,69,78,68,95,87,72,73,76,69,32,70,79,82,32,84,79,32,66,89,32,69,78,68,95,70,79,82,32,82,69,84,85,82,78,32,69,88,73,84,32,83,84,69,80,32,68,79,78,69,32,67,79,85,78,84,32]:Bytes).length kB (IntKind.i64.wrap (kB+(Int.ofNat ((([32]:Bytes)++a0)++([32]:Bytes)).length)))] (bN (((([32,73,78,84,69,82,70,65,67,69,32,69,78,68,95,73,78,84,69,82,70,65,67,69,32,67,76,65,83,83,32,69,78,68,95,67,76,65,83,83,32,80,82,79,71,82,65,77,32,69,78,68,95,80,82,79,71,82,65,77,32,77,69,84,72,79,68,32,69,78,68,95,77,69,84,72,79,68,32,84,65,83,75,32,73,78,84,69,82,86,65,76,32,80,82,73,79,82,73,84,89,32,69,88,84,69,78,68,83,32,73,77,80,76,69,77,69,78,84,83,32,65,66,83,84,82,65,67,84,32,70,73,78,65,76,32,79,86,69,82,82,73,68,69,32,86,65,82,32,65,84,32,73,78,32,79,85,84,32,73,78,84,32,66,79,79,76,32,82,69,65,76,32,76,82,69,65,76,32,65,82,82,65,89,32,79,70,32,82,69,70,95,84,79,32,82,69,70,32,84,79,78,32,84,79,70,32,84,80,32,67,84,85,32,67,84,68,32,82,95,84,82,73,71,32,70,95,84,82,73,71,32,84,82,85,69,32,70,65,76,83,69,32,78,85,76,76,32,84,72,73,83,32,83,85,80,69,82,32,65,83,32,78,79,84,32,65,78,68,32,79,82,32,88,79,82,32,77,79,68,32,73,70,32,84,72,69,78,32,69,76,83,73,70,32,69,76,83,69,32,69,78,68,95,73,70,32,67,65,83,69,32,69,78,68,95,67,65,83,69,32,87,72,73,76,69,32,68,79,32,69,78,68,95,87,72,73,76,69,32,70,79,82,32,84,79,32,66,89,32,69,78,68,95,70,79,82,32,82,69,84,85,82,78,32,69,88,73,84,32,83,84,69,80,32,68,79,78,69,32,67,79,85,78,84,32]:Bytes).drop (kB:Int).toNat).take (((IntKind.i64.wrap (kB+(Int.ofNat ((([32]:Bytes)++a0)++([32]:Bytes)).length))):Int).toNat - (kB:Int).toNat)) == ((([32]:Bytes)++a0)++([32]:Bytes))) (fun (x32:Bool)=>(if x32=true then (some (.inl (Sum.inr (Sum.inr (true))))) else (some (.inr ()))))))) (fun (y8:Unit)=>(some (.inr ((IntKind.i64.wrap (kB+1))))))) else (some (.inl (Sum.inl ()))))))) (0)).map .inl)) (fun (gO:Unit)=>(some (.inl (false)))))))))
theorem aSh (K:Nat) (a0:Bytes):bS Tryz.prog 181 [.c (.str a0)] [] (bT (aPr K a0)) (fun r=>.c (.val (.bool r))) (fun r=>[]):=by
 refine bS.it Tryz.f181 (fun r=>⟨[sB 2 r],[],[],0⟩) ?_
 unfold aPr
 exact Ref.pt (
  .look (default:Bool) _ [] (aSg K a0) (fun _=>rfl) fun r1 =>
  .ite _ (
   .ret [] _) (
   .ck _ <|
   .bk 0 (fun gO=>⟨[],[],[],0⟩) (
    .lp [] (fun kB=>⟨[sS 3 ((aMO++a0)++aMO),sI 4 kB],[],[],0⟩) fun kB =>
    .lt _ fun iU =>
    .ite _ (
     .bk 1 (fun y8=>⟨[sS 3 ((aMO++a0)++aMO),sI 4 kB],[],[],0⟩) (
      .ck _ <|
      .lt _ fun x32 =>
      .ite _ (
       .ret [] _) (
       .nil [] _)) fun y8 =>
     .nil [] _) (
     .ret [] _)) fun gO =>
   .ret [] _))
def aPs (K:Nat) (a0:Bytes) (a1:Int):Option ((Int) ⊕ (Int)) :=
 (bW [!(decide (((IntKind.i64.wrap (a1+1)):Int)<(Int.ofNat a0.length))) || cW a0.length a1 (IntKind.i64.wrap (a1+2)),!(decide (((IntKind.i64.wrap (a1+1)):Int)<(Int.ofNat a0.length))) || room (([32]:Bytes).length+((a0.drop (a1:Int).toNat).take (((IntKind.i64.wrap (a1+2)):Int).toNat - (a1:Int).toNat)).length),!(decide (((IntKind.i64.wrap (a1+1)):Int)<(Int.ofNat a0.length))) || room ((([32]:Bytes)++((a0.drop (a1:Int).toNat).take (((IntKind.i64.wrap (a1+2)):Int).toNat - (a1:Int).toNat))).length+([32]:Bytes).length)] (bN (decide (((IntKind.i64.wrap (a1+1)):Int)<(Int.ofNat a0.length))) (fun (x1:Bool)=>((cH x1 (bT (aML K ([32,58,61,32,63,61,32,46,46,32,60,62,32,60,61,32,62,61,32]:Bytes) ((([32]:Bytes)++((a0.drop (a1:Int).toNat).take (((IntKind.i64.wrap (a1+2)):Int).toNat - (a1:Int).toNat)))++([32]:Bytes)))) default).bind (fun r2=>(if (x1 && r2)=true then (some (.inl (2))) else (bW [cW a0.length a1 (IntKind.i64.wrap (a1+1))] (bN ((a0.drop (a1:Int).toNat).take (((IntKind.i64.wrap (a1+1)):Int).toNat - (a1:Int).toNat)) (fun (x3:Bytes)=>((bT (aML K ([43,45,42,47,61,60,62,40,41,91,93,44,59,58,46]:Bytes) x3)).bind (fun r4=>(if r4=true then (some (.inl (1))) else (some (.inl (0)))))))))))))))
theorem aSi (K:Nat) (a0:Bytes) (a1:Int):bS Tryz.prog 183 [.c (.str a0),.c (.val (.int .i64 a1))] [] (bT (aPs K a0 a1)) (fun r=>.c (.val (.int .i64 r))) (fun r=>[]):=by
 refine bS.it Tryz.f183 (fun r=>⟨[sI 4 r],[],[],0⟩) ?_
 unfold aPs
 exact Ref.pt (
  .ck _ <|
  .lt _ fun x1 =>
  .look (default:Bool) _ [] (aK8 K ([32,58,61,32,63,61,32,46,46,32,60,62,32,60,61,32,62,61,32]:Bytes) ((aMO++((a0.drop (a1:Int).toNat).take (((IntKind.i64.wrap (a1+2)):Int).toNat - (a1:Int).toNat)))++aMO)) (fun _=>rfl) fun r2 =>
  .ite _ (
   .ret [] _) (
   .ck _ <|
   .lt _ fun x3 =>
   .call [] (aK8 _ _ _) fun r4 =>
   .ite _ (
    .ret [] _) (
    .ret [] _)))
def aPt (K:Nat) (a0:Bytes) (a1:Int):Option ((tS × Int × Int) ⊕ (tS × Int × Int)) :=
 (bL (bJ (bW [cS a1 a0.length] ((bT (aPp K (a0.getD (a1:Int).toNat 0))).bind (fun lP=>(if lP=true then (bL (bJ ((iter K (fun (aEV:Int)=>(bW [!(decide ((aEV:Int)<(Int.ofNat a0.length))) || cS aEV a0.length] (bN (decide ((aEV:Int)<(Int.ofNat a0.length))) (fun (aMp:Bool)=>((cH aMp (bT (aMN K (a0.getD (aEV:Int).toNat 0))) default).bind (fun aOf=>(if (aMp && aOf)=true then (bL (bJ (some (.inr ((IntKind.i64.wrap (aEV+1)))))) (fun (aSj:Int)=>(some (.inr (aSj))))) else (some (.inl (Sum.inl (aEV))))))))))) (a1)).map .inl)) (fun (zB:Int)=>(bW [cW a0.length a1 zB] (bN ((a0.drop (a1:Int).toNat).take ((zB:Int).toNat - (a1:Int).toNat)) (fun (aHK:Bytes)=>((bT (aPr K aHK)).bind (fun aYv=>(bL (if aYv=true then (some (.inr (2))) else (bN (decide (((IntKind.i64.wrap (zB - a1)):Int) > 12)) (fun (aYw:Bool)=>(if aYw=true then (some (.inl (Sum.inr ((⟨1,aHK,0,a1⟩:tS),zB,1)))) else (some (.inr (1))))))) (fun (aPu:Int)=>(bN ((aHK == ([82,69,65,76]:Bytes)) || (aHK == ([76,82,69,65,76]:Bytes))) (fun (aYx:Bool)=>(if aYx=true then (some (.inl (Sum.inr ((⟨aPu,aHK,0,a1⟩:tS),zB,2)))) else (some (.inl (Sum.inr ((⟨aPu,aHK,0,a1⟩:tS),zB,0)))))))))))))))) else (bW [cS a1 a0.length] ((bT (aMM K (a0.getD (a1:Int).toNat 0))).bind (fun aYy=>(if aYy=true then (bL (bJ ((iter K (fun (vG:Int × Int)=>(bW [!(decide ((vG.2:Int)<(Int.ofNat a0.length))) || cS vG.2 a0.length] (bN (decide ((vG.2:Int)<(Int.ofNat a0.length))) (fun (aVj:Bool)=>((cH aVj (bT (aMM K (a0.getD (vG.2:Int).toNat 0))) default).bind (fun aYz=>(if (aVj && aYz)=true then (bL (bJ (bN (decide (((IntKind.i64.wrap (vG.2 - a1)):Int)<6)) (fun (aYA:Bool)=>(bL (if aYA=true then (bW [cS vG.2 a0.length] (bN (IntKind.i64.wrap (IntKind.u8.wrap ((Int.ofNat (a0.getD (vG.2:Int).toNat 0).toNat) - 48))) (fun (aYB:Int)=>(some (.inr ((IntKind.i64.wrap ((IntKind.i64.wrap (vG.1 * 10))+aYB)))))))) else (some (.inr (vG.1)))) (fun (aSk:Int)=>(some (.inr (aSk,(IntKind.i64.wrap (vG.2+1)))))))))) (fun (aMP:Int × Int)=>(some (.inr (aMP.1,aMP.2))))) else (some (.inl (Sum.inl (vG.1,vG.2))))))))))) (0,a1)).map .inl)) (fun (aCp:Int × Int)=>(bW [cW a0.length a1 aCp.2] (bN ((a0.drop (a1:Int).toNat).take ((aCp.2:Int).toNat - (a1:Int).toNat)) (fun (aVk:Bytes)=>(bN ((decide (((IntKind.i64.wrap (aCp.2 - a1)):Int) > 5)) || (decide ((aCp.1:Int) > 32768))) (fun (aYC:Bool)=>(if aYC=true then (some (.inl (Sum.inr ((⟨3,aVk,aCp.1,a1⟩:tS),aCp.2,1)))) else (some (.inl (Sum.inr ((⟨3,aVk,aCp.1,a1⟩:tS),aCp.2,0)))))))))))) else (some (.inr ()))))))))))) (fun (aYD:Unit)=>((bT (aPs K a0 a1)).bind (fun aPv=>(bW [cW a0.length a1 (IntKind.i64.wrap (a1+aPv))] (bN ((a0.drop (a1:Int).toNat).take (((IntKind.i64.wrap (a1+aPv)):Int).toNat - (a1:Int).toNat)) (fun (aVl:Bytes)=>(if ((aPv:Int) == 0)=true then (some (.inl ((⟨4,aVl,0,a1⟩:tS),a1,1))) else (some (.inl ((⟨4,aVl,0,a1⟩:tS),(IntKind.i64.wrap (a1+aPv)),0)))))))))))
abbrev wX (v0:Bytes) (v1:Int):List (Nat × D):=[sS 0 v0,sI 1 v1,sP 4 0 0 0,sP 7 1 0 0]
theorem aSl (K:Nat) (a0:Bytes) (a1:Int):bS Tryz.prog 136 [.c (.str a0),.c (.val (.int .i64 a1))] [] (bT (aPt K a0 a1)) (fun r=>.iT [.agg (mD.cs r.1),.c (.val (.int .i64 r.2.1)),.c (.val (.int .i64 r.2.2))]) (fun r=>[mD.o r.1]):=by
 refine bS.it Tryz.f136 (fun r=>⟨[sP 4 0 0 0,sI 5 r.2.1,sI 6 r.2.2],[mD.o r.1],[],0⟩) ?_
 unfold aPt
 exact Ref.pt (
  .bk 0 (fun aYD=>⟨wX a0 a1++[sI 8 a1],[oX7,.cells [iC 0,.str [],iC 0,iC a1]],[],0⟩) (
   .ck _ <|
   .call [] (aK9 _ _) fun lP =>
   .ite _ (
    .bk 1 (fun zB=>⟨wX a0 a1++[sI 8 zB],[oX7,.cells [iC 0,.str [],iC 0,iC a1]],[],0⟩) (
     .lp [0,1] (fun aEV=>⟨wX a0 a1++[sI 8 aEV],[oX7,.cells [iC 0,.str [],iC 0,iC a1]],[],0⟩) fun aEV =>
     .ck _ <|
     .lt _ fun aMp =>
     .look (default:Bool) _ [] (aLa K (a0.getD (aEV:Int).toNat 0)) (fun _=>rfl) fun aOf =>
     .ite _ (
      .bk 2 (fun aSj=>⟨wX a0 a1++[sI 8 aSj],[oX7,.cells [iC 0,.str [],iC 0,iC a1]],[],0⟩) (
       .nil [0,1] _) fun aSj =>
      .nil [0,1] _) (
      .ret [0,1] _)) fun zB =>
    .lT [0,1,2,3,4] _ <|
    .lt _ fun aHK =>
    .tl [5,6,7] <|
    .call [] (aSh _ _) fun aYv =>
    .jn (fun aPu=>⟨[sP 4 0 0 0,sP 7 1 0 0,sI 8 zB],[oX7,.cells [iC aPu,.str aHK,iC 0,iC a1]],[],0⟩) (
     .ite _ (
      .nil [0,1] _) (
      .lt _ fun aYw =>
      .ite _ (
       .ret [0] _) (
       .nil [0,1] _))) fun aPu =>
    .lt _ fun aYx =>
    .ite _ (
     .ret [0] _) (
     .ret [0] _)) (
    .ck _ <|
    .call [] (aGh _ _) fun aYy =>
    .ite _ (
     .bk 3 (fun aCp=>⟨wX a0 a1++[sI 8 aCp.2],[oX7,.cells [iC 0,.str [],iC aCp.1,iC a1]],[],0⟩) (
      .lp [0,1] (fun vG=>⟨wX a0 a1++[sI 8 vG.2],[oX7,.cells [iC 0,.str [],iC vG.1,iC a1]],[],0⟩) fun vG =>
      .ck _ <|
      .lt _ fun aVj =>
      .look (default:Bool) _ [] (aGh K (a0.getD (vG.2:Int).toNat 0)) (fun _=>rfl) fun aYz =>
      .ite _ (
       .bk 4 (fun aMP=>⟨wX a0 a1++[sI 8 aMP.2],[oX7,.cells [iC 0,.str [],iC aMP.1,iC a1]],[],0⟩) (
        .lt _ fun aYA =>
        .jn (fun aSk=>⟨wX a0 a1++[sI 8 vG.2],[oX7,.cells [iC 0,.str [],iC aSk,iC a1]],[],0⟩) (
         .ite _ (
          .lT [0,3,4,5,6,7] _ <|
          .lt _ fun aYB =>
          .tl [1,2,8,9,10] <|
          .nil [0,1] _) (
          .nil [0,1] _)) fun aSk =>
        .nil [0,1] _) fun aMP =>
       .nil [0,1] _) (
       .ret [0,1] _)) fun aCp =>
     .lT [0,1,2,3,4] _ <|
     .lt _ fun aVk =>
     .tl [5,6,7] <|
     .lt _ fun aYC =>
     .ite _ (
      .ret [0] _) (
      .ret [0] _)) (
     .nil [0,1] _))) fun aYD =>
  .call [] (aSi _ _ _) fun aPv =>
  .lT [0,1,2,3,4,5,6] _ <|
  .lt _ fun aVl =>
  .tl [7,8,9] <|
  .ite _ (
   .ret [0] _) (
   .ret [0] _))
def aPg (K:Nat) (a0:Bytes):Option (((List tS) × Int × Int) ⊕ ((List tS) × Int × Int)) :=
 (bN (decide (((Int.ofNat a0.length):Int) > 6000)) (fun (x1:Bool)=>(if x1=true then (some (.inl ([],5,6000))) else (bL (bJ ((iter K (fun (rA:(List tS) × Int)=>(bN (decide ((rA.2:Int)<(Int.ofNat a0.length))) (fun (x63:Bool)=>(if x63=true then (bL (bJ (bW [cS rA.2 a0.length,!(!(((Int.ofNat (a0.getD (rA.2:Int).toNat 0).toNat):Int) == 32)) || cS rA.2 a0.length,!(!((((Int.ofNat (a0.getD (rA.2:Int).toNat 0).toNat):Int) == 32) || (((Int.ofNat (a0.getD (rA.2:Int).toNat 0).toNat):Int) == 9))) || cS rA.2 a0.length,!(!(((((Int.ofNat (a0.getD (rA.2:Int).toNat 0).toNat):Int) == 32) || (((Int.ofNat (a0.getD (rA.2:Int).toNat 0).toNat):Int) == 9)) || (((Int.ofNat (a0.getD (rA.2:Int).toNat 0).toNat):Int) == 10))) || cS rA.2 a0.length] (bN ((((((Int.ofNat (a0.getD (rA.2:Int).toNat 0).toNat):Int) == 32) || (((Int.ofNat (a0.getD (rA.2:Int).toNat 0).toNat):Int) == 9)) || (((Int.ofNat (a0.getD (rA.2:Int).toNat 0).toNat):Int) == 10)) || (((Int.ofNat (a0.getD (rA.2:Int).toNat 0).toNat):Int) == 13)) (fun (x70:Bool)=>(if x70=true then (some (.inl (Sum.inl (rA.1,(IntKind.i64.wrap (rA.2+1)))))) else (bW [cS rA.2 a0.length,!((((Int.ofNat (a0.getD (rA.2:Int).toNat 0).toNat):Int) == 40) && (decide (((IntKind.i64.wrap (rA.2+1)):Int)<(Int.ofNat a0.length)))) || cS (IntKind.i64.wrap (rA.2+1)) a0.length] (bN (((((Int.ofNat (a0.getD (rA.2:Int).toNat 0).toNat):Int) == 40) && (decide (((IntKind.i64.wrap (rA.2+1)):Int)<(Int.ofNat a0.length)))) && (((Int.ofNat (a0.getD ((IntKind.i64.wrap (rA.2+1)):Int).toNat 0).toNat):Int) == 42)) (fun (x71:Bool)=>(if x71=true then ((bT (aPo K a0 rA.2)).bind (fun r72=>(if (decide ((r72:Int)<0))=true then (some (.inl (Sum.inr (Sum.inr ([],1,rA.2))))) else (some (.inl (Sum.inl (rA.1,r72))))))) else ((bT (aPt K a0 rA.2)).bind (fun r73=>(if ((r73.2.2:Int) != 0)=true then (some (.inl (Sum.inr (Sum.inr ([],r73.2.2,rA.2))))) else (bN (decide (((Int.ofNat rA.1.length):Int) ≥ 1500)) (fun (x74:Bool)=>(if x74=true then (some (.inl (Sum.inr (Sum.inr ([],5,rA.2))))) else (bW [room ((rA.1.length+([r73.1].length)) * 40)] (some (.inr ((rA.1++[r73.1]),r73.2.1))))))))))))))))))) (fun (u69:(List tS) × Int)=>(some (.inr (u69.1,u69.2))))) else (some (.inl (Sum.inl (rA.1)))))))) ([],0)).map .inl)) (fun (tA:(List tS))=>(some (.inl (tA,0,0))))))))
theorem aSe (K:Nat) (a0:Bytes):bS Tryz.prog 106 [.c (.str a0)] [] (bT (aPg K a0)) (fun r=>.iT [.c (mD.tree r.1),.c (.val (.int .i64 r.2.1)),.c (.val (.int .i64 r.2.2))]) (fun r=>[]):=by
 refine bS.it Tryz.f106 (fun r=>⟨[(2,.c (mD.tree r.1)),sI 3 r.2.1,sI 4 r.2.2],[],[],0⟩) ?_
 unfold aPg
 exact Ref.pt (
  .lt _ fun x1 =>
  .ite _ (
   .sl 2 0 2 (x:=.c (.nil)) (y:=(.c (mD.tree []))) (eA.c (El.cN mD)) <|
   .ret [] _) (
   .bk 0 (fun tA=>⟨[(5,.c (.own 0 tA.length))],[mD.row tA],[],0⟩) (
    .ad 4 0 5 mD.ty mD.w (mD.at []) <|
    .lp [0] (fun rA=>⟨[sS 0 a0,(5,.c (.own 0 rA.1.length)),sI 6 rA.2],[mD.row rA.1],[],0⟩) fun rA =>
    .lt _ fun x63 =>
    .ite _ (
     .bk 1 (fun u69=>⟨[sS 0 a0,(5,.c (.own 0 u69.1.length)),sI 6 u69.2],[mD.row u69.1],[],0⟩) (
      .ck _ <|
      .lt _ fun x70 =>
      .ite _ (
       .ret [0] _) (
       .ck _ <|
       .lt _ fun x71 =>
       .ite _ (
        .call [] (aSf _ _ _) fun r72 =>
        .ite _ (
         .sl 11 0 2 (x:=.c (.nil)) (y:=(.c (mD.tree []))) (eA.c (El.cN mD)) <|
         .ret [] _) (
         .ret [0] _)) (
        .call [] (aSl _ _ _) fun r73 =>
        .ite _ (
         .sl 15 0 2 (x:=.c (.nil)) (y:=(.c (mD.tree []))) (eA.c (El.cN mD)) <|
         .ret [] _) (
         .lt _ fun x74 =>
         .ite _ (
          .sl 17 0 2 (x:=.c (.nil)) (y:=(.c (mD.tree []))) (eA.c (El.cN mD)) <|
          .ret [] _) (
          .ob 18 2 3 (x:=.row 153 4 1 (gY [(mD.cs r73.1)])) (y:=(mD.row [r73.1])) (El.bZ mD [r73.1] rfl (by kernel_rfl)) <|
          .sl 18 2 84 (x:=.c (.own 3 1)) (y:=(.c (.own 3 ([r73.1].length)))) (eA.c (dY.own (by first | (simp;done) | (simp;omega) | omega))) <|
          .ck _ <|
          .ob 18 1 4 (x:=.row 153 4 (rA.1.length+([r73.1].length)) fun i j=>bif Nat.blt i rA.1.length then mD.at rA.1 i j else (mD.at [r73.1]) (i - rA.1.length) j) (y:=(mD.row (rA.1++[r73.1]))) (El.cI mD rA.1 [r73.1] rfl rfl) <|
          .sl 18 1 85 (x:=.c (.own 4 (rA.1.length+([r73.1].length)))) (y:=(.c (.own 4 ((rA.1++[r73.1]).length)))) (eA.c (dY.own (by first | (simp;done) | (simp;omega) | omega))) <|
          .nil [4] _))))) fun u69 =>
     .nil [0] _) (
     .ret [0] _)) fun tA =>
   .fz 20 0 0 <|
   .ret [] _))
end Go.Proofs.YtdbfbedholdjaaaGreat
