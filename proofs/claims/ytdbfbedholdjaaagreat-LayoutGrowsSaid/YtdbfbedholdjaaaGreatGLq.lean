/- No conditions. -/
import Derived.Test.YtdbfbedholdjaaaGreatGLH
import Derived.Test.YtdbfbedholdjaaaGreatProg
set_option linter.unusedVariables false
set_option linter.unusedSimpArgs false
set_option linter.unusedSectionVars false
namespace Go.Proofs.YtdbfbedholdjaaaGreat
open Go Go.Proofs Go.Dl
variable [dK]
set_option maxRecDepth 100000
set_option maxHeartbeats 4000000
def F12 (K:Nat) (a0:(List Bytes)) (a1:(List Bytes)):Option ((Bool) ⊕ (Bool)) :=
 (bO (((Int.ofNat a0.length):Int) != (Int.ofNat a1.length)) (fun (x1:Bool)=>(if x1=true then (some (.inl (false))) else (bP (bN ((iter K (fun (iF:Int)=>(bO (decide ((iF:Int)<(Int.ofNat a0.length))) (fun (x27:Bool)=>(if x27=true then (bP (bN (bW [cY iF a0.length,cY iF a1.length] (bO (!((a0.getD (iF:Int).toNat default) == (a1.getD (iF:Int).toNat default))) (fun (x30:Bool)=>(if x30=true then (some (.inl (Sum.inr (Sum.inr (false))))) else (some (.inr ()))))))) (fun (u29:Unit)=>(some (.inr ((IntKind.i64.wrap (iF+1))))))) else (some (.inl (Sum.inl ()))))))) (0)).map .inl)) (fun (u16:Unit)=>(some (.inl (true))))))))
theorem aO7 (K:Nat) (a0:(List Bytes)) (a1:(List Bytes)):bS Tryz.prog 12 [.c (E9.tree a0),.c (E9.tree a1)] [] (bV (F12 K a0 a1)) (fun r=>.c (.val (.bool r))) (fun r=>[]):=by
 refine bS.it Tryz.f12 (fun r=>⟨[sB 4 r],[],[],0⟩) ?_
 unfold F12
 exact Ref.pt (
  .lt _ fun x1 =>
  .ite _ (
   .ret [] _) (
   .bk 0 (fun u16=>⟨[],[],[],0⟩) (
    .lp [] (fun iF=>⟨[(0,.c (E9.tree a0)),(1,.c (E9.tree a1)),sI 5 iF],[],[],0⟩) fun iF =>
    .lt _ fun x27 =>
    .ite _ (
     .bk 1 (fun u29=>⟨[(0,.c (E9.tree a0)),(1,.c (E9.tree a1)),sI 5 iF],[],[],0⟩) (
      .iU [0,1,2,4,5,6] _ <|
      .tx [] <|
      .ex [3,7,8] <|
      .lt _ fun x30 =>
      .ite _ (
       .ret [] _) (
       .nil [] _)) fun u29 =>
     .nil [] _) (
     .ret [] _)) fun u16 =>
   .ret [] _))
def F32 (K:Nat) (a0:(List Int)) (a1:(List Int)):Option ((Bool) ⊕ (Bool)) :=
 (bO (((Int.ofNat a0.length):Int) != (Int.ofNat a1.length)) (fun (x1:Bool)=>(if x1=true then (some (.inl (false))) else (bP (bN ((iter K (fun (iF:Int)=>(bO (decide ((iF:Int)<(Int.ofNat a0.length))) (fun (x27:Bool)=>(if x27=true then (bP (bN (bW [cY iF a0.length,cY iF a1.length] (bO (((a0.getD (iF:Int).toNat default):Int) != (a1.getD (iF:Int).toNat default)) (fun (x30:Bool)=>(if x30=true then (some (.inl (Sum.inr (Sum.inr (false))))) else (some (.inr ()))))))) (fun (u29:Unit)=>(some (.inr ((IntKind.i64.wrap (iF+1))))))) else (some (.inl (Sum.inl ()))))))) (0)).map .inl)) (fun (u16:Unit)=>(some (.inl (true))))))))
theorem wE (K:Nat) (a0:(List Int)) (a1:(List Int)):bS Tryz.prog 32 [.c (E3.tree a0),.c (E3.tree a1)] [] (bV (F32 K a0 a1)) (fun r=>.c (.val (.bool r))) (fun r=>[]):=by
 refine bS.it Tryz.f32 (fun r=>⟨[sB 4 r],[],[],0⟩) ?_
 unfold F32
 exact Ref.pt (
  .lt _ fun x1 =>
  .ite _ (
   .ret [] _) (
   .bk 0 (fun u16=>⟨[],[],[],0⟩) (
    .lp [] (fun iF=>⟨[(0,.c (E3.tree a0)),(1,.c (E3.tree a1)),sI 5 iF],[],[],0⟩) fun iF =>
    .lt _ fun x27 =>
    .ite _ (
     .bk 1 (fun u29=>⟨[(0,.c (E3.tree a0)),(1,.c (E3.tree a1)),sI 5 iF],[],[],0⟩) (
      .iU [0,1,2,4,5,6] _ <|
      .tx [] <|
      .ex [3,7,8] <|
      .lt _ fun x30 =>
      .ite _ (
       .ret [] _) (
       .nil [] _)) fun u29 =>
     .nil [] _) (
     .ret [] _)) fun u16 =>
   .ret [] _))
def F15 (K:Nat) (a0:Int) (a1:Int):Option ((Int) ⊕ (Int)) :=
 (bW [!((IntKind.u64.wrap a1) == 0)] (bO (IntKind.i64.wrap (((IntKind.u64.wrap a0):Int).tmod (IntKind.u64.wrap a1))) (fun (x1:Int)=>(some (.inl (x1))))))
theorem aO8 (K:Nat) (a0:Int) (a1:Int):bS Tryz.prog 15 [.c (.val (.int .i64 a0)),.c (.val (.int .i64 a1))] [] (bV (F15 K a0 a1)) (fun r=>.c (.val (.int .i64 r))) (fun r=>[]):=by
 refine bS.it Tryz.f15 (fun r=>⟨[sI 4 r],[],[],0⟩) ?_
 unfold F15
 exact Ref.pt (
  .ck _ <|
  .lt _ fun x1 =>
  .ret [] _)
def F96 (K:Nat) (a0:(List jU)) (a1:(List jU)):Option ((Bool) ⊕ (Bool)) :=
 (bO (((Int.ofNat a0.length):Int) != (Int.ofNat a1.length)) (fun (x1:Bool)=>(if x1=true then (some (.inl (false))) else (bP (bN ((iter K (fun (iF:Int)=>(bO (decide ((iF:Int)<(Int.ofNat a0.length))) (fun (x27:Bool)=>(if x27=true then (bP (bN (bW [cY iF a0.length,cY iF a1.length] (bO (!((((a0.getD (iF:Int).toNat default).aFz:Int) == ((a1.getD (iF:Int).toNat default).aFz)) && ((((a0.getD (iF:Int).toNat default).lW:Int) == ((a1.getD (iF:Int).toNat default).lW)) && ((((a0.getD (iF:Int).toNat default).aO9) == ((a1.getD (iF:Int).toNat default).aO9)) && true)))) (fun (x30:Bool)=>(if x30=true then (some (.inl (Sum.inr (Sum.inr (false))))) else (some (.inr ()))))))) (fun (u29:Unit)=>(some (.inr ((IntKind.i64.wrap (iF+1))))))) else (some (.inl (Sum.inl ()))))))) (0)).map .inl)) (fun (u16:Unit)=>(some (.inl (true))))))))
theorem aPa (K:Nat) (a0:(List jU)) (a1:(List jU)):bS Tryz.prog 96 [.c (iZ.tree a0),.c (iZ.tree a1)] [] (bV (F96 K a0 a1)) (fun r=>.c (.val (.bool r))) (fun r=>[]):=by
 refine bS.it Tryz.f96 (fun r=>⟨[sB 4 r],[],[],0⟩) ?_
 unfold F96
 exact Ref.pt (
  .lt _ fun x1 =>
  .ite _ (
   .ret [] _) (
   .bk 0 (fun u16=>⟨[],[],[],0⟩) (
    .lp [] (fun iF=>⟨[(0,.c (iZ.tree a0)),(1,.c (iZ.tree a1)),sI 5 iF],[],[],0⟩) fun iF =>
    .lt _ fun x27 =>
    .ite _ (
     .bk 1 (fun u29=>⟨[(0,.c (iZ.tree a0)),(1,.c (iZ.tree a1)),sI 5 iF],[],[],0⟩) (
      .iU [0,1,2,4,5,6] _ <|
      .tx [] <|
      .ex [3,7,8] <|
      .lt _ fun x30 =>
      .ite _ (
       .ret [] _) (
       .nil [] _)) fun u29 =>
     .nil [] _) (
     .ret [] _)) fun u16 =>
   .ret [] _))
def F97 (K:Nat) (a0:S56) (a1:S56):Option ((Bool) ⊕ (Bool)) :=
 (bO (((a0.fV:Int) != a1.fV) || (!(a0.uL == a1.uL))) (fun (x1:Bool)=>((cF (!x1) (bV (F32 K a0.dU a1.dU)) default).bind (fun r2=>((cF (!(x1 || (!r2))) (bV (F32 K a0.pJ a1.pJ)) default).bind (fun r3=>((cF (!((x1 || (!r2)) || (!r3))) (bV (F12 K a0.rO a1.rO)) default).bind (fun r4=>(bO ((((x1 || (!r2)) || (!r3)) || (!r4)) || (((Int.ofNat a0.fZ.length):Int) != (Int.ofNat a1.fZ.length))) (fun (x5:Bool)=>(if x5=true then (some (.inl (false))) else (bP (bN ((iter K (fun (u35:Int)=>(bO (decide ((u35:Int)<(Int.ofNat a0.fZ.length))) (fun (x43:Bool)=>(if x43=true then (bP (bN (bW [cY u35 a0.fZ.length,cY u35 a1.fZ.length,!(!((((a0.fZ.getD (u35:Int).toNat default).aCS):Int) != ((a1.fZ.getD (u35:Int).toNat default).aCS))) || cY u35 a0.fZ.length,!(!((((a0.fZ.getD (u35:Int).toNat default).aCS):Int) != ((a1.fZ.getD (u35:Int).toNat default).aCS))) || cY u35 a1.fZ.length] (bO ((((a0.fZ.getD (u35:Int).toNat default).aCS):Int) != ((a1.fZ.getD (u35:Int).toNat default).aCS)) (fun (x47:Bool)=>((cF (!x47) (bV (F32 K ((a0.fZ.getD (u35:Int).toNat default).zR) ((a1.fZ.getD (u35:Int).toNat default).zR))) default).bind (fun r48=>(if (x47 || (!r48))=true then (some (.inl (Sum.inr (Sum.inr (false))))) else (some (.inr ()))))))))) (fun (u46:Unit)=>(some (.inr ((IntKind.i64.wrap (u35+1))))))) else (some (.inl (Sum.inl ()))))))) (0)).map .inl)) (fun (u27:Unit)=>(some (.inl (true))))))))))))))))
theorem aWy (K:Nat) (a0:S56) (a1:S56):bS Tryz.prog 97 [.agg (yA.cs a0),.agg (yA.cs a1)] [] (bV (F97 K a0 a1)) (fun r=>.c (.val (.bool r))) (fun r=>[]):=by
 refine bS.it Tryz.f97 (fun r=>⟨[sB 4 r],[],[],0⟩) ?_
 unfold F97
 exact Ref.pt (
  .lt _ fun x1 =>
  .look (default:Bool) _ [] (wE K a0.dU a1.dU) (fun _=>rfl) fun r2 =>
  .look (default:Bool) _ [] (wE K a0.pJ a1.pJ) (fun _=>rfl) fun r3 =>
  .look (default:Bool) _ [] (aO7 K a0.rO a1.rO) (fun _=>rfl) fun r4 =>
  .lt _ fun x5 =>
  .ite _ (
   .ret [] _) (
   .bk 0 (fun u27=>⟨[],[],[],0⟩) (
    .lp [0,1] (fun u35=>⟨[sP 2 0 0 0,sP 3 1 0 0,sI 5 u35],[.cells (yA.cs a0),.cells (yA.cs a1)],[],0⟩) fun u35 =>
    .lt _ fun x43 =>
    .ite _ (
     .bk 1 (fun u46=>⟨[sP 2 0 0 0,sP 3 1 0 0,sI 5 u35],[.cells (yA.cs a0),.cells (yA.cs a1)],[],0⟩) (
      .ex [0,2,6,8] <|
      .tx [] <|
      .iU [1,3,4,5,7,9,10,11,12,13,14,15,16,17,18,19,20,21,22,23,24,25] _ <|
      .lt _ fun x47 =>
      .eH 26 (default:Bool) _ [] (wE K ((gd a0.fZ u35).zR) ((gd a1.fZ u35).zR)) (fun _=>rfl) fun r48 =>
      .ex [27,28] <|
      .ite _ (
       .ret [] _) (
       .nil [0,1] _)) fun u46 =>
     .nil [0,1] _) (
     .ret [] _)) fun u27 =>
   .ret [] _))
def F53 (K:Nat) (a0:gK) (a1:gK):Option ((Bool) ⊕ (Bool)) :=
 (bO (((((Int.ofNat a0.cK.length):Int) != (Int.ofNat a1.cK.length)) || (((Int.ofNat a0.cS.length):Int) != (Int.ofNat a1.cS.length))) || (((Int.ofNat a0.dQ.length):Int) != (Int.ofNat a1.dQ.length))) (fun (x1:Bool)=>((cF (!x1) (bV (F32 K a0.eM a1.eM)) default).bind (fun r2=>(bO ((x1 || (!r2)) || (!(a0.dS == a1.dS))) (fun (x3:Bool)=>((cF (!x3) (bV (F32 K a0.dU a1.dU)) default).bind (fun r4=>((cF (!(x3 || (!r4))) (bV (F32 K a0.bY a1.bY)) default).bind (fun r5=>((cF (!((x3 || (!r4)) || (!r5))) (bV (F96 K a0.iK a1.iK)) default).bind (fun r6=>((cF (!(((x3 || (!r4)) || (!r5)) || (!r6))) (bV (F96 K a0.fJ a1.fJ)) default).bind (fun r7=>(bO (((((x3 || (!r4)) || (!r5)) || (!r6)) || (!r7)) || (((Int.ofNat a0.eV.length):Int) != (Int.ofNat a1.eV.length))) (fun (x8:Bool)=>(if x8=true then (some (.inl (false))) else (bP (bN ((iter K (fun (eS:Int)=>(bO (decide ((eS:Int)<(Int.ofNat a0.cK.length))) (fun (x36:Bool)=>(if x36=true then (bP (bN (bW [cY eS a0.cK.length,cY eS a1.cK.length] ((cF true (bV (F12 K (a0.cK.getD (eS:Int).toNat default) (a1.cK.getD (eS:Int).toNat default))) default).bind (fun r39=>(if (!r39)=true then (some (.inl (Sum.inr (Sum.inr (false))))) else (some (.inr ()))))))) (fun (sD:Unit)=>(some (.inr ((IntKind.i64.wrap (eS+1))))))) else (some (.inl (Sum.inl ()))))))) (0)).map .inl)) (fun (u24:Unit)=>(bP (bN ((iter K (fun (u61:Int)=>(bO (decide ((u61:Int)<(Int.ofNat a0.cS.length))) (fun (x67:Bool)=>(if x67=true then (bP (bN (bW [cY u61 a0.cS.length,cY u61 a1.cS.length] ((cF true (bV (F97 K (a0.cS.getD (u61:Int).toNat default) (a1.cS.getD (u61:Int).toNat default))) default).bind (fun r70=>(if (!r70)=true then (some (.inl (Sum.inr (Sum.inr (false))))) else (some (.inr ()))))))) (fun (u69:Unit)=>(some (.inr ((IntKind.i64.wrap (u61+1))))))) else (some (.inl (Sum.inl ()))))))) (0)).map .inl)) (fun (u55:Unit)=>(bP (bN ((iter K (fun (u92:Int)=>(bO (decide ((u92:Int)<(Int.ofNat a0.eV.length))) (fun (x98:Bool)=>(if x98=true then (bP (bN (bW [cY u92 a0.eV.length,cY u92 a1.eV.length] (bO (!((((a0.eV.getD (u92:Int).toNat default).yM:Int) == ((a1.eV.getD (u92:Int).toNat default).yM)) && ((((a0.eV.getD (u92:Int).toNat default).rA:Int) == ((a1.eV.getD (u92:Int).toNat default).rA)) && ((((a0.eV.getD (u92:Int).toNat default).rB:Int) == ((a1.eV.getD (u92:Int).toNat default).rB)) && true)))) (fun (a0p:Bool)=>(if a0p=true then (some (.inl (Sum.inr (Sum.inr (false))))) else (some (.inr ()))))))) (fun (aNN:Unit)=>(some (.inr ((IntKind.i64.wrap (u92+1))))))) else (some (.inl (Sum.inl ()))))))) (0)).map .inl)) (fun (u86:Unit)=>(some (.inl (true))))))))))))))))))))))))))
theorem aWz (K:Nat) (a0:gK) (a1:gK):bS Tryz.prog 53 [.agg (vC.cs a0),.agg (vC.cs a1)] [] (bV (F53 K a0 a1)) (fun r=>.c (.val (.bool r))) (fun r=>[]):=by
 refine bS.it Tryz.f53 (fun r=>⟨[sB 4 r],[],[],0⟩) ?_
 unfold F53
 exact Ref.pt (
  .lt _ fun x1 =>
  .look (default:Bool) _ [] (wE K a0.eM a1.eM) (fun _=>rfl) fun r2 =>
  .lt _ fun x3 =>
  .look (default:Bool) _ [] (wE K a0.dU a1.dU) (fun _=>rfl) fun r4 =>
  .look (default:Bool) _ [] (wE K a0.bY a1.bY) (fun _=>rfl) fun r5 =>
  .look (default:Bool) _ [] (aPa K a0.iK a1.iK) (fun _=>rfl) fun r6 =>
  .look (default:Bool) _ [] (aPa K a0.fJ a1.fJ) (fun _=>rfl) fun r7 =>
  .lt _ fun x8 =>
  .ite _ (
   .ret [] _) (
   .bk 0 (fun u24=>⟨[sP 2 0 0 0,sP 3 1 0 0],[.cells (vC.cs a0),.cells (vC.cs a1)],[],0⟩) (
    .lp [0,1] (fun eS=>⟨[sP 2 0 0 0,sP 3 1 0 0,sI 5 eS],[.cells (vC.cs a0),.cells (vC.cs a1)],[],0⟩) fun eS =>
    .lt _ fun x36 =>
    .ite _ (
     .bk 1 (fun sD=>⟨[sP 2 0 0 0,sP 3 1 0 0,sI 5 eS],[.cells (vC.cs a0),.cells (vC.cs a1)],[],0⟩) (
      .ex [0,2,5,7] <|
      .tx [] <|
      .iU [1,3,4,6,8,9] _ <|
      .eH 10 (default:Bool) _ [] (aO7 K (gd a0.cK eS) (gd a1.cK eS)) (fun _=>rfl) fun r39 =>
      .ex [11] <|
      .ite _ (
       .ret [] _) (
       .nil [0,1] _)) fun sD =>
     .nil [0,1] _) (
     .ret [0,1] _)) fun u24 =>
   .bk 2 (fun u55=>⟨[sP 2 0 0 0,sP 3 1 0 0],[.cells (vC.cs a0),.cells (vC.cs a1)],[],0⟩) (
    .lp [0,1] (fun u61=>⟨[sP 2 0 0 0,sP 3 1 0 0,sI 6 u61],[.cells (vC.cs a0),.cells (vC.cs a1)],[],0⟩) fun u61 =>
    .lt _ fun x67 =>
    .ite _ (
     .bk 3 (fun u69=>⟨[sP 2 0 0 0,sP 3 1 0 0,sI 6 u61],[.cells (vC.cs a0),.cells (vC.cs a1)],[],0⟩) (
      .ex [0,2,5,7] <|
      .tx [] <|
      .iU [1,3,4,6,8,9] _ <|
      .eH 10 (default:Bool) _ [] (aWy K (gd a0.cS u61) (gd a1.cS u61)) (fun _=>rfl) fun r70 =>
      .ex [11] <|
      .ite _ (
       .ret [] _) (
       .nil [0,1] _)) fun u69 =>
     .nil [0,1] _) (
     .ret [0,1] _)) fun u55 =>
   .bk 4 (fun u86=>⟨[],[],[],0⟩) (
    .lp [0,1] (fun u92=>⟨[sP 2 0 0 0,sP 3 1 0 0,sI 7 u92],[.cells (vC.cs a0),.cells (vC.cs a1)],[],0⟩) fun u92 =>
    .lt _ fun x98 =>
    .ite _ (
     .bk 5 (fun aNN=>⟨[sP 2 0 0 0,sP 3 1 0 0,sI 7 u92],[.cells (vC.cs a0),.cells (vC.cs a1)],[],0⟩) (
      .ex [0,2,5,7] <|
      .tx [] <|
      .iU [1,3,4,6,8,9,10] _ <|
      .lt _ fun a0p =>
      .ite _ (
       .ret [] _) (
       .nil [0,1] _)) fun aNN =>
     .nil [0,1] _) (
     .ret [] _)) fun u86 =>
   .ret [] _))
def F98 (K:Nat) (a0:(List aDC)) (a1:(List aDC)):Option ((Bool) ⊕ (Bool)) :=
 (bO (((Int.ofNat a0.length):Int) != (Int.ofNat a1.length)) (fun (x1:Bool)=>(if x1=true then (some (.inl (false))) else (bP (bN ((iter K (fun (iF:Int)=>(bO (decide ((iF:Int)<(Int.ofNat a0.length))) (fun (x27:Bool)=>(if x27=true then (bP (bN (bW [cY iF a0.length,cY iF a1.length] (bO (!((((a0.getD (iF:Int).toNat default).fK:Int) == ((a1.getD (iF:Int).toNat default).fK)) && ((((a0.getD (iF:Int).toNat default).fA:Int) == ((a1.getD (iF:Int).toNat default).fA)) && ((((a0.getD (iF:Int).toNat default).fB:Int) == ((a1.getD (iF:Int).toNat default).fB)) && true)))) (fun (x30:Bool)=>(if x30=true then (some (.inl (Sum.inr (Sum.inr (false))))) else (some (.inr ()))))))) (fun (u29:Unit)=>(some (.inr ((IntKind.i64.wrap (iF+1))))))) else (some (.inl (Sum.inl ()))))))) (0)).map .inl)) (fun (u16:Unit)=>(some (.inl (true))))))))
theorem aWA (K:Nat) (a0:(List aDC)) (a1:(List aDC)):bS Tryz.prog 98 [.c (zZ.tree a0),.c (zZ.tree a1)] [] (bV (F98 K a0 a1)) (fun r=>.c (.val (.bool r))) (fun r=>[]):=by
 refine bS.it Tryz.f98 (fun r=>⟨[sB 4 r],[],[],0⟩) ?_
 unfold F98
 exact Ref.pt (
  .lt _ fun x1 =>
  .ite _ (
   .ret [] _) (
   .bk 0 (fun u16=>⟨[],[],[],0⟩) (
    .lp [] (fun iF=>⟨[(0,.c (zZ.tree a0)),(1,.c (zZ.tree a1)),sI 5 iF],[],[],0⟩) fun iF =>
    .lt _ fun x27 =>
    .ite _ (
     .bk 1 (fun u29=>⟨[(0,.c (zZ.tree a0)),(1,.c (zZ.tree a1)),sI 5 iF],[],[],0⟩) (
      .iU [0,1,2,4,5,6] _ <|
      .tx [] <|
      .ex [3,7,8] <|
      .lt _ fun x30 =>
      .ite _ (
       .ret [] _) (
       .nil [] _)) fun u29 =>
     .nil [] _) (
     .ret [] _)) fun u16 =>
   .ret [] _))
def F54 (K:Nat) (a0:uF) (a1:uF):Option ((Bool) ⊕ (Bool)) :=
 (bO ((((((a0.aFA:Int) == a1.aFA) && (a0.cN == a1.cN)) && (a0.aFB == a1.aFB)) && (a0.aWB == a1.aWB)) && ((a0.aIS:Int) == a1.aIS)) (fun (x1:Bool)=>((cF x1 (bV (F98 K a0.aIj a1.aIj)) default).bind (fun r2=>(some (.inl ((x1 && r2))))))))
theorem aWC (K:Nat) (a0:uF) (a1:uF):bS Tryz.prog 54 [.agg (zY.cs a0),.agg (zY.cs a1)] [] (bV (F54 K a0 a1)) (fun r=>.c (.val (.bool r))) (fun r=>[]):=by
 refine bS.it Tryz.f54 (fun r=>⟨[sB 4 r],[],[],0⟩) ?_
 unfold F54
 exact Ref.pt (
  .lt _ fun x1 =>
  .look (default:Bool) _ [] (aWA K a0.aIj a1.aIj) (fun _=>rfl) fun r2 =>
  .ret [] _)
def F16 (K:Nat) (a0:gK) (a1:gK):Option ((Bool) ⊕ (Bool)) :=
 ((bV (F53 K a0 a1)).bind (fun r1=>(bO (((!r1) || ((a0.fD:Int) != a1.fD)) || ((a0.fW:Int) != a1.fW)) (fun (x2:Bool)=>(if x2=true then (some (.inl (false))) else (bP (bN ((iter K (fun (u24:Int)=>(bO (decide ((u24:Int)<(Int.ofNat a0.dQ.length))) (fun (x30:Bool)=>(if x30=true then (bP (bN (bW [cY u24 a0.dQ.length,cY u24 a1.dQ.length] ((cF true (bV (F54 K (a0.dQ.getD (u24:Int).toNat default) (a1.dQ.getD (u24:Int).toNat default))) default).bind (fun r33=>(if (!r33)=true then (some (.inl (Sum.inr (Sum.inr (false))))) else (some (.inr ()))))))) (fun (u32:Unit)=>(some (.inr ((IntKind.i64.wrap (u24+1))))))) else (some (.inl (Sum.inl ()))))))) (0)).map .inl)) (fun (u18:Unit)=>(some (.inl (true))))))))))
theorem aWD (K:Nat) (a0:gK) (a1:gK):bS Tryz.prog 16 [.agg (vC.cs a0),.agg (vC.cs a1)] [] (bV (F16 K a0 a1)) (fun r=>.c (.val (.bool r))) (fun r=>[]):=by
 refine bS.it Tryz.f16 (fun r=>⟨[sB 4 r],[],[],0⟩) ?_
 unfold F16
 exact Ref.pt (
  .call [] (aWz _ _ _) fun r1 =>
  .lt _ fun x2 =>
  .ite _ (
   .ret [] _) (
   .bk 0 (fun u18=>⟨[],[],[],0⟩) (
    .lp [0,1] (fun u24=>⟨[sP 2 0 0 0,sP 3 1 0 0,sI 5 u24],[.cells (vC.cs a0),.cells (vC.cs a1)],[],0⟩) fun u24 =>
    .lt _ fun x30 =>
    .ite _ (
     .bk 1 (fun u32=>⟨[sP 2 0 0 0,sP 3 1 0 0,sI 5 u24],[.cells (vC.cs a0),.cells (vC.cs a1)],[],0⟩) (
      .ex [0,2,5,7] <|
      .tx [] <|
      .iU [1,3,4,6,8,9] _ <|
      .eH 10 (default:Bool) _ [] (aWC K (gd a0.dQ u24) (gd a1.dQ u24)) (fun _=>rfl) fun r33 =>
      .ex [11] <|
      .ite _ (
       .ret [] _) (
       .nil [0,1] _)) fun u32 =>
     .nil [0,1] _) (
     .ret [] _)) fun u18 =>
   .ret [] _))
def F31 (K:Nat):Option ((cM) ⊕ (cM)) :=
 (some (.inl ((⟨[(⟨3,([80]:Bytes),([]:Bytes),[],false,false,[(⟨([120]:Bytes),(⟨1,0,0,([]:Bytes)⟩:fU),3,0,0⟩:fE)],[],[],0,0⟩:gX)]⟩:cM))))
theorem aIT (K:Nat):bS Tryz.prog 31 [] [] (bV (F31 K)) (fun r=>.agg (dP.cs r)) (fun r=>[.cells (dP.cs r)]):=by
 refine bS.it Tryz.f31 (fun r=>⟨[sP 0 0 0 0],[.cells (dP.cs r)],[],0⟩) ?_
 unfold F31
 exact Ref.pt (
  .ob 1 4 1 (El.cB eX [(⟨wx,(⟨1,0,0,([]:Bytes)⟩:fU),3,0,0⟩:fE)] rfl rfl) <|
  .fz 1 3 1 <|
  .sk 1 3 4 3 (x:=.nil) (y:=E9.tree []) (El.cE E9) <|
  .sk 1 3 4 7 (x:=.nil) (y:=j3.tree []) (El.cE j3) <|
  .sk 1 3 4 8 (x:=.nil) (y:=dO.tree []) (El.cE dO) <|
  .ob 1 2 2 (El.cB gT [(⟨3,wP,([]:Bytes),[],false,false,[(⟨wx,(⟨1,0,0,([]:Bytes)⟩:fU),3,0,0⟩:fE)],[],[],0,0⟩:gX)] rfl rfl) <|
  .fz 1 0 2 <|
  .ret [0] _)
end Go.Proofs.YtdbfbedholdjaaaGreat
