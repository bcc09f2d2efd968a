/- No conditions. -/
import Derived.Test.YtdbfbedholdjaaaGreatHLH
import Derived.Test.YtdbfbedholdjaaaGreatProg
set_option linter.unusedVariables false
set_option linter.unusedSimpArgs false
set_option linter.unusedSectionVars false
namespace Go.Proofs.YtdbfbedholdjaaaGreat
open Go Go.Proofs Go.Dl
variable [dO]
set_option maxRecDepth 100000
set_option maxHeartbeats 4000000
def F12 (K:Nat) (a0:(List Bytes)) (a1:(List Bytes)):Option ((Bool) ⊕ (Bool)) :=
 (bR (((Int.ofNat a0.length):Int) != (Int.ofNat a1.length)) (fun (x1:Bool)=>(if x1=true then (some (.inl (false))) else (bT (bQ ((iter K (fun (gT:Int)=>(bR (decide ((gT:Int)<(Int.ofNat a0.length))) (fun (x27:Bool)=>(if x27=true then (bT (bQ (bY [cP gT a0.length,cP gT a1.length] (bR (!((a0.getD (gT:Int).toNat default) == (a1.getD (gT:Int).toNat default))) (fun (x30:Bool)=>(if x30=true then (some (.inl (Sum.inr (Sum.inr (false))))) else (some (.inr ()))))))) (fun (u29:Unit)=>(some (.inr ((IntKind.i64.wrap (gT+1))))))) else (some (.inl (Sum.inl ()))))))) (0)).map .inl)) (fun (u16:Unit)=>(some (.inl (true))))))))
theorem aQr (K:Nat) (a0:(List Bytes)) (a1:(List Bytes)):bV Tryz.prog 12 [.c (E9.tree a0),.c (E9.tree a1)] [] (bX (F12 K a0 a1)) (fun r=>.c (.val (.bool r))) (fun r=>[]):=by
 refine bV.it Tryz.f12 (fun r=>⟨[sB 4 r],[],[],0⟩) ?_
 unfold F12
 exact Ref.pt (
  .lt _ fun x1 =>
  .ite _ (
   .ret [] _) (
   .bk 0 (fun u16=>⟨[],[],[],0⟩) (
    .lp [] (fun gT=>⟨[(0,.c (E9.tree a0)),(1,.c (E9.tree a1)),sI 5 gT],[],[],0⟩) fun gT =>
    .lt _ fun x27 =>
    .ite _ (
     .bk 1 (fun u29=>⟨[(0,.c (E9.tree a0)),(1,.c (E9.tree a1)),sI 5 gT],[],[],0⟩) (
      .hO [0,1,2,4,5,6] _ <|
      .tx [] <|
      .ex [3,7,8] <|
      .lt _ fun x30 =>
      .ite _ (
       .ret [] _) (
       .nil [] _)) fun u29 =>
     .nil [] _) (
     .ret [] _)) fun u16 =>
   .ret [] _))
def F32 (K:Nat) (a0:(List Int)) (a1:(List Int)):Option ((Bool) ⊕ (Bool)) :=
 (bR (((Int.ofNat a0.length):Int) != (Int.ofNat a1.length)) (fun (x1:Bool)=>(if x1=true then (some (.inl (false))) else (bT (bQ ((iter K (fun (gT:Int)=>(bR (decide ((gT:Int)<(Int.ofNat a0.length))) (fun (x27:Bool)=>(if x27=true then (bT (bQ (bY [cP gT a0.length,cP gT a1.length] (bR (((a0.getD (gT:Int).toNat default):Int) != (a1.getD (gT:Int).toNat default)) (fun (x30:Bool)=>(if x30=true then (some (.inl (Sum.inr (Sum.inr (false))))) else (some (.inr ()))))))) (fun (u29:Unit)=>(some (.inr ((IntKind.i64.wrap (gT+1))))))) else (some (.inl (Sum.inl ()))))))) (0)).map .inl)) (fun (u16:Unit)=>(some (.inl (true))))))))
theorem wV (K:Nat) (a0:(List Int)) (a1:(List Int)):bV Tryz.prog 32 [.c (E3.tree a0),.c (E3.tree a1)] [] (bX (F32 K a0 a1)) (fun r=>.c (.val (.bool r))) (fun r=>[]):=by
 refine bV.it Tryz.f32 (fun r=>⟨[sB 4 r],[],[],0⟩) ?_
 unfold F32
 exact Ref.pt (
  .lt _ fun x1 =>
  .ite _ (
   .ret [] _) (
   .bk 0 (fun u16=>⟨[],[],[],0⟩) (
    .lp [] (fun gT=>⟨[(0,.c (E3.tree a0)),(1,.c (E3.tree a1)),sI 5 gT],[],[],0⟩) fun gT =>
    .lt _ fun x27 =>
    .ite _ (
     .bk 1 (fun u29=>⟨[(0,.c (E3.tree a0)),(1,.c (E3.tree a1)),sI 5 gT],[],[],0⟩) (
      .hO [0,1,2,4,5,6] _ <|
      .tx [] <|
      .ex [3,7,8] <|
      .lt _ fun x30 =>
      .ite _ (
       .ret [] _) (
       .nil [] _)) fun u29 =>
     .nil [] _) (
     .ret [] _)) fun u16 =>
   .ret [] _))
def F96 (K:Nat) (a0:(List gV)) (a1:(List gV)):Option ((Bool) ⊕ (Bool)) :=
 (bR (((Int.ofNat a0.length):Int) != (Int.ofNat a1.length)) (fun (x1:Bool)=>(if x1=true then (some (.inl (false))) else (bT (bQ ((iter K (fun (gT:Int)=>(bR (decide ((gT:Int)<(Int.ofNat a0.length))) (fun (x27:Bool)=>(if x27=true then (bT (bQ (bY [cP gT a0.length,cP gT a1.length] (bR (!((((a0.getD (gT:Int).toNat default).aF7:Int) == ((a1.getD (gT:Int).toNat default).aF7)) && ((((a0.getD (gT:Int).toNat default).iP:Int) == ((a1.getD (gT:Int).toNat default).iP)) && ((((a0.getD (gT:Int).toNat default).aQs) == ((a1.getD (gT:Int).toNat default).aQs)) && true)))) (fun (x30:Bool)=>(if x30=true then (some (.inl (Sum.inr (Sum.inr (false))))) else (some (.inr ()))))))) (fun (u29:Unit)=>(some (.inr ((IntKind.i64.wrap (gT+1))))))) else (some (.inl (Sum.inl ()))))))) (0)).map .inl)) (fun (u16:Unit)=>(some (.inl (true))))))))
theorem aQt (K:Nat) (a0:(List gV)) (a1:(List gV)):bV Tryz.prog 96 [.c (fC.tree a0),.c (fC.tree a1)] [] (bX (F96 K a0 a1)) (fun r=>.c (.val (.bool r))) (fun r=>[]):=by
 refine bV.it Tryz.f96 (fun r=>⟨[sB 4 r],[],[],0⟩) ?_
 unfold F96
 exact Ref.pt (
  .lt _ fun x1 =>
  .ite _ (
   .ret [] _) (
   .bk 0 (fun u16=>⟨[],[],[],0⟩) (
    .lp [] (fun gT=>⟨[(0,.c (fC.tree a0)),(1,.c (fC.tree a1)),sI 5 gT],[],[],0⟩) fun gT =>
    .lt _ fun x27 =>
    .ite _ (
     .bk 1 (fun u29=>⟨[(0,.c (fC.tree a0)),(1,.c (fC.tree a1)),sI 5 gT],[],[],0⟩) (
      .hO [0,1,2,4,5,6] _ <|
      .tx [] <|
      .ex [3,7,8] <|
      .lt _ fun x30 =>
      .ite _ (
       .ret [] _) (
       .nil [] _)) fun u29 =>
     .nil [] _) (
     .ret [] _)) fun u16 =>
   .ret [] _))
def F97 (K:Nat) (a0:w8) (a1:w8):Option ((Bool) ⊕ (Bool)) :=
 (bR (((a0.gF:Int) != a1.gF) || (!(a0.uX == a1.uX))) (fun (x1:Bool)=>((cE (!x1) (bX (F32 K a0.dM a1.dM)) default).bind (fun r2=>((cE (!(x1 || (!r2))) (bX (F32 K a0.pM a1.pM)) default).bind (fun r3=>((cE (!((x1 || (!r2)) || (!r3))) (bX (F12 K a0.sA a1.sA)) default).bind (fun r4=>(bR ((((x1 || (!r2)) || (!r3)) || (!r4)) || (((Int.ofNat a0.gB.length):Int) != (Int.ofNat a1.gB.length))) (fun (x5:Bool)=>(if x5=true then (some (.inl (false))) else (bT (bQ ((iter K (fun (u35:Int)=>(bR (decide ((u35:Int)<(Int.ofNat a0.gB.length))) (fun (x43:Bool)=>(if x43=true then (bT (bQ (bY [cP u35 a0.gB.length,cP u35 a1.gB.length,!(!((((a0.gB.getD (u35:Int).toNat default).aDn):Int) != ((a1.gB.getD (u35:Int).toNat default).aDn))) || cP u35 a0.gB.length,!(!((((a0.gB.getD (u35:Int).toNat default).aDn):Int) != ((a1.gB.getD (u35:Int).toNat default).aDn))) || cP u35 a1.gB.length] (bR ((((a0.gB.getD (u35:Int).toNat default).aDn):Int) != ((a1.gB.getD (u35:Int).toNat default).aDn)) (fun (x47:Bool)=>((cE (!x47) (bX (F32 K ((a0.gB.getD (u35:Int).toNat default).aAh) ((a1.gB.getD (u35:Int).toNat default).aAh))) default).bind (fun r48=>(if (x47 || (!r48))=true then (some (.inl (Sum.inr (Sum.inr (false))))) else (some (.inr ()))))))))) (fun (u46:Unit)=>(some (.inr ((IntKind.i64.wrap (u35+1))))))) else (some (.inl (Sum.inl ()))))))) (0)).map .inl)) (fun (rL:Unit)=>(some (.inl (true))))))))))))))))
theorem aYz (K:Nat) (a0:w8) (a1:w8):bV Tryz.prog 97 [.agg (nW.cs a0),.agg (nW.cs a1)] [] (bX (F97 K a0 a1)) (fun r=>.c (.val (.bool r))) (fun r=>[]):=by
 refine bV.it Tryz.f97 (fun r=>⟨[sB 4 r],[],[],0⟩) ?_
 unfold F97
 exact Ref.pt (
  .lt _ fun x1 =>
  .look (default:Bool) _ [] (wV K a0.dM a1.dM) (fun _=>rfl) fun r2 =>
  .look (default:Bool) _ [] (wV K a0.pM a1.pM) (fun _=>rfl) fun r3 =>
  .look (default:Bool) _ [] (aQr K a0.sA a1.sA) (fun _=>rfl) fun r4 =>
  .lt _ fun x5 =>
  .ite _ (
   .ret [] _) (
   .bk 0 (fun rL=>⟨[],[],[],0⟩) (
    .lp [0,1] (fun u35=>⟨[sP 2 0 0 0,sP 3 1 0 0,sI 5 u35],[.cells (nW.cs a0),.cells (nW.cs a1)],[],0⟩) fun u35 =>
    .lt _ fun x43 =>
    .ite _ (
     .bk 1 (fun u46=>⟨[sP 2 0 0 0,sP 3 1 0 0,sI 5 u35],[.cells (nW.cs a0),.cells (nW.cs a1)],[],0⟩) (
      .ex [0,2,6,8] <|
      .tx [] <|
      .hO [1,3,4,5,7,9,10,11,12,13,14,15,16,17,18,19,20,21,22,23,24,25] _ <|
      .lt _ fun x47 =>
      .dQ 26 (default:Bool) _ [] (wV K ((gd a0.gB u35).aAh) ((gd a1.gB u35).aAh)) (fun _=>rfl) fun r48 =>
      .ex [27,28] <|
      .ite _ (
       .ret [] _) (
       .nil [0,1] _)) fun u46 =>
     .nil [0,1] _) (
     .ret [] _)) fun rL =>
   .ret [] _))
def F53 (K:Nat) (a0:fF) (a1:fF):Option ((Bool) ⊕ (Bool)) :=
 (bR (((((Int.ofNat a0.cL.length):Int) != (Int.ofNat a1.cL.length)) || (((Int.ofNat a0.cO.length):Int) != (Int.ofNat a1.cO.length))) || (((Int.ofNat a0.dI.length):Int) != (Int.ofNat a1.dI.length))) (fun (x1:Bool)=>((cE (!x1) (bX (F32 K a0.dW a1.dW)) default).bind (fun r2=>(bR ((x1 || (!r2)) || (!(a0.dJ == a1.dJ))) (fun (x3:Bool)=>((cE (!x3) (bX (F32 K a0.dM a1.dM)) default).bind (fun r4=>((cE (!(x3 || (!r4))) (bX (F32 K a0.b8 a1.b8)) default).bind (fun r5=>((cE (!((x3 || (!r4)) || (!r5))) (bX (F96 K a0.fY a1.fY)) default).bind (fun r6=>((cE (!(((x3 || (!r4)) || (!r5)) || (!r6))) (bX (F96 K a0.eP a1.eP)) default).bind (fun r7=>(bR (((((x3 || (!r4)) || (!r5)) || (!r6)) || (!r7)) || (((Int.ofNat a0.eN.length):Int) != (Int.ofNat a1.eN.length))) (fun (x8:Bool)=>(if x8=true then (some (.inl (false))) else (bT (bQ ((iter K (fun (eW:Int)=>(bR (decide ((eW:Int)<(Int.ofNat a0.cL.length))) (fun (x36:Bool)=>(if x36=true then (bT (bQ (bY [cP eW a0.cL.length,cP eW a1.cL.length] ((cE true (bX (F12 K (a0.cL.getD (eW:Int).toNat default) (a1.cL.getD (eW:Int).toNat default))) default).bind (fun r39=>(if (!r39)=true then (some (.inl (Sum.inr (Sum.inr (false))))) else (some (.inr ()))))))) (fun (sY:Unit)=>(some (.inr ((IntKind.i64.wrap (eW+1))))))) else (some (.inl (Sum.inl ()))))))) (0)).map .inl)) (fun (u24:Unit)=>(bT (bQ ((iter K (fun (u61:Int)=>(bR (decide ((u61:Int)<(Int.ofNat a0.cO.length))) (fun (x67:Bool)=>(if x67=true then (bT (bQ (bY [cP u61 a0.cO.length,cP u61 a1.cO.length] ((cE true (bX (F97 K (a0.cO.getD (u61:Int).toNat default) (a1.cO.getD (u61:Int).toNat default))) default).bind (fun r70=>(if (!r70)=true then (some (.inl (Sum.inr (Sum.inr (false))))) else (some (.inr ()))))))) (fun (u69:Unit)=>(some (.inr ((IntKind.i64.wrap (u61+1))))))) else (some (.inl (Sum.inl ()))))))) (0)).map .inl)) (fun (u55:Unit)=>(bT (bQ ((iter K (fun (u92:Int)=>(bR (decide ((u92:Int)<(Int.ofNat a0.eN.length))) (fun (x98:Bool)=>(if x98=true then (bT (bQ (bY [cP u92 a0.eN.length,cP u92 a1.eN.length] (bR (!((((a0.eN.getD (u92:Int).toNat default).y9:Int) == ((a1.eN.getD (u92:Int).toNat default).y9)) && ((((a0.eN.getD (u92:Int).toNat default).mG:Int) == ((a1.eN.getD (u92:Int).toNat default).mG)) && ((((a0.eN.getD (u92:Int).toNat default).mH:Int) == ((a1.eN.getD (u92:Int).toNat default).mH)) && true)))) (fun (a3x:Bool)=>(if a3x=true then (some (.inl (Sum.inr (Sum.inr (false))))) else (some (.inr ()))))))) (fun (aOB:Unit)=>(some (.inr ((IntKind.i64.wrap (u92+1))))))) else (some (.inl (Sum.inl ()))))))) (0)).map .inl)) (fun (u86:Unit)=>(some (.inl (true))))))))))))))))))))))))))
theorem aYA (K:Nat) (a0:fF) (a1:fF):bV Tryz.prog 53 [.agg (vQ.cs a0),.agg (vQ.cs a1)] [] (bX (F53 K a0 a1)) (fun r=>.c (.val (.bool r))) (fun r=>[]):=by
 refine bV.it Tryz.f53 (fun r=>⟨[sB 4 r],[],[],0⟩) ?_
 unfold F53
 exact Ref.pt (
  .lt _ fun x1 =>
  .look (default:Bool) _ [] (wV K a0.dW a1.dW) (fun _=>rfl) fun r2 =>
  .lt _ fun x3 =>
  .look (default:Bool) _ [] (wV K a0.dM a1.dM) (fun _=>rfl) fun r4 =>
  .look (default:Bool) _ [] (wV K a0.b8 a1.b8) (fun _=>rfl) fun r5 =>
  .look (default:Bool) _ [] (aQt K a0.fY a1.fY) (fun _=>rfl) fun r6 =>
  .look (default:Bool) _ [] (aQt K a0.eP a1.eP) (fun _=>rfl) fun r7 =>
  .lt _ fun x8 =>
  .ite _ (
   .ret [] _) (
   .bk 0 (fun u24=>⟨[sP 2 0 0 0,sP 3 1 0 0],[.cells (vQ.cs a0),.cells (vQ.cs a1)],[],0⟩) (
    .lp [0,1] (fun eW=>⟨[sP 2 0 0 0,sP 3 1 0 0,sI 5 eW],[.cells (vQ.cs a0),.cells (vQ.cs a1)],[],0⟩) fun eW =>
    .lt _ fun x36 =>
    .ite _ (
     .bk 1 (fun sY=>⟨[sP 2 0 0 0,sP 3 1 0 0,sI 5 eW],[.cells (vQ.cs a0),.cells (vQ.cs a1)],[],0⟩) (
      .ex [0,2,5,7] <|
      .tx [] <|
      .hO [1,3,4,6,8,9] _ <|
      .dQ 10 (default:Bool) _ [] (aQr K (gd a0.cL eW) (gd a1.cL eW)) (fun _=>rfl) fun r39 =>
      .ex [11] <|
      .ite _ (
       .ret [] _) (
       .nil [0,1] _)) fun sY =>
     .nil [0,1] _) (
     .ret [0,1] _)) fun u24 =>
   .bk 2 (fun u55=>⟨[sP 2 0 0 0,sP 3 1 0 0],[.cells (vQ.cs a0),.cells (vQ.cs a1)],[],0⟩) (
    .lp [0,1] (fun u61=>⟨[sP 2 0 0 0,sP 3 1 0 0,sI 6 u61],[.cells (vQ.cs a0),.cells (vQ.cs a1)],[],0⟩) fun u61 =>
    .lt _ fun x67 =>
    .ite _ (
     .bk 3 (fun u69=>⟨[sP 2 0 0 0,sP 3 1 0 0,sI 6 u61],[.cells (vQ.cs a0),.cells (vQ.cs a1)],[],0⟩) (
      .ex [0,2,5,7] <|
      .tx [] <|
      .hO [1,3,4,6,8,9] _ <|
      .dQ 10 (default:Bool) _ [] (aYz K (gd a0.cO u61) (gd a1.cO u61)) (fun _=>rfl) fun r70 =>
      .ex [11] <|
      .ite _ (
       .ret [] _) (
       .nil [0,1] _)) fun u69 =>
     .nil [0,1] _) (
     .ret [0,1] _)) fun u55 =>
   .bk 4 (fun u86=>⟨[],[],[],0⟩) (
    .lp [0,1] (fun u92=>⟨[sP 2 0 0 0,sP 3 1 0 0,sI 7 u92],[.cells (vQ.cs a0),.cells (vQ.cs a1)],[],0⟩) fun u92 =>
    .lt _ fun x98 =>
    .ite _ (
     .bk 5 (fun aOB=>⟨[sP 2 0 0 0,sP 3 1 0 0,sI 7 u92],[.cells (vQ.cs a0),.cells (vQ.cs a1)],[],0⟩) (
      .ex [0,2,5,7] <|
      .tx [] <|
      .hO [1,3,4,6,8,9,10] _ <|
      .lt _ fun a3x =>
      .ite _ (
       .ret [] _) (
       .nil [0,1] _)) fun aOB =>
     .nil [0,1] _) (
     .ret [] _)) fun u86 =>
   .ret [] _))
def F98 (K:Nat) (a0:(List aEb)) (a1:(List aEb)):Option ((Bool) ⊕ (Bool)) :=
 (bR (((Int.ofNat a0.length):Int) != (Int.ofNat a1.length)) (fun (x1:Bool)=>(if x1=true then (some (.inl (false))) else (bT (bQ ((iter K (fun (gT:Int)=>(bR (decide ((gT:Int)<(Int.ofNat a0.length))) (fun (x27:Bool)=>(if x27=true then (bT (bQ (bY [cP gT a0.length,cP gT a1.length] (bR (!((((a0.getD (gT:Int).toNat default).fK:Int) == ((a1.getD (gT:Int).toNat default).fK)) && ((((a0.getD (gT:Int).toNat default).fA:Int) == ((a1.getD (gT:Int).toNat default).fA)) && ((((a0.getD (gT:Int).toNat default).fB:Int) == ((a1.getD (gT:Int).toNat default).fB)) && true)))) (fun (x30:Bool)=>(if x30=true then (some (.inl (Sum.inr (Sum.inr (false))))) else (some (.inr ()))))))) (fun (u29:Unit)=>(some (.inr ((IntKind.i64.wrap (gT+1))))))) else (some (.inl (Sum.inl ()))))))) (0)).map .inl)) (fun (u16:Unit)=>(some (.inl (true))))))))
theorem aYB (K:Nat) (a0:(List aEb)) (a1:(List aEb)):bV Tryz.prog 98 [.c (aAq.tree a0),.c (aAq.tree a1)] [] (bX (F98 K a0 a1)) (fun r=>.c (.val (.bool r))) (fun r=>[]):=by
 refine bV.it Tryz.f98 (fun r=>⟨[sB 4 r],[],[],0⟩) ?_
 unfold F98
 exact Ref.pt (
  .lt _ fun x1 =>
  .ite _ (
   .ret [] _) (
   .bk 0 (fun u16=>⟨[],[],[],0⟩) (
    .lp [] (fun gT=>⟨[(0,.c (aAq.tree a0)),(1,.c (aAq.tree a1)),sI 5 gT],[],[],0⟩) fun gT =>
    .lt _ fun x27 =>
    .ite _ (
     .bk 1 (fun u29=>⟨[(0,.c (aAq.tree a0)),(1,.c (aAq.tree a1)),sI 5 gT],[],[],0⟩) (
      .hO [0,1,2,4,5,6] _ <|
      .tx [] <|
      .ex [3,7,8] <|
      .lt _ fun x30 =>
      .ite _ (
       .ret [] _) (
       .nil [] _)) fun u29 =>
     .nil [] _) (
     .ret [] _)) fun u16 =>
   .ret [] _))
def F54 (K:Nat) (a0:sL) (a1:sL):Option ((Bool) ⊕ (Bool)) :=
 (bR ((((((a0.aF8:Int) == a1.aF8) && (a0.cG == a1.cG)) && (a0.aF9 == a1.aF9)) && (a0.aYC == a1.aYC)) && ((a0.aJw:Int) == a1.aJw)) (fun (x1:Bool)=>((cE x1 (bX (F98 K a0.aIT a1.aIT)) default).bind (fun r2=>(some (.inl ((x1 && r2))))))))
theorem aYD (K:Nat) (a0:sL) (a1:sL):bV Tryz.prog 54 [.agg (p7.cs a0),.agg (p7.cs a1)] [] (bX (F54 K a0 a1)) (fun r=>.c (.val (.bool r))) (fun r=>[]):=by
 refine bV.it Tryz.f54 (fun r=>⟨[sB 4 r],[],[],0⟩) ?_
 unfold F54
 exact Ref.pt (
  .lt _ fun x1 =>
  .look (default:Bool) _ [] (aYB K a0.aIT a1.aIT) (fun _=>rfl) fun r2 =>
  .ret [] _)
def F16 (K:Nat) (a0:fF) (a1:fF):Option ((Bool) ⊕ (Bool)) :=
 ((bX (F53 K a0 a1)).bind (fun r1=>(bR (((!r1) || ((a0.fD:Int) != a1.fD)) || ((a0.fW:Int) != a1.fW)) (fun (x2:Bool)=>(if x2=true then (some (.inl (false))) else (bT (bQ ((iter K (fun (u24:Int)=>(bR (decide ((u24:Int)<(Int.ofNat a0.dI.length))) (fun (x30:Bool)=>(if x30=true then (bT (bQ (bY [cP u24 a0.dI.length,cP u24 a1.dI.length] ((cE true (bX (F54 K (a0.dI.getD (u24:Int).toNat default) (a1.dI.getD (u24:Int).toNat default))) default).bind (fun r33=>(if (!r33)=true then (some (.inl (Sum.inr (Sum.inr (false))))) else (some (.inr ()))))))) (fun (u32:Unit)=>(some (.inr ((IntKind.i64.wrap (u24+1))))))) else (some (.inl (Sum.inl ()))))))) (0)).map .inl)) (fun (u18:Unit)=>(some (.inl (true))))))))))
theorem aYE (K:Nat) (a0:fF) (a1:fF):bV Tryz.prog 16 [.agg (vQ.cs a0),.agg (vQ.cs a1)] [] (bX (F16 K a0 a1)) (fun r=>.c (.val (.bool r))) (fun r=>[]):=by
 refine bV.it Tryz.f16 (fun r=>⟨[sB 4 r],[],[],0⟩) ?_
 unfold F16
 exact Ref.pt (
  .call [] (aYA _ _ _) fun r1 =>
  .lt _ fun x2 =>
  .ite _ (
   .ret [] _) (
   .bk 0 (fun u18=>⟨[],[],[],0⟩) (
    .lp [0,1] (fun u24=>⟨[sP 2 0 0 0,sP 3 1 0 0,sI 5 u24],[.cells (vQ.cs a0),.cells (vQ.cs a1)],[],0⟩) fun u24 =>
    .lt _ fun x30 =>
    .ite _ (
     .bk 1 (fun u32=>⟨[sP 2 0 0 0,sP 3 1 0 0,sI 5 u24],[.cells (vQ.cs a0),.cells (vQ.cs a1)],[],0⟩) (
      .ex [0,2,5,7] <|
      .tx [] <|
      .hO [1,3,4,6,8,9] _ <|
      .dQ 10 (default:Bool) _ [] (aYD K (gd a0.dI u24) (gd a1.dI u24)) (fun _=>rfl) fun r33 =>
      .ex [11] <|
      .ite _ (
       .ret [] _) (
       .nil [0,1] _)) fun u32 =>
     .nil [0,1] _) (
     .ret [] _)) fun u18 =>
   .ret [] _))
def F31 (K:Nat):Option ((cK) ⊕ (cK)) :=
 (some (.inl ((⟨[(⟨3,([80]:Bytes),([]:Bytes),[],false,false,[(⟨([120]:Bytes),(⟨1,0,0,([]:Bytes)⟩:fS),3,0,0⟩:eZ)],[],[],0,0⟩:iR)]⟩:cK))))
theorem aJx (K:Nat):bV Tryz.prog 31 [] [] (bX (F31 K)) (fun r=>.agg (c9.cs r)) (fun r=>[.cells (c9.cs r)]):=by
 refine bV.it Tryz.f31 (fun r=>⟨[sP 0 0 0 0],[.cells (c9.cs r)],[],0⟩) ?_
 unfold F31
 exact Ref.pt (
  .ob 1 4 1 (El.b9 eX [(⟨wx,(⟨1,0,0,([]:Bytes)⟩:fS),3,0,0⟩:eZ)] rfl rfl) <|
  .fz 1 3 1 <|
  .sk 1 3 4 3 (x:=.nil) (y:=E9.tree []) (El.cJ E9) <|
  .sk 1 3 4 7 (x:=.nil) (y:=jO.tree []) (El.cJ jO) <|
  .sk 1 3 4 8 (x:=.nil) (y:=dV.tree []) (El.cJ dV) <|
  .ob 1 2 2 (El.b9 gW [(⟨3,wP,([]:Bytes),[],false,false,[(⟨wx,(⟨1,0,0,([]:Bytes)⟩:fS),3,0,0⟩:eZ)],[],[],0,0⟩:iR)] rfl rfl) <|
  .fz 1 0 2 <|
  .ret [0] _)
def F48 (K:Nat) (a0:(List Bytes)) (a1:Bytes):Option ((Int) ⊕ (Int)) :=
 (bT (bQ ((iter K (fun (vO:Int)=>(bR (decide ((vO:Int)<(Int.ofNat a0.length))) (fun (x16:Bool)=>(if x16=true then (bT (bQ (bY [cP vO a0.length] (if (a1 == (a0.getD (vO:Int).toNat default))=true then (some (.inl (Sum.inr (Sum.inr (vO))))) else (some (.inr ()))))) (fun (kF:Unit)=>(some (.inr ((IntKind.i64.wrap (vO+1))))))) else (some (.inl (Sum.inl ()))))))) (0)).map .inl)) (fun (u9:Unit)=>(some (.inl ((-1))))))
theorem aYF (K:Nat) (a0:(List Bytes)) (a1:Bytes):bV Tryz.prog 48 [.c (E9.tree a0),.c (.str a1)] [] (bX (F48 K a0 a1)) (fun r=>.c (.val (.int .i64 r))) (fun r=>[]):=by
 refine bV.it Tryz.f48 (fun r=>⟨[sI 4 r],[],[],0⟩) ?_
 unfold F48
 exact Ref.pt (
  .bk 0 (fun u9=>⟨[],[],[],0⟩) (
   .lp [] (fun vO=>⟨[(0,.c (E9.tree a0)),sS 1 a1,sI 7 (Int.ofNat a0.length),sI 8 vO],[],[],0⟩) fun vO =>
   .lt _ fun x16 =>
   .ite _ (
    .bk 1 (fun kF=>⟨[(0,.c (E9.tree a0)),sS 1 a1,sI 7 (Int.ofNat a0.length),sI 8 vO],[],[],0⟩) (
     .ck _ <|
     .ite _ (
      .ret [] _) (
      .nil [] _)) fun kF =>
    .nil [] _) (
    .ret [] _)) fun u9 =>
  .ret [] _)
end Go.Proofs.YtdbfbedholdjaaaGreat
