/- No conditions. -/
import Derived.Test.YtdbfbedholdjaaaGreatHTy
import Derived.Test.YtdbfbedholdjaaaGreatProg
set_option linter.unusedVariables false
set_option linter.unusedSimpArgs false
set_option linter.unusedSectionVars false
namespace Go.Proofs.YtdbfbedholdjaaaGreat
open Go Go.Proofs Go.Dl
variable [dO]
set_option maxRecDepth 100000
set_option maxHeartbeats 4000000
def F61 (K:Nat) (a0:cK) (a1:Bytes):Option ((Int) ⊕ (Int)) :=
 (bT (bQ ((iter K (fun (eA:Int)=>(bR (decide ((eA:Int)<(Int.ofNat a0.bP.length))) (fun (kI:Bool)=>(if kI=true then (bT (bQ (bY [cP eA a0.bP.length] (bR (((a0.bP.getD (eA:Int).toNat default).cD) == a1) (fun (x31:Bool)=>(if x31=true then (some (.inl (Sum.inr (Sum.inr (eA))))) else (some (.inr ()))))))) (fun (eW:Unit)=>(some (.inr ((IntKind.i64.wrap (eA+1))))))) else (some (.inl (Sum.inl ()))))))) (0)).map .inl)) (fun (u16:Unit)=>(some (.inl ((-1))))))
theorem lB (K:Nat) (a0:cK) (a1:Bytes):bV Tryz.prog 61 [.agg (c9.cs a0),.c (.str a1)] [] (bX (F61 K a0 a1)) (fun r=>.c (.val (.int .i64 r))) (fun r=>[]):=by
 refine bV.it Tryz.f61 (fun r=>⟨[sI 4 r],[],[],0⟩) ?_
 unfold F61
 exact Ref.pt (
  .bk 0 (fun u16=>⟨[],[],[],0⟩) (
   .lp [0] (fun eA=>⟨[sS 1 a1,sP 2 0 0 0,sI 5 eA],[.cells (c9.cs a0)],[],0⟩) fun eA =>
   .lt _ fun kI =>
   .ite _ (
    .bk 1 (fun eW=>⟨[sS 1 a1,sP 2 0 0 0,sI 5 eA],[.cells (c9.cs a0)],[],0⟩) (
     .ck _ <|
     .lt _ fun x31 =>
     .ite _ (
      .ret [] _) (
      .nil [0] _)) fun eW =>
    .nil [0] _) (
    .ret [] _)) fun u16 =>
  .ret [] _)
def F68 (K:Nat) (a0:cK) (a1:Int):Option ((Int) ⊕ (Int)) :=
 (bR ((decide ((a1:Int)<0)) || (decide ((a1:Int) ≥ (Int.ofNat a0.bP.length)))) (fun (x1:Bool)=>(if x1=true then (some (.inl (0))) else (bY [cP a1 a0.bP.length] (bR ((a0.bP.getD (a1:Int).toNat default).bU) (fun (x2:Int)=>(some (.inl (x2)))))))))
theorem lC (K:Nat) (a0:cK) (a1:Int):bV Tryz.prog 68 [.agg (c9.cs a0),.c (.val (.int .i64 a1))] [] (bX (F68 K a0 a1)) (fun r=>.c (.val (.int .i64 r))) (fun r=>[]):=by
 refine bV.it Tryz.f68 (fun r=>⟨[sI 4 r],[],[],0⟩) ?_
 unfold F68
 exact Ref.pt (
  .lt _ fun x1 =>
  .ite _ (
   .ret [] _) (
   .ck _ <|
   .lt _ fun x2 =>
   .ret [] _))
def aG0 (K:Nat) (a0:(List Int)) (a1:Int):Option ((Bool) ⊕ (Bool)) :=
 (bT (bQ ((iter K (fun (iA:Int)=>(bR (decide ((iA:Int)<(Int.ofNat a0.length))) (fun (uS:Bool)=>(if uS=true then (bT (bQ (bY [cP iA a0.length] (bR (((a0.getD (iA:Int).toNat default):Int) == a1) (fun (gY:Bool)=>(if gY=true then (some (.inl (Sum.inr (Sum.inr (true))))) else (some (.inr ()))))))) (fun (jG:Unit)=>(some (.inr ((IntKind.i64.wrap (iA+1))))))) else (some (.inl (Sum.inl ()))))))) (0)).map .inl)) (fun (tQ:Unit)=>(some (.inl (false)))))
theorem aBL (K:Nat) (a0:(List Int)) (a1:Int):bV Tryz.prog 134 [.c (E3.tree a0),.c (.val (.int .i64 a1))] [] (bX (aG0 K a0 a1)) (fun r=>.c (.val (.bool r))) (fun r=>[]):=by
 refine bV.it Tryz.f134 (fun r=>⟨[sB 4 r],[],[],0⟩) ?_
 unfold aG0
 exact Ref.pt (
  .bk 0 (fun tQ=>⟨[],[],[],0⟩) (
   .lp [] (fun iA=>⟨[(0,.c (E3.tree a0)),sI 1 a1,sI 5 iA],[],[],0⟩) fun iA =>
   .lt _ fun uS =>
   .ite _ (
    .bk 1 (fun jG=>⟨[(0,.c (E3.tree a0)),sI 1 a1,sI 5 iA],[],[],0⟩) (
     .ck _ <|
     .lt _ fun gY =>
     .ite _ (
      .ret [] _) (
      .nil [] _)) fun jG =>
    .nil [] _) (
    .ret [] _)) fun tQ =>
  .ret [] _)
def aOf (K:Nat) (a0:iR) (a1:Bytes):Option ((Int) ⊕ (Int)) :=
 (bT (bQ ((iter K (fun (eA:Int)=>(bR (decide ((eA:Int)<(Int.ofNat a0.bS.length))) (fun (kI:Bool)=>(if kI=true then (bT (bQ (bY [cP eA a0.bS.length] (bR (((a0.bS.getD (eA:Int).toNat default).cD) == a1) (fun (x31:Bool)=>(if x31=true then (some (.inl (Sum.inr (Sum.inr (eA))))) else (some (.inr ()))))))) (fun (eW:Unit)=>(some (.inr ((IntKind.i64.wrap (eA+1))))))) else (some (.inl (Sum.inl ()))))))) (0)).map .inl)) (fun (u16:Unit)=>(some (.inl ((-1))))))
theorem aS3 (K:Nat) (a0:iR) (a1:Bytes):bV Tryz.prog 178 [.agg (gW.cs a0),.c (.str a1)] [] (bX (aOf K a0 a1)) (fun r=>.c (.val (.int .i64 r))) (fun r=>[]):=by
 refine bV.it Tryz.f178 (fun r=>⟨[sI 4 r],[],[],0⟩) ?_
 unfold aOf
 exact Ref.pt (
  .bk 0 (fun u16=>⟨[],[],[],0⟩) (
   .lp [0] (fun eA=>⟨[sS 1 a1,sP 2 0 0 0,sI 5 eA],[gW.o a0],[],0⟩) fun eA =>
   .lt _ fun kI =>
   .ite _ (
    .bk 1 (fun eW=>⟨[sS 1 a1,sP 2 0 0 0,sI 5 eA],[gW.o a0],[],0⟩) (
     .ck _ <|
     .lt _ fun x31 =>
     .ite _ (
      .ret [] _) (
      .nil [0] _)) fun eW =>
    .nil [0] _) (
    .ret [] _)) fun u16 =>
  .ret [] _)
def aBb (K:Nat) (a0:cK) (a1:Int):Option (((List Int)) ⊕ ((List Int))) :=
 (bT (bQ ((iter K (fun (kJ:Int × (List Int))=>((bX (F68 K a0 kJ.1)).bind (fun oJ=>((cE ((oJ:Int) == 2) (bX (aG0 K kJ.2 kJ.1)) default).bind (fun r44=>(if (((oJ:Int) == 2) && (!r44))=true then (bT (bQ (bY [room ((kJ.2.length+([kJ.1].length)) * 8)] (bY [cP kJ.1 a0.bP.length] (bR ((a0.bP.getD (kJ.1:Int).toNat default).gF) (fun (x48:Bytes)=>((cE true (bX (F61 K a0 x48)) default).bind (fun r49=>(some (.inr (r49,(kJ.2++[kJ.1]))))))))))) (fun (u47:Int × (List Int))=>(some (.inr (u47.1,u47.2))))) else (some (.inl (Sum.inl (kJ.2)))))))))) (a1,[])).map .inl)) (fun (u25:(List Int))=>(some (.inl (u25)))))
theorem pN (K:Nat) (a0:cK) (a1:Int):bV Tryz.prog 105 [.agg (c9.cs a0),.c (.val (.int .i64 a1))] [] (bX (aBb K a0 a1)) (fun r=>.c (E3.tree r)) (fun r=>[]):=by
 refine bV.it Tryz.f105 (fun r=>⟨[(4,.c (E3.tree r))],[],[],0⟩) ?_
 unfold aBb
 exact Ref.pt (
  .bk 0 (fun u25=>⟨[(5,.c (.own 0 u25.length))],[E3.row u25],[],0⟩) (
   .ad 1 0 5 E3.ty E3.w (E3.at []) <|
   .lp [0,1] (fun kJ=>⟨[sI 1 kJ.1,sP 2 0 0 0,(5,.c (.own 1 kJ.2.length))],[.cells (c9.cs a0),E3.row kJ.2],[],0⟩) fun kJ =>
   .call [] (lC _ _ _) fun oJ =>
   .look (default:Bool) _ [1] (aBL K kJ.2 kJ.1) (fun _=>rfl) fun r44 =>
   .ite _ (
    .bk 1 (fun u47=>⟨[sI 1 u47.1,sP 2 0 0 0,(5,.c (.own 1 u47.2.length))],[.cells (c9.cs a0),E3.row u47.2],[],0⟩) (
     .ob 3 2 2 (El.b9 E3 [kJ.1] rfl rfl) <|
     .ck _ <|
     .ap 3 1 3 19 E3 kJ.2 [kJ.1] <|
     .ex [1,3] <|
     .tx [] <|
     .hO [0,2,4,5,6] _ <|
     .lt _ fun x48 =>
     .dQ 7 (default:Int) _ [] (lB K a0 x48) (fun _=>rfl) fun r49 =>
     .ex [8] <|
     .nil [0,3] _) fun u47 =>
    .nil [0,1] _) (
    .ret [1] _)) fun u25 =>
  .fz 5 0 0 <|
  .ret [] _)
def aEd (K:Nat) (a0:cK) (a1:Int) (a2:Bytes):Option ((dS × Bool) ⊕ (dS × Bool)) :=
 ((bX (aBb K a0 a1)).bind (fun r1=>((bX (F68 K a0 a1)).bind (fun r2=>(bT (if ((r2:Int) == 1)=true then (some (.inr ([a1]))) else (some (.inr (r1)))) (fun (u3:(List Int))=>(bT (bQ ((iter K (fun (iX:Int)=>(bR (decide ((iX:Int)<(Int.ofNat u3.length))) (fun (gY:Bool)=>(if gY=true then (bT (bQ (bY [cP iX u3.length] (bY [cP (u3.getD (iX:Int).toNat default) a0.bP.length] ((cE true (bX (aOf K (a0.bP.getD ((u3.getD (iX:Int).toNat default):Int).toNat default) a2)) default).bind (fun r32=>(if (decide ((r32:Int) ≥ 0))=true then (bY [cP iX u3.length] (some (.inl (Sum.inr (Sum.inr ((⟨(u3.getD (iX:Int).toNat default),r32⟩:dS),true)))))) else (some (.inr ())))))))) (fun (wK:Unit)=>(some (.inr ((IntKind.i64.wrap (iX+1))))))) else (some (.inl (Sum.inl ()))))))) (0)).map .inl)) (fun (u18:Unit)=>(some (.inl ((⟨0,0⟩:dS),false)))))))))))
theorem uT (K:Nat) (a0:cK) (a1:Int) (a2:Bytes):bV Tryz.prog 133 [.agg (c9.cs a0),.c (.val (.int .i64 a1)),.c (.str a2)] [] (bX (aEd K a0 a1 a2)) (fun r=>.jW [.agg (dY.cs r.1),.c (.val (.bool r.2))]) (fun r=>[.cells (dY.cs r.1)]):=by
 refine bV.it Tryz.f133 (fun r=>⟨[sP 6 0 0 0,sB 7 r.2],[.cells (dY.cs r.1)],[],0⟩) ?_
 unfold aEd
 exact Ref.pt (
  .call [] (pN _ _ _) fun r1 =>
  .call [] (lC _ _ _) fun r2 =>
  .jn (fun u3=>⟨[sS 2 a2,sP 3 0 0 0,sP 6 1 0 0,(8,.c (E3.tree u3))],[.cells (c9.cs a0),.cells [iC 0,iC 0]],[],0⟩) (
   .ite _ (
    .ob 3 1 2 (El.b9 E3 [a1] rfl rfl) <|
    .fz 3 0 2 <|
    .nil [0,1] _) (
    .nil [0,1] _)) fun u3 =>
  .bk 0 (fun u18=>⟨[sP 6 0 0 0],[.cells [iC 0,iC 0]],[],0⟩) (
   .lp [0,1] (fun iX=>⟨[sS 2 a2,sP 3 0 0 0,sP 6 1 0 0,(8,.c (E3.tree u3)),sI 9 iX],[.cells (c9.cs a0),.cells [iC 0,iC 0]],[],0⟩) fun iX =>
   .lt _ fun gY =>
   .ite _ (
    .bk 1 (fun wK=>⟨[sS 2 a2,sP 3 0 0 0,sP 6 1 0 0,(8,.c (E3.tree u3)),sI 9 iX],[.cells (c9.cs a0),.cells [iC 0,iC 0]],[],0⟩) (
     .hO [0,2,3,4,8] _ <|
     .tx [] <|
     .hO [1,5,6,7] _ <|
     .dQ 9 (default:Int) _ [] (aS3 K (a0.bP.getD ((gd u3 iX):Int).toNat default) a2) (fun _=>rfl) fun r32 =>
     .ex [10] <|
     .ite _ (
      .ck _ <|
      .ret [1] _) (
      .nil [0,1] _)) fun wK =>
    .nil [0,1] _) (
    .ret [1] _)) fun u18 =>
  .ret [0] _)
def aIW (K:Nat) (a0:cK) (a1:Int):Option (((List Int)) ⊕ ((List Int))) :=
 ((bX (aBb K a0 a1)).bind (fun r1=>(bT (bQ ((iter K (fun (vD:(List Int) × Int)=>(bR (decide ((vD.2:Int)<(Int.ofNat r1.length))) (fun (a0L:Bool)=>(if a0L=true then (bT (bQ (bY [cP vD.2 r1.length] (bY [cP (r1.getD (vD.2:Int).toNat default) a0.bP.length] (bR ((a0.bP.getD ((r1.getD (vD.2:Int).toNat default):Int).toNat default).cL) (fun (aIX:(List Bytes))=>(bT (bQ ((iter K (fun (sM:(List Int) × Int)=>(bR (decide ((sM.2:Int)<(Int.ofNat aIX.length))) (fun (a0M:Bool)=>(if a0M=true then (bT (bQ (bY [cP sM.2 aIX.length] ((cE true (bX (F61 K a0 (aIX.getD (sM.2:Int).toNat default))) default).bind (fun aG1=>((bX (F68 K a0 aG1)).bind (fun aXu=>((cE ((aXu:Int) == 1) (bX (aG0 K sM.1 aG1)) default).bind (fun a0N=>(if (((aXu:Int) == 1) && (!a0N))=true then (bY [room ((sM.1.length+([aG1].length)) * 8)] (some (.inr ((sM.1++[aG1]))))) else (some (.inr (sM.1)))))))))))) (fun (aOg:(List Int))=>(some (.inr (aOg,(IntKind.i64.wrap (sM.2+1))))))) else (some (.inl (Sum.inl (sM.1)))))))) (vD.1,0)).map .inl)) (fun (aOh:(List Int))=>(some (.inr (aOh)))))))))) (fun (aOi:(List Int))=>(some (.inr (aOi,(IntKind.i64.wrap (vD.2+1))))))) else (some (.inl (Sum.inl (vD.1)))))))) ([],0)).map .inl)) (fun (aOj:(List Int))=>(some (.inl (aOj)))))))
theorem aFD (K:Nat) (a0:cK) (a1:Int):bV Tryz.prog 101 [.agg (c9.cs a0),.c (.val (.int .i64 a1))] [] (bX (aIW K a0 a1)) (fun r=>.c (E3.tree r)) (fun r=>[]):=by
 refine bV.it Tryz.f101 (fun r=>⟨[(4,.c (E3.tree r))],[],[],0⟩) ?_
 unfold aIW
 exact Ref.pt (
  .call [] (pN _ _ _) fun r1 =>
  .bk 0 (fun aOj=>⟨[(5,.c (.own 0 aOj.length))],[E3.row aOj],[],0⟩) (
   .ad 3 0 5 E3.ty E3.w (E3.at []) <|
   .lp [0,1] (fun vD=>⟨[sP 2 0 0 0,(5,.c (.own 1 vD.1.length)),(6,.c (E3.tree r1)),sI 7 vD.2],[.cells (c9.cs a0),E3.row vD.1],[],0⟩) fun vD =>
   .lt _ fun a0L =>
   .ite _ (
    .bk 1 (fun aOi=>⟨[sP 2 0 0 0,(5,.c (.own 1 aOi.length)),(6,.c (E3.tree r1)),sI 7 vD.2],[.cells (c9.cs a0),E3.row aOi],[],0⟩) (
     .hO [0,2,3,4] _ <|
     .tx [] <|
     .hO [1,5,6,7,8,9] _ <|
     .lt _ fun aIX =>
     .bk 2 (fun aOh=>⟨[sP 2 0 0 0,(5,.c (.own 1 aOh.length)),(6,.c (E3.tree r1)),sI 7 vD.2],[.cells (c9.cs a0),E3.row aOh],[],0⟩) (
      .lp [0,1] (fun sM=>⟨[sP 2 0 0 0,(5,.c (.own 1 sM.1.length)),(6,.c (E3.tree r1)),sI 7 vD.2,(8,.c (E9.tree aIX)),sI 9 sM.2],[.cells (c9.cs a0),E3.row sM.1],[],0⟩) fun sM =>
      .lt _ fun a0M =>
      .ite _ (
       .bk 3 (fun aOg=>⟨[sP 2 0 0 0,(5,.c (.own 1 aOg.length)),(6,.c (E3.tree r1)),sI 7 vD.2,(8,.c (E9.tree aIX)),sI 9 sM.2],[.cells (c9.cs a0),E3.row aOg],[],0⟩) (
        .hO [1,2,3] _ <|
        .tx [] <|
        .ex [0,4] <|
        .dQ 5 (default:Int) _ [] (lB K a0 (gd aIX sM.2)) (fun _=>rfl) fun aG1 =>
        .ex [6] <|
        .call [] (lC _ _ _) fun aXu =>
        .look (default:Bool) _ [1] (aBL K sM.1 aG1) (fun _=>rfl) fun a0N =>
        .ite _ (
         .ob 12 2 2 (El.b9 E3 [aG1] rfl rfl) <|
         .ck _ <|
         .ap 12 1 3 54 E3 sM.1 [aG1] <|
         .nil [0,3] _) (
         .nil [0,1] _)) fun aOg =>
       .nil [0,1] _) (
       .ret [0,1] _)) fun aOh =>
     .nil [0,1] _) fun aOi =>
    .nil [0,1] _) (
    .ret [1] _)) fun aOj =>
  .fz 13 0 0 <|
  .ret [] _)
def F70 (K:Nat) (a0:cK) (a1:Int):Option (((List eZ)) ⊕ ((List eZ))) :=
 ((bX (F68 K a0 a1)).bind (fun r1=>(if ((r1:Int) == 3)=true then (bY [cP a1 a0.bP.length] (bR ((a0.bP.getD (a1:Int).toNat default).cA) (fun (x2:(List eZ))=>(bY [room (x2.length * 80)] (some (.inl (x2))))))) else ((bX (aBb K a0 a1)).bind (fun r3=>(bR (IntKind.i64.wrap ((Int.ofNat r3.length) - 1)) (fun (x4:Int)=>(bT (bQ ((iter K (fun (eA:(List eZ) × Int)=>(if (decide ((eA.2:Int) ≥ 0))=true then (bT (bQ (bY [cP eA.2 r3.length] (bY [cP (r3.getD (eA.2:Int).toNat default) a0.bP.length] (bR ((a0.bP.getD ((r3.getD (eA.2:Int).toNat default):Int).toNat default).cA) (fun (gY:(List eZ))=>(bY [room ((eA.1.length+gY.length) * 80)] (some (.inr ((eA.1++gY)))))))))) (fun (jG:(List eZ))=>(some (.inr (jG,(IntKind.i64.wrap (eA.2 - 1))))))) else (some (.inl (Sum.inl (eA.1)))))) ([],x4)).map .inl)) (fun (kF:(List eZ))=>(some (.inl (kF))))))))))))
theorem aFE (K:Nat) (a0:cK) (a1:Int):bV Tryz.prog 70 [.agg (c9.cs a0),.c (.val (.int .i64 a1))] [] (bX (F70 K a0 a1)) (fun r=>.c (eX.tree r)) (fun r=>[]):=by
 refine bV.it Tryz.f70 (fun r=>⟨[(4,.c (eX.tree r))],[],[],0⟩) ?_
 unfold F70
 exact Ref.pt (
  .call [] (lC _ _ _) fun r1 =>
  .ite _ (
   .ck _ <|
   .lt _ fun x2 =>
   .ck _ <|
   .fz 2 0 1 <|
   .ret [] _) (
   .call [] (pN _ _ _) fun r3 =>
   .lt _ fun x4 =>
   .bk 0 (fun kF=>⟨[(5,.c (.own 0 kF.length))],[eX.row kF],[],0⟩) (
    .ad 5 0 5 eX.ty eX.w (eX.at []) <|
    .lp [0,1] (fun eA=>⟨[sP 2 0 0 0,(5,.c (.own 1 eA.1.length)),(6,.c (E3.tree r3)),sI 7 eA.2],[.cells (c9.cs a0),eX.row eA.1],[],0⟩) fun eA =>
    .ite _ (
     .bk 1 (fun jG=>⟨[sP 2 0 0 0,(5,.c (.own 1 jG.length)),(6,.c (E3.tree r3)),sI 7 eA.2],[.cells (c9.cs a0),eX.row jG],[],0⟩) (
      .hO [0,1,3,4,5] _ <|
      .tx [10,11] <|
      .hO [2,6,7,8,9] _ <|
      .lt _ fun gY =>
      .tl [10,11] <|
      .ck _ <|
      .ap 8 1 2 39 eX eA.1 gY <|
      .nil [0,2] _) fun jG =>
     .nil [0,1] _) (
     .ret [1] _)) fun kF =>
   .fz 9 0 0 <|
   .ret [] _))
def aL8 (K:Nat) (a0:hU) (a1:hU):Option ((Bool) ⊕ (Bool)) :=
 (bR ((((Int.ofNat a0.cG.length):Int) != (Int.ofNat a1.cG.length)) || (!(((a0.eU.bU:Int) == a1.eU.bU) && (((a0.eU.fLo:Int) == a1.eU.fLo) && (((a0.eU.zO:Int) == a1.eU.zO) && ((a0.eU.cD == a1.eU.cD) && true)))))) (fun (x1:Bool)=>(if x1=true then (some (.inl (false))) else (bT (bQ ((iter K (fun (iX:Int)=>(bR (decide ((iX:Int)<(Int.ofNat a0.cG.length))) (fun (gY:Bool)=>(if gY=true then (bT (bQ (bY [cP iX a0.cG.length,cP iX a1.cG.length] (bR (!(((((a0.cG.getD (iX:Int).toNat default).cB).bU:Int) == (((a1.cG.getD (iX:Int).toNat default).cB).bU)) && (((((a0.cG.getD (iX:Int).toNat default).cB).fLo:Int) == (((a1.cG.getD (iX:Int).toNat default).cB).fLo)) && (((((a0.cG.getD (iX:Int).toNat default).cB).zO:Int) == (((a1.cG.getD (iX:Int).toNat default).cB).zO)) && (((((a0.cG.getD (iX:Int).toNat default).cB).cD) == (((a1.cG.getD (iX:Int).toNat default).cB).cD)) && true))))) (fun (x32:Bool)=>(if x32=true then (some (.inl (Sum.inr (Sum.inr (false))))) else (some (.inr ()))))))) (fun (wK:Unit)=>(some (.inr ((IntKind.i64.wrap (iX+1))))))) else (some (.inl (Sum.inl ()))))))) (0)).map .inl)) (fun (kF:Unit)=>(some (.inl (true))))))))
theorem aKs (K:Nat) (a0:hU) (a1:hU):bV Tryz.prog 195 [.agg (jO.cs a0),.agg (jO.cs a1)] [] (bX (aL8 K a0 a1)) (fun r=>.c (.val (.bool r))) (fun r=>[]):=by
 refine bV.it Tryz.f195 (fun r=>⟨[sB 4 r],[],[],0⟩) ?_
 unfold aL8
 exact Ref.pt (
  .lt _ fun x1 =>
  .ite _ (
   .ret [] _) (
   .bk 0 (fun kF=>⟨[],[],[],0⟩) (
    .lp [0,1] (fun iX=>⟨[sP 2 0 0 0,sP 3 1 0 0,sI 5 iX],[jO.o a0,jO.o a1],[],0⟩) fun iX =>
    .lt _ fun gY =>
    .ite _ (
     .bk 1 (fun wK=>⟨[sP 2 0 0 0,sP 3 1 0 0,sI 5 iX],[jO.o a0,jO.o a1],[],0⟩) (
      .ex [0,2,6,8] <|
      .tx [] <|
      .hO [1,3,4,5,7,9,10,11,12] _ <|
      .lt _ fun x32 =>
      .ite _ (
       .ret [] _) (
       .nil [0,1] _)) fun wK =>
     .nil [0,1] _) (
     .ret [] _)) fun kF =>
   .ret [] _))
def F63 (K:Nat) (a0:cK) (a1:dS):Option ((hU) ⊕ (hU)) :=
 (bY [cP a1.cZ a0.bP.length,cP a1.dF ((a0.bP.getD (a1.cZ:Int).toNat default).bS).length] (some (.inl ((((a0.bP.getD (a1.cZ:Int).toNat default).bS).getD (a1.dF:Int).toNat default)))))
theorem wL (K:Nat) (a0:cK) (a1:dS):bV Tryz.prog 63 [.agg (c9.cs a0),.agg (dY.cs a1)] [] (bX (F63 K a0 a1)) (fun r=>.agg (jO.cs r)) (fun r=>[jO.o r]):=by
 refine bV.it Tryz.f63 (fun r=>⟨[sP 4 0 0 0],[jO.o r],[],0⟩) ?_
 unfold F63
 exact Ref.pt (
  .ex [0,2,7] <|
  .tx [11] <|
  .hO [1,3,4,5,6,8,9,10] _ <|
  .tl [11] <|
  .ret [2] _)
end Go.Proofs.YtdbfbedholdjaaaGreat

namespace Go.Proofs.YtdbfbedholdjaaaGreat
open Go Go.Proofs Go.Dl
variable [dO]
set_option maxRecDepth 100000
set_option maxHeartbeats 4000000
def aIY (K:Nat) (a0:cK) (a1:dS):Option ((Bool) ⊕ (Bool)) :=
 ((cE true (bX (F68 K a0 a1.cZ)) default).bind (fun r1=>(bY [!(((r1:Int) == 2) && (decide ((a1.dF:Int) ≥ 0))) || cP a1.cZ a0.bP.length] (bR ((((r1:Int) == 2) && (decide ((a1.dF:Int) ≥ 0))) && (decide ((a1.dF:Int)<(Int.ofNat ((a0.bP.getD (a1.cZ:Int).toNat default).bS).length)))) (fun (x2:Bool)=>(some (.inl (x2))))))))
theorem aFF (K:Nat) (a0:cK) (a1:dS):bV Tryz.prog 201 [.agg (c9.cs a0),.agg (dY.cs a1)] [] (bX (aIY K a0 a1)) (fun r=>.c (.val (.bool r))) (fun r=>[]):=by
 refine bV.it Tryz.f201 (fun r=>⟨[sB 4 r],[],[],0⟩) ?_
 unfold aIY
 exact Ref.pt (
  .ex [1] <|
  .tx [] <|
  .ex [0,2] <|
  .dQ 3 (default:Int) _ [] (lC K a0 a1.cZ) (fun _=>rfl) fun r1 =>
  .hO [4,5,6,7,8,9,10,11,12,13,14,15,16,17,18,19,20,21,22,23] _ <|
  .lt _ fun x2 =>
  .ret [] _)
def aG2 (K:Nat) (a0:cK) (a1:dS):Option ((Bool) ⊕ (Bool)) :=
 ((bX (aIY K a0 a1)).bind (fun r1=>((cE (!r1) (bX (F68 K a0 a1.cZ)) default).bind (fun r2=>(bR (r1 || (((r2:Int) == 3) && ((a1.dF:Int) == (-1)))) (fun (x3:Bool)=>(some (.inl (x3)))))))))
theorem aBM (K:Nat) (a0:cK) (a1:dS):bV Tryz.prog 194 [.agg (c9.cs a0),.agg (dY.cs a1)] [] (bX (aG2 K a0 a1)) (fun r=>.c (.val (.bool r))) (fun r=>[]):=by
 refine bV.it Tryz.f194 (fun r=>⟨[sB 4 r],[],[],0⟩) ?_
 unfold aG2
 exact Ref.pt (
  .call [] (aFF _ _ _) fun r1 =>
  .look (default:Int) _ [] (lC K a0 a1.cZ) (fun _=>rfl) fun r2 =>
  .lt _ fun x3 =>
  .ret [] _)
def aL9 (K:Nat) (a0:cK) (a1:dS):Option (((List eZ)) ⊕ ((List eZ))) :=
 ((bX (aG2 K a0 a1)).bind (fun r1=>(if (!r1)=true then (some (.inl ([]))) else (if (decide ((a1.dF:Int)<0))=true then (bY [cP a1.cZ a0.bP.length] (bR ((a0.bP.getD (a1.cZ:Int).toNat default).cA) (fun (x2:(List eZ))=>(bY [room (x2.length * 80)] (some (.inl (x2))))))) else (bY [cP a1.cZ a0.bP.length,cP a1.dF ((a0.bP.getD (a1.cZ:Int).toNat default).bS).length] (bR ((((a0.bP.getD (a1.cZ:Int).toNat default).bS).getD (a1.dF:Int).toNat default).cG) (fun (x4:(List eZ))=>(bY [room (x4.length * 80)] (bR ((((a0.bP.getD (a1.cZ:Int).toNat default).bS).getD (a1.dF:Int).toNat default).cA) (fun (x5:(List eZ))=>(bY [room ((x4.length+x5.length) * 80)] ((bX (F70 K a0 a1.cZ)).bind (fun r6=>(bY [room ((((x4++x5).length)+r6.length) * 80)] (some (.inl (((x4++x5)++r6))))))))))))))))))
theorem aKt (K:Nat) (a0:cK) (a1:dS):bV Tryz.prog 149 [.agg (c9.cs a0),.agg (dY.cs a1)] [] (bX (aL9 K a0 a1)) (fun r=>.c (eX.tree r)) (fun r=>[]):=by
 refine bV.it Tryz.f149 (fun r=>⟨[(4,.c (eX.tree r))],[],[],0⟩) ?_
 unfold aL9
 exact Ref.pt (
  .call [] (aBM _ _ _) fun r1 =>
  .ite _ (
   .sl 2 0 4 (x:=.c (.nil)) (y:=(.c (eX.tree []))) (jS.c (El.cJ eX)) <|
   .ret [] _) (
   .ite _ (
    .ck _ <|
    .lt _ fun x2 =>
    .ck _ <|
    .fz 4 0 2 <|
    .ret [] _) (
    .ex [0,2,7] <|
    .tx [12] <|
    .hO [1,3,4,5,6,8,9,10] _ <|
    .all [2,3,32,5] (rg (cd (bd Tryz.f149) [1,1,1,0])) [true,true,true,true,true,true,true,true,true,true,true,false,false] (hl []) ⟨[sP 2 0 0 0,sP 3 1 0 0,sP 5 2 0 0],[.cells (c9.cs a0),.cells (dY.cs a1),jO.o (gd ((gd a0.bP a1.cZ).bS) a1.dF)],[],0⟩ [.s 2,.s 3,.s 5] <|
    .lt _ fun x4 =>
    .ck _ <|
    .lt _ fun x5 =>
    .ck _ <|
    .ap 7 1 4 39 eX x4 x5 <|
    .call [] (aFE _ _ _) fun r6 =>
    .ck _ <|
    .ap 8 1 5 45 eX (x4++x5) r6 <|
    .fz 8 0 5 <|
    .ret [] _)))
def aIZ (K:Nat) (a0:cK) (a1:dS) (a2:Bytes):Option ((eZ × Bool) ⊕ (eZ × Bool)) :=
 ((bX (aL9 K a0 a1)).bind (fun r1=>(bT (bQ ((iter K (fun (gT:Int)=>(bR (decide ((gT:Int)<(Int.ofNat r1.length))) (fun (x27:Bool)=>(if x27=true then (bT (bQ (bY [cP gT r1.length] (bR (((r1.getD (gT:Int).toNat default).cD) == a2) (fun (x30:Bool)=>(if x30=true then (bY [cP gT r1.length] (some (.inl (Sum.inr (Sum.inr ((r1.getD (gT:Int).toNat default),true)))))) else (some (.inr ()))))))) (fun (u29:Unit)=>(some (.inr ((IntKind.i64.wrap (gT+1))))))) else (some (.inl (Sum.inl ()))))))) (0)).map .inl)) (fun (u16:Unit)=>(some (.inl ((⟨([]:Bytes),(⟨0,0,0,([]:Bytes)⟩:fS),0,0,0⟩:eZ),false)))))))
theorem aFG (K:Nat) (a0:cK) (a1:dS) (a2:Bytes):bV Tryz.prog 199 [.agg (c9.cs a0),.agg (dY.cs a1),.c (.str a2)] [] (bX (aIZ K a0 a1 a2)) (fun r=>.jW [.agg (eX.cs r.1),.c (.val (.bool r.2))]) (fun r=>[eX.o r.1]):=by
 refine bV.it Tryz.f199 (fun r=>⟨[sP 6 0 0 0,sB 7 r.2],[eX.o r.1],[],0⟩) ?_
 unfold aIZ
 exact Ref.pt (
  .call [] (aKt _ _ _) fun r1 =>
  .bk 0 (fun u16=>⟨[sP 6 0 0 0],[oX7],[],0⟩) (
   .lp [2] (fun gT=>⟨[sS 2 a2,sP 6 0 0 0,(8,.c (eX.tree r1)),sI 9 gT],[oX7],[],0⟩) fun gT =>
   .lt _ fun x27 =>
   .ite _ (
    .bk 1 (fun u29=>⟨[sS 2 a2,sP 6 0 0 0,(8,.c (eX.tree r1)),sI 9 gT],[oX7],[],0⟩) (
     .ck _ <|
     .lt _ fun x30 =>
     .ite _ (
      .ck _ <|
      .ret [0] _) (
      .nil [0] _)) fun u29 =>
    .nil [0] _) (
    .ret [0] _)) fun u16 =>
  .ret [0] _)
def aI0 (K:Nat) (a0:cK) (a1:Bytes):Option ((Bool) ⊕ (Bool)) :=
 ((cE true (bX (F61 K a0 a1)) default).bind (fun r1=>((cE true (bX (F68 K a0 r1)) default).bind (fun r2=>(some (.inl ((((r2:Int) == 2) || ((r2:Int) == 1)))))))))
theorem aKu (K:Nat) (a0:cK) (a1:Bytes):bV Tryz.prog 200 [.agg (c9.cs a0),.c (.str a1)] [] (bX (aI0 K a0 a1)) (fun r=>.c (.val (.bool r))) (fun r=>[]):=by
 refine bV.it Tryz.f200 (fun r=>⟨[sB 4 r],[],[],0⟩) ?_
 unfold aI0
 exact Ref.pt (
  .ex [2] <|
  .tx [] <|
  .ex [0,1] <|
  .dQ 3 (default:Int) _ [] (lB K a0 a1) (fun _=>rfl) fun r1 =>
  .dQ 4 (default:Int) _ [] (lC K a0 r1) (fun _=>rfl) fun r2 =>
  .ex [5] <|
  .ret [] _)
def aOl (K:Nat) (a0:Int):Option ((Int) ⊕ (Int)) :=
 (bR ((decide ((a0:Int)<1)) || (decide ((a0:Int) ≥ (Int.ofNat ([(-1),0,0,0,0,0,1,1,1,2,0,0,0,0,1].length))))) (fun (x1:Bool)=>(if x1=true then (some (.inl ((-1)))) else (bY [cP a0 ([(-1),0,0,0,0,0,1,1,1,2,0,0,0,0,1].length)] (bR ([(-1),0,0,0,0,0,1,1,1,2,0,0,0,0,1].getD ((a0:Int).toNat) default) (fun (x2:Int)=>(some (.inl (x2)))))))))
theorem aS4 (K:Nat) (a0:Int):bV Tryz.prog 227 [.c (.val (.int .i64 a0))] [] (bX (aOl K a0)) (fun r=>.c (.val (.int .i64 r))) (fun r=>[]):=by
 refine bV.it Tryz.f227 (fun r=>⟨[sI 2 r],[],[],0⟩) ?_
 unfold aOl
 exact Ref.pt (
  .ob 1 1 0 (El.b9 E3 [(-1),0,0,0,0,0,1,1,1,2,0,0,0,0,1] rfl rfl) <|
  .lt _ fun x1 =>
  .ite _ (
   .ret [] _) (
   .ck _ <|
   .lt _ fun x2 =>
   .ret [] _))
def aMa (K:Nat) (a0:Int) (a1:fS) (a2:fS):Option ((fS × Int) ⊕ (fS × Int)) :=
 (bR (((a1.bU:Int) == 1) && ((a2.bU:Int) == 1)) (fun (x1:Bool)=>(bT (bQ (bR (((decide ((a0:Int) ≥ 1)) && (decide ((a0:Int)≤5))) && x1) (fun (x7:Bool)=>(if x7=true then (some (.inl (Sum.inr ((⟨1,0,0,([]:Bytes)⟩:fS),0)))) else (bR (((decide ((a0:Int) ≥ 8)) && (decide ((a0:Int)≤11))) && x1) (fun (x8:Bool)=>(if x8=true then (some (.inl (Sum.inr ((⟨2,0,0,([]:Bytes)⟩:fS),0)))) else (bR ((((decide ((a0:Int) ≥ 12)) && (decide ((a0:Int)≤14))) && ((a1.bU:Int) == 2)) && ((a2.bU:Int) == 2)) (fun (x9:Bool)=>(if x9=true then (some (.inl (Sum.inr ((⟨2,0,0,([]:Bytes)⟩:fS),0)))) else (bR (((((a0:Int) == 6) || ((a0:Int) == 7)) && ((a1.bU:Int) == a2.bU)) && ((((a1.bU:Int) == 1) || ((a1.bU:Int) == 2)) || ((a1.bU:Int) == 5))) (fun (x10:Bool)=>(if x10=true then (some (.inl (Sum.inr ((⟨2,0,0,([]:Bytes)⟩:fS),0)))) else (some (.inr ()))))))))))))))) (fun (u6:Unit)=>(some (.inl ((⟨0,0,0,([]:Bytes)⟩:fS),14)))))))
theorem aS5 (K:Nat) (a0:Int) (a1:fS) (a2:fS):bV Tryz.prog 229 [.c (.val (.int .i64 a0)),.agg (jV.cs a1),.agg (jV.cs a2)] [] (bX (aMa K a0 a1 a2)) (fun r=>.jW [.agg (jV.cs r.1),.c (.val (.int .i64 r.2))]) (fun r=>[.cells (jV.cs r.1)]):=by
 refine bV.it Tryz.f229 (fun r=>⟨[sP 6 0 0 0,sI 7 r.2],[.cells (jV.cs r.1)],[],0⟩) ?_
 unfold aMa
 exact Ref.pt (
  .lt _ fun x1 =>
  .bk 0 (fun u6=>⟨[sP 6 0 0 0],[uU],[],0⟩) (
   .lt _ fun x7 =>
   .ite _ (
    .ret [2] _) (
    .lt _ fun x8 =>
    .ite _ (
     .ret [2] _) (
     .lt _ fun x9 =>
     .ite _ (
      .ret [2] _) (
      .lt _ fun x10 =>
      .ite _ (
       .ret [2] _) (
       .nil [2] _))))) fun u6 =>
  .ret [0] _)
def aMb (K:Nat) (a0:cK) (a1:Bytes) (a2:Bytes):Option ((Bool) ⊕ (Bool)) :=
 ((bX (F61 K a0 a1)).bind (fun r1=>((bX (F68 K a0 r1)).bind (fun r2=>(if (((r2:Int) != 2) && ((r2:Int) != 1))=true then (some (.inl (false))) else ((bX (F61 K a0 a2)).bind (fun r3=>((cE (!(a1 == a2)) (bX (aBb K a0 r1)) default).bind (fun r4=>((cE (!(a1 == a2)) (bX (aG0 K r4 r3)) default).bind (fun r5=>((cE (!((a1 == a2) || r5)) (bX (aIW K a0 r1)) default).bind (fun r6=>((cE (!((a1 == a2) || r5)) (bX (aG0 K r6 r3)) default).bind (fun r7=>(some (.inl ((((a1 == a2) || r5) || r7)))))))))))))))))))
theorem aKv (K:Nat) (a0:cK) (a1:Bytes) (a2:Bytes):bV Tryz.prog 160 [.agg (c9.cs a0),.c (.str a1),.c (.str a2)] [] (bX (aMb K a0 a1 a2)) (fun r=>.c (.val (.bool r))) (fun r=>[]):=by
 refine bV.it Tryz.f160 (fun r=>⟨[sB 6 r],[],[],0⟩) ?_
 unfold aMb
 exact Ref.pt (
  .call [] (lB _ _ _) fun r1 =>
  .call [] (lC _ _ _) fun r2 =>
  .ite _ (
   .ret [] _) (
   .call [] (lB _ _ _) fun r3 =>
   .vN (default:(List Int)) _ (pN K a0 r1) fun r4 =>
   .look (default:Bool) _ [] (aBL K r4 r3) (fun _=>rfl) fun r5 =>
   .vN (default:(List Int)) _ (aFD K a0 r1) fun r6 =>
   .look (default:Bool) _ [] (aBL K r6 r3) (fun _=>rfl) fun r7 =>
   .ret [] _))
def aG3 (K:Nat) (a0:cK) (a1:fS) (a2:fS):Option ((Bool) ⊕ (Bool)) :=
 (bT (bQ (bT (if ((a1.bU:Int) == 1)=true then (some (.inr (((a1.bU:Int) == 1)))) else (some (.inr (((a1.bU:Int) == 3))))) (fun (u5:Bool)=>(if u5=true then (some (.inl (Sum.inr (((a2.bU:Int) == 1))))) else (if ((a1.bU:Int) == 2)=true then (some (.inl (Sum.inr (((a2.bU:Int) == 2))))) else (if ((a1.bU:Int) == 5)=true then ((cE ((!((a2.cD == ([]:Bytes)) || (a2.cD == a1.cD))) && ((a2.bU:Int) == 5)) (bX (aMb K a0 a2.cD a1.cD)) default).bind (fun r6=>(bR (((a2.bU:Int) == 5) && (((a2.cD == ([]:Bytes)) || (a2.cD == a1.cD)) || r6)) (fun (x7:Bool)=>(some (.inl (Sum.inr (x7)))))))) else (some (.inr ())))))))) (fun (u4:Unit)=>(some (.inl (false)))))
theorem aFH (K:Nat) (a0:cK) (a1:fS) (a2:fS):bV Tryz.prog 225 [.agg (c9.cs a0),.agg (jV.cs a1),.agg (jV.cs a2)] [] (bX (aG3 K a0 a1 a2)) (fun r=>.c (.val (.bool r))) (fun r=>[]):=by
 refine bV.it Tryz.f225 (fun r=>⟨[sB 6 r],[],[],0⟩) ?_
 unfold aG3
 exact Ref.pt (
  .bk 0 (fun u4=>⟨[],[],[],0⟩) (
   .jn (fun u5=>⟨[sP 3 0 0 0,sP 4 1 0 0,sP 5 2 0 0,sI 8 a1.bU,sB 9 u5],[.cells (c9.cs a0),.cells (jV.cs a1),.cells (jV.cs a2)],[],0⟩) (
    .ite _ (
     .nil [0,1,2] _) (
     .nil [0,1,2] _)) fun u5 =>
   .ite _ (
    .ret [] _) (
    .ite _ (
     .ret [] _) (
     .ite _ (
      .look (default:Bool) _ [] (aKv K a0 a2.cD a1.cD) (fun _=>rfl) fun r6 =>
      .lt _ fun x7 =>
      .ret [] _) (
      .nil [] _)))) fun u4 =>
  .ret [] _)
end Go.Proofs.YtdbfbedholdjaaaGreat
