/- No conditions. -/
import Derived.Test.YtdbfbedholdjaaaGreatHLA
import Derived.Test.YtdbfbedholdjaaaGreatProg
set_option linter.unusedVariables false
set_option linter.unusedSimpArgs false
set_option linter.unusedSectionVars false
namespace Go.Proofs.YtdbfbedholdjaaaGreat
open Go Go.Proofs Go.Dl
variable [dO]
set_option maxRecDepth 100000
set_option maxHeartbeats 4000000
def F66 (K:Nat) (a0:cK) (a1:Int) (a2:Int):Option ((Int) ⊕ (Int)) :=
 ((bX (F68 K a0 a1)).bind (fun r1=>(if ((r1:Int) != a2)=true then (some (.inl ((-1)))) else (bT (bQ ((iter K (fun (u19:Int × Int)=>(if (decide ((u19.2:Int)<a1))=true then (bT (bQ (bY [cP u19.2 a0.bP.length] (bR ((((a0.bP.getD (u19.2:Int).toNat default).bU):Int) == a2) (fun (uS:Bool)=>(if uS=true then (some (.inr ((IntKind.i64.wrap (u19.1+1))))) else (some (.inr (u19.1)))))))) (fun (u25:Int)=>(some (.inr (u25,(IntKind.i64.wrap (u19.2+1))))))) else (some (.inl (Sum.inl (u19.1)))))) (0,0)).map .inl)) (fun (u14:Int)=>(some (.inl (u14))))))))
theorem aPp (K:Nat) (a0:cK) (a1:Int) (a2:Int):bV Tryz.prog 66 [.agg (c9.cs a0),.c (.val (.int .i64 a1)),.c (.val (.int .i64 a2))] [] (bX (F66 K a0 a1 a2)) (fun r=>.c (.val (.int .i64 r))) (fun r=>[]):=by
 refine bV.it Tryz.f66 (fun r=>⟨[sI 6 r],[],[],0⟩) ?_
 unfold F66
 exact Ref.pt (
  .call [] (lC _ _ _) fun r1 =>
  .ite _ (
   .ret [] _) (
   .bk 0 (fun u14=>⟨[sI 7 u14],[],[],0⟩) (
    .lp [0] (fun u19=>⟨[sI 1 a1,sI 2 a2,sP 3 0 0 0,sI 7 u19.1,sI 8 u19.2],[.cells (c9.cs a0)],[],0⟩) fun u19 =>
    .ite _ (
     .bk 1 (fun u25=>⟨[sI 1 a1,sI 2 a2,sP 3 0 0 0,sI 7 u25,sI 8 u19.2],[.cells (c9.cs a0)],[],0⟩) (
      .ck _ <|
      .lt _ fun uS =>
      .ite _ (
       .nil [0] _) (
       .nil [0] _)) fun u25 =>
     .nil [0] _) (
     .ret [] _)) fun u14 =>
   .ret [] _))
def F21 (K:Nat) (a0:cK) (a1:Int):Option ((Int) ⊕ (Int)) :=
 ((bX (F66 K a0 a1 2)).bind (fun r1=>(some (.inl (r1)))))
theorem aFU (K:Nat) (a0:cK) (a1:Int):bV Tryz.prog 21 [.agg (c9.cs a0),.c (.val (.int .i64 a1))] [] (bX (F21 K a0 a1)) (fun r=>.c (.val (.int .i64 r))) (fun r=>[]):=by
 refine bV.it Tryz.f21 (fun r=>⟨[sI 4 r],[],[],0⟩) ?_
 unfold F21
 exact Ref.pt (
  .call [] (aPp _ _ _ _) fun r1 =>
  .ret [] _)
def F62 (K:Nat) (a0:cK):Option (((List dS)) ⊕ ((List dS))) :=
 (bT (bQ ((iter K (fun (lE:(List dS) × Int)=>(bR (decide ((lE.2:Int)<(Int.ofNat a0.bP.length))) (fun (a2i:Bool)=>(if a2i=true then (bT (bQ (bT (bQ ((iter K (fun (mX:(List dS) × Int)=>(bY [cP lE.2 a0.bP.length,!(decide ((mX.2:Int)<(Int.ofNat ((a0.bP.getD (lE.2:Int).toNat default).bS).length))) || cP lE.2 a0.bP.length] (bR ((decide ((mX.2:Int)<(Int.ofNat ((a0.bP.getD (lE.2:Int).toNat default).bS).length))) && ((((a0.bP.getD (lE.2:Int).toNat default).bU):Int) == 2)) (fun (a2j:Bool)=>(if a2j=true then (bT (bQ (bY [cP lE.2 a0.bP.length,cP mX.2 ((a0.bP.getD (lE.2:Int).toNat default).bS).length] (bR (!((((a0.bP.getD (lE.2:Int).toNat default).bS).getD (mX.2:Int).toNat default).eT)) (fun (a2k:Bool)=>(if a2k=true then (bY [room ((mX.1.length+([(⟨lE.2,mX.2⟩:dS)].length)) * 16)] (some (.inr ((mX.1++[(⟨lE.2,mX.2⟩:dS)]))))) else (some (.inr (mX.1)))))))) (fun (qQ:(List dS))=>(some (.inr (qQ,(IntKind.i64.wrap (mX.2+1))))))) else (some (.inl (Sum.inl (mX.1))))))))) (lE.1,0)).map .inl)) (fun (qN:(List dS))=>(some (.inr (qN)))))) (fun (aPq:(List dS))=>(some (.inr (aPq,(IntKind.i64.wrap (lE.2+1))))))) else (some (.inl (Sum.inl (lE.1)))))))) ([],0)).map .inl)) (fun (aBi:(List dS))=>(bT (bQ ((iter K (fun (oW:(List dS) × Int)=>(bR (decide ((oW.2:Int)<(Int.ofNat a0.bP.length))) (fun (a2l:Bool)=>(if a2l=true then (bT (bQ (bY [cP oW.2 a0.bP.length] (bR ((((a0.bP.getD (oW.2:Int).toNat default).bU):Int) == 3) (fun (a2m:Bool)=>(if a2m=true then (bY [room ((oW.1.length+([(⟨oW.2,(-1)⟩:dS)].length)) * 16)] (some (.inr ((oW.1++[(⟨oW.2,(-1)⟩:dS)]))))) else (some (.inr (oW.1)))))))) (fun (oL:(List dS))=>(some (.inr (oL,(IntKind.i64.wrap (oW.2+1))))))) else (some (.inl (Sum.inl (oW.1)))))))) (aBi,0)).map .inl)) (fun (aPr:(List dS))=>(some (.inl (aPr)))))))
theorem aPs (K:Nat) (a0:cK):bV Tryz.prog 62 [.agg (c9.cs a0)] [] (bX (F62 K a0)) (fun r=>.c (dY.tree r)) (fun r=>[]):=by
 refine bV.it Tryz.f62 (fun r=>⟨[(2,.c (dY.tree r))],[],[],0⟩) ?_
 unfold F62
 exact Ref.pt (
  .bk 0 (fun aBi=>⟨[sP 1 0 0 0,(3,.c (.own 1 aBi.length))],[.cells (c9.cs a0),dY.row aBi],[],0⟩) (
   .ad 2 0 3 dY.ty dY.w (dY.at []) <|
   .lp [0,1] (fun lE=>⟨[sP 1 0 0 0,(3,.c (.own 1 lE.1.length)),sI 4 lE.2],[.cells (c9.cs a0),dY.row lE.1],[],0⟩) fun lE =>
   .lt _ fun a2i =>
   .ite _ (
    .bk 1 (fun aPq=>⟨[sP 1 0 0 0,(3,.c (.own 1 aPq.length)),sI 4 lE.2],[.cells (c9.cs a0),dY.row aPq],[],0⟩) (
     .bk 2 (fun qN=>⟨[sP 1 0 0 0,(3,.c (.own 1 qN.length)),sI 4 lE.2],[.cells (c9.cs a0),dY.row qN],[],0⟩) (
      .lp [0,1] (fun mX=>⟨[sP 1 0 0 0,(3,.c (.own 1 mX.1.length)),sI 4 lE.2,sI 5 mX.2],[.cells (c9.cs a0),dY.row mX.1],[],0⟩) fun mX =>
      .ck _ <|
      .lt _ fun a2j =>
      .ite _ (
       .bk 3 (fun qQ=>⟨[sP 1 0 0 0,(3,.c (.own 1 qQ.length)),sI 4 lE.2,sI 5 mX.2],[.cells (c9.cs a0),dY.row qQ],[],0⟩) (
        .ck _ <|
        .lt _ fun a2k =>
        .ite _ (
         .ob 9 2 2 (El.b9 dY [(⟨lE.2,mX.2⟩:dS)] rfl rfl) <|
         .ck _ <|
         .ap 9 1 3 50 dY mX.1 [(⟨lE.2,mX.2⟩:dS)] <|
         .nil [0,3] _) (
         .nil [0,1] _)) fun qQ =>
       .nil [0,1] _) (
       .ret [0,1] _)) fun qN =>
     .nil [0,1] _) fun aPq =>
    .nil [0,1] _) (
    .ret [0,1] _)) fun aBi =>
  .bk 4 (fun aPr=>⟨[(3,.c (.own 0 aPr.length))],[dY.row aPr],[],0⟩) (
   .lp [0,1] (fun oW=>⟨[sP 1 0 0 0,(3,.c (.own 1 oW.1.length)),sI 6 oW.2],[.cells (c9.cs a0),dY.row oW.1],[],0⟩) fun oW =>
   .lt _ fun a2l =>
   .ite _ (
    .bk 5 (fun oL=>⟨[sP 1 0 0 0,(3,.c (.own 1 oL.length)),sI 6 oW.2],[.cells (c9.cs a0),dY.row oL],[],0⟩) (
     .ck _ <|
     .lt _ fun a2m =>
     .ite _ (
      .ob 14 2 2 (El.b9 dY [(⟨oW.2,(-1)⟩:dS)] rfl rfl) <|
      .ck _ <|
      .ap 14 1 3 69 dY oW.1 [(⟨oW.2,(-1)⟩:dS)] <|
      .nil [0,3] _) (
      .nil [0,1] _)) fun oL =>
    .nil [0,1] _) (
    .ret [1] _)) fun aPr =>
  .fz 15 0 0 <|
  .ret [] _)
def F24 (K:Nat) (a0:cK) (a1:dS):Option ((Int) ⊕ (Int)) :=
 ((bX (F62 K a0)).bind (fun r1=>(bT (bQ ((iter K (fun (gT:Int)=>(bR (decide ((gT:Int)<(Int.ofNat r1.length))) (fun (x27:Bool)=>(if x27=true then (bT (bQ (bY [cP gT r1.length] (bR ((((r1.getD (gT:Int).toNat default).cZ:Int) == a1.cZ) && ((((r1.getD (gT:Int).toNat default).dF:Int) == a1.dF) && true)) (fun (x30:Bool)=>(if x30=true then (some (.inl (Sum.inr (Sum.inr (gT))))) else (some (.inr ()))))))) (fun (u29:Unit)=>(some (.inr ((IntKind.i64.wrap (gT+1))))))) else (some (.inl (Sum.inl ()))))))) (0)).map .inl)) (fun (u16:Unit)=>(some (.inl ((-1))))))))
theorem aFV (K:Nat) (a0:cK) (a1:dS):bV Tryz.prog 24 [.agg (c9.cs a0),.agg (dY.cs a1)] [] (bX (F24 K a0 a1)) (fun r=>.c (.val (.int .i64 r))) (fun r=>[]):=by
 refine bV.it Tryz.f24 (fun r=>⟨[sI 4 r],[],[],0⟩) ?_
 unfold F24
 exact Ref.pt (
  .call [] (aPs _ _) fun r1 =>
  .bk 0 (fun u16=>⟨[],[],[],0⟩) (
   .lp [1] (fun gT=>⟨[sP 3 0 0 0,(5,.c (dY.tree r1)),sI 6 gT],[.cells (dY.cs a1)],[],0⟩) fun gT =>
   .lt _ fun x27 =>
   .ite _ (
    .bk 1 (fun u29=>⟨[sP 3 0 0 0,(5,.c (dY.tree r1)),sI 6 gT],[.cells (dY.cs a1)],[],0⟩) (
     .hO [0,1,2] _ <|
     .tx [] <|
     .ex [3,4,5] <|
     .lt _ fun x30 =>
     .ite _ (
      .ret [] _) (
      .nil [0] _)) fun u29 =>
    .nil [0] _) (
    .ret [] _)) fun u16 =>
  .ret [] _)
def aHo (K:Nat) (a0:fS):Option ((Int) ⊕ (Int)) :=
 (bT (bQ (bT (if ((a0.bU:Int) == 6)=true then (some (.inr (((a0.bU:Int) == 6)))) else (some (.inr (((a0.bU:Int) == 7))))) (fun (u3:Bool)=>(if u3=true then (some (.inl (Sum.inr (0)))) else (if ((a0.bU:Int) == 4)=true then (some (.inl (Sum.inr ((IntKind.i64.wrap (a0.zO+1)))))) else (some (.inr ()))))))) (fun (u2:Unit)=>(some (.inl (1)))))
theorem aBQ (K:Nat) (a0:fS):bV Tryz.prog 104 [.agg (jV.cs a0)] [] (bX (aHo K a0)) (fun r=>.c (.val (.int .i64 r))) (fun r=>[]):=by
 refine bV.it Tryz.f104 (fun r=>⟨[sI 2 r],[],[],0⟩) ?_
 unfold aHo
 exact Ref.pt (
  .bk 0 (fun u2=>⟨[],[],[],0⟩) (
   .jn (fun u3=>⟨[sP 1 0 0 0,sI 4 a0.bU,sB 5 u3],[.cells (jV.cs a0)],[],0⟩) (
    .ite _ (
     .nil [0] _) (
     .nil [0] _)) fun u3 =>
   .ite _ (
    .ret [] _) (
    .ite _ (
     .ret [] _) (
     .nil [] _))) fun u2 =>
  .ret [] _)
def aMx (K:Nat) (a0:fS):Option ((Bytes) ⊕ (Bytes)) :=
 (if ((a0.bU:Int) == 5)=true then (some (.inl (([114]:Bytes)))) else (bT (bQ ((iter K (fun (u14:Bytes × Int)=>((bX (aHo K a0)).bind (fun r18=>(if (decide ((u14.2:Int)<r18))=true then (bT (bQ (bY [room (u14.1.length+([105]:Bytes).length)] (some (.inr ((u14.1++([105]:Bytes))))))) (fun (u19:Bytes)=>(some (.inr (u19,(IntKind.i64.wrap (u14.2+1))))))) else (some (.inl (Sum.inl (u14.1)))))))) (([]:Bytes),0)).map .inl)) (fun (u10:Bytes)=>(some (.inl (u10))))))
theorem aKI (K:Nat) (a0:fS):bV Tryz.prog 102 [.agg (jV.cs a0)] [] (bX (aMx K a0)) (fun r=>.c (.str r)) (fun r=>[]):=by
 refine bV.it Tryz.f102 (fun r=>⟨[sS 2 r],[],[],0⟩) ?_
 unfold aMx
 exact Ref.pt (
  .ite _ (
   .ret [] _) (
   .bk 0 (fun u10=>⟨[sS 3 u10],[],[],0⟩) (
    .lp [0] (fun u14=>⟨[sP 1 0 0 0,sS 3 u14.1,sI 4 u14.2],[.cells (jV.cs a0)],[],0⟩) fun u14 =>
    .call [] (aBQ _ _) fun r18 =>
    .ite _ (
     .bk 1 (fun u19=>⟨[sP 1 0 0 0,sS 3 u19,sI 4 u14.2],[.cells (jV.cs a0)],[],0⟩) (
      .ck _ <|
      .nil [0] _) fun u19 =>
     .nil [0] _) (
     .ret [] _)) fun u10 =>
   .ret [] _))
def F64 (K:Nat) (a0:hU):Option ((Bytes) ⊕ (Bytes)) :=
 (bT (bQ ((iter K (fun (eA:Bytes × Int)=>(bR (decide ((eA.2:Int)<(Int.ofNat a0.cG.length))) (fun (kI:Bool)=>(if kI=true then (bT (bQ (bY [cP eA.2 a0.cG.length] ((bX (aMx K ((a0.cG.getD (eA.2:Int).toNat default).cB))).bind (fun w9=>(bY [room (eA.1.length+w9.length)] (some (.inr ((eA.1++w9))))))))) (fun (eW:Bytes)=>(some (.inr (eW,(IntKind.i64.wrap (eA.2+1))))))) else (some (.inl (Sum.inl (eA.1)))))))) (([]:Bytes),0)).map .inl)) (fun (u16:Bytes)=>(some (.inl (u16)))))
theorem aPt (K:Nat) (a0:hU):bV Tryz.prog 64 [.agg (jO.cs a0)] [] (bX (F64 K a0)) (fun r=>.c (.str r)) (fun r=>[]):=by
 refine bV.it Tryz.f64 (fun r=>⟨[sS 2 r],[],[],0⟩) ?_
 unfold F64
 exact Ref.pt (
  .bk 0 (fun u16=>⟨[sS 3 u16],[],[],0⟩) (
   .lp [0] (fun eA=>⟨[sP 1 0 0 0,sS 3 eA.1,sI 4 eA.2],[jO.o a0],[],0⟩) fun eA =>
   .lt _ fun kI =>
   .ite _ (
    .bk 1 (fun eW=>⟨[sP 1 0 0 0,sS 3 eW,sI 4 eA.2],[jO.o a0],[],0⟩) (
     .ck _ <|
     .call [] (aKI _ _) fun w9 =>
     .ck _ <|
     .nil [0] _) fun eW =>
    .nil [0] _) (
    .ret [] _)) fun u16 =>
  .ret [] _)
def F99 (K:Nat) (a0:Bytes) (a1:Bool):Option ((Bytes) ⊕ (Bytes)) :=
 (if a1=true then (bY [room (a0.length+([62,105]:Bytes).length)] (some (.inl ((a0++([62,105]:Bytes)))))) else (bY [room (a0.length+([62]:Bytes).length)] (some (.inl ((a0++([62]:Bytes)))))))
theorem aYa (K:Nat) (a0:Bytes) (a1:Bool):bV Tryz.prog 99 [.c (.str a0),.c (.val (.bool a1))] [] (bX (F99 K a0 a1)) (fun r=>.c (.str r)) (fun r=>[]):=by
 refine bV.it Tryz.f99 (fun r=>⟨[sS 4 r],[],[],0⟩) ?_
 unfold F99
 exact Ref.pt (
  .ite _ (
   .ck _ <|
   .ret [] _) (
   .ck _ <|
   .ret [] _))
def F58 (K:Nat) (a0:hU):Option ((Bytes) ⊕ (Bytes)) :=
 ((cE true (bX (F64 K a0)) default).bind (fun r1=>((cE true (bX (F99 K r1 ((a0.eU.bU:Int) != 0))) default).bind (fun r2=>(some (.inl (r2)))))))
theorem aJa (K:Nat) (a0:hU):bV Tryz.prog 58 [.agg (jO.cs a0)] [] (bX (F58 K a0)) (fun r=>.c (.str r)) (fun r=>[]):=by
 refine bV.it Tryz.f58 (fun r=>⟨[sS 2 r],[],[],0⟩) ?_
 unfold F58
 exact Ref.pt (
  .ex [2,3] <|
  .tx [] <|
  .ex [0,4,5] <|
  .dQ 1 (default:Bytes) _ [] (aPt K a0) (fun _=>rfl) fun r1 =>
  .dQ 6 (default:Bytes) _ [] (aYa K r1 ((a0.eU.bU:Int) != 0)) (fun _=>rfl) fun r2 =>
  .ex [7] <|
  .ret [] _)
def F23 (K:Nat) (a0:cK) (a1:Int):Option ((Int) ⊕ (Int)) :=
 ((bX (F66 K a0 a1 1)).bind (fun r1=>(some (.inl (r1)))))
theorem aPu (K:Nat) (a0:cK) (a1:Int):bV Tryz.prog 23 [.agg (c9.cs a0),.c (.val (.int .i64 a1))] [] (bX (F23 K a0 a1)) (fun r=>.c (.val (.int .i64 r))) (fun r=>[]):=by
 refine bV.it Tryz.f23 (fun r=>⟨[sI 4 r],[],[],0⟩) ?_
 unfold F23
 exact Ref.pt (
  .call [] (aPp _ _ _ _) fun r1 =>
  .ret [] _)
def F65 (K:Nat) (a0:(List eZ)):Option ((Bytes × (List Int)) ⊕ (Bytes × (List Int))) :=
 (bT (bQ ((iter K (fun (l6:Bytes × (List Int) × Int)=>(bR (decide ((l6.2.2:Int)<(Int.ofNat a0.length))) (fun (a2o:Bool)=>(if a2o=true then (bT (bQ (bY [cP l6.2.2 a0.length] ((bX (aMx K ((a0.getD (l6.2.2:Int).toNat default).cB))).bind (fun aC8=>(bY [room (l6.1.length+aC8.length)] (bT (bQ ((iter K (fun (wS:(List Int) × Int)=>(bR (decide ((wS.2:Int)<(Int.ofNat aC8.length))) (fun (a2p:Bool)=>(if a2p=true then (bT (bQ (bY [cP l6.2.2 a0.length] (bR (((((a0.getD (l6.2.2:Int).toNat default).cB).bU):Int) != 4) (fun (a2q:Bool)=>(bT (if a2q=true then (bY [cP l6.2.2 a0.length] (bR ((a0.getD (l6.2.2:Int).toNat default).dM) (fun (a2r:Int)=>(some (.inr (a2r)))))) else (some (.inr (0)))) (fun (aJb:Int)=>(bY [room ((wS.1.length+([aJb].length)) * 8)] (some (.inr ((wS.1++[aJb]))))))))))) (fun (aPv:(List Int))=>(some (.inr (aPv,(IntKind.i64.wrap (wS.2+1))))))) else (some (.inl (Sum.inl (wS.1)))))))) (l6.2.1,0)).map .inl)) (fun (aPw:(List Int))=>(some (.inr ((l6.1++aC8),aPw)))))))))) (fun (aJc:Bytes × (List Int))=>(some (.inr (aJc.1,aJc.2,(IntKind.i64.wrap (l6.2.2+1))))))) else (some (.inl (Sum.inl (l6.1,l6.2.1)))))))) (([]:Bytes),[],0)).map .inl)) (fun (aAn:Bytes × (List Int))=>(some (.inl (aAn.1,aAn.2)))))
theorem aJd (K:Nat) (a0:(List eZ)):bV Tryz.prog 65 [.c (eX.tree a0)] [] (bX (F65 K a0)) (fun r=>.jW [.c (.str r.1),.c (E3.tree r.2)]) (fun r=>[]):=by
 refine bV.it Tryz.f65 (fun r=>⟨[sS 2 r.1,(3,.c (E3.tree r.2))],[],[],0⟩) ?_
 unfold F65
 exact Ref.pt (
  .bk 0 (fun aAn=>⟨[sS 4 aAn.1,(5,.c (.own 0 aAn.2.length))],[E3.row aAn.2],[],0⟩) (
   .ad 3 0 5 E3.ty E3.w (E3.at []) <|
   .lp [0] (fun l6=>⟨[(0,.c (eX.tree a0)),sS 4 l6.1,(5,.c (.own 0 l6.2.1.length)),sI 6 l6.2.2],[E3.row l6.2.1],[],0⟩) fun l6 =>
   .lt _ fun a2o =>
   .ite _ (
    .bk 1 (fun aJc=>⟨[(0,.c (eX.tree a0)),sS 4 aJc.1,(5,.c (.own 0 aJc.2.length)),sI 6 l6.2.2],[E3.row aJc.2],[],0⟩) (
     .ck _ <|
     .call [] (aKI _ _) fun aC8 =>
     .ck _ <|
     .bk 2 (fun aPw=>⟨[(0,.c (eX.tree a0)),sS 4 (l6.1++aC8),(5,.c (.own 0 aPw.length)),sI 6 l6.2.2],[E3.row aPw],[],0⟩) (
      .lp [0] (fun wS=>⟨[(0,.c (eX.tree a0)),sS 4 (l6.1++aC8),(5,.c (.own 0 wS.1.length)),sI 6 l6.2.2,sS 7 aC8,sI 8 wS.2],[E3.row wS.1],[],0⟩) fun wS =>
      .lt _ fun a2p =>
      .ite _ (
       .bk 3 (fun aPv=>⟨[(0,.c (eX.tree a0)),sS 4 (l6.1++aC8),(5,.c (.own 0 aPv.length)),sI 6 l6.2.2,sS 7 aC8,sI 8 wS.2],[E3.row aPv],[],0⟩) (
        .ck _ <|
        .lt _ fun a2q =>
        .jn (fun aJb=>⟨[(0,.c (eX.tree a0)),sS 4 (l6.1++aC8),(5,.c (.own 0 wS.1.length)),sI 6 l6.2.2,sS 7 aC8,sI 8 wS.2,sI 9 aJb],[E3.row wS.1],[],0⟩) (
         .ite _ (
          .ck _ <|
          .lt _ fun a2r =>
          .nil [0] _) (
          .nil [0] _)) fun aJb =>
        .ob 14 2 1 (El.b9 E3 [aJb] rfl rfl) <|
        .ck _ <|
        .ap 14 1 2 46 E3 wS.1 [aJb] <|
        .nil [2] _) fun aPv =>
       .nil [0] _) (
       .ret [0] _)) fun aPw =>
     .nil [0] _) fun aJc =>
    .nil [0] _) (
    .ret [0] _)) fun aAn =>
  .fz 15 0 0 <|
  .ret [] _)
def F71 (K:Nat) (a0:cK) (a1:Int):Option (((List Bytes)) ⊕ ((List Bytes))) :=
 ((bX (aBb K a0 a1)).bind (fun r1=>(bR (IntKind.i64.wrap ((Int.ofNat r1.length) - 1)) (fun (x2:Int)=>(bT (bQ ((iter K (fun (vF:(List Bytes) × Int)=>(if (decide ((vF.2:Int) ≥ 0))=true then (bT (bQ (bY [cP vF.2 r1.length] (bY [cP (r1.getD (vF.2:Int).toNat default) a0.bP.length] (bR ((a0.bP.getD ((r1.getD (vF.2:Int).toNat default):Int).toNat default).bS) (fun (aHp:(List hU))=>(bT (bQ ((iter K (fun (rR:(List Bytes) × Int)=>(bR (decide ((rR.2:Int)<(Int.ofNat aHp.length))) (fun (a2s:Bool)=>(if a2s=true then (bT (bQ (bY [cP rR.2 aHp.length] (bR (!((aHp.getD (rR.2:Int).toNat default).xD)) (fun (a2t:Bool)=>(if a2t=true then (bY [cP rR.2 aHp.length] (bR ((aHp.getD (rR.2:Int).toNat default).cD) (fun (aPx:Bytes)=>(bY [room ((rR.1.length+([aPx].length)) * 16)] (some (.inr ((rR.1++[aPx])))))))) else (some (.inr (rR.1)))))))) (fun (aPy:(List Bytes))=>(some (.inr (aPy,(IntKind.i64.wrap (rR.2+1))))))) else (some (.inl (Sum.inl (rR.1)))))))) (vF.1,0)).map .inl)) (fun (aPz:(List Bytes))=>(some (.inr (aPz)))))))))) (fun (aPA:(List Bytes))=>(some (.inr (aPA,(IntKind.i64.wrap (vF.2 - 1))))))) else (some (.inl (Sum.inl (vF.1)))))) ([],x2)).map .inl)) (fun (aPB:(List Bytes))=>(some (.inl (aPB)))))))))
theorem aPC (K:Nat) (a0:cK) (a1:Int):bV Tryz.prog 71 [.agg (c9.cs a0),.c (.val (.int .i64 a1))] [] (bX (F71 K a0 a1)) (fun r=>.c (E9.tree r)) (fun r=>[]):=by
 refine bV.it Tryz.f71 (fun r=>⟨[(4,.c (E9.tree r))],[],[],0⟩) ?_
 unfold F71
 exact Ref.pt (
  .call [] (pN _ _ _) fun r1 =>
  .lt _ fun x2 =>
  .bk 0 (fun aPB=>⟨[(5,.c (.own 0 aPB.length))],[E9.row aPB],[],0⟩) (
   .ad 3 0 5 E9.ty E9.w (E9.at []) <|
   .lp [0,1] (fun vF=>⟨[sP 2 0 0 0,(5,.c (.own 1 vF.1.length)),(6,.c (E3.tree r1)),sI 7 vF.2],[.cells (c9.cs a0),E9.row vF.1],[],0⟩) fun vF =>
   .ite _ (
    .bk 1 (fun aPA=>⟨[sP 2 0 0 0,(5,.c (.own 1 aPA.length)),(6,.c (E3.tree r1)),sI 7 vF.2],[.cells (c9.cs a0),E9.row aPA],[],0⟩) (
     .hO [0,2,3,4] _ <|
     .tx [] <|
     .hO [1,5,6,7,8,9] _ <|
     .lt _ fun aHp =>
     .bk 2 (fun aPz=>⟨[sP 2 0 0 0,(5,.c (.own 1 aPz.length)),(6,.c (E3.tree r1)),sI 7 vF.2],[.cells (c9.cs a0),E9.row aPz],[],0⟩) (
      .lp [0,1] (fun rR=>⟨[sP 2 0 0 0,(5,.c (.own 1 rR.1.length)),(6,.c (E3.tree r1)),sI 7 vF.2,(8,.c (jO.tree aHp)),sI 9 rR.2],[.cells (c9.cs a0),E9.row rR.1],[],0⟩) fun rR =>
      .lt _ fun a2s =>
      .ite _ (
       .bk 3 (fun aPy=>⟨[sP 2 0 0 0,(5,.c (.own 1 aPy.length)),(6,.c (E3.tree r1)),sI 7 vF.2,(8,.c (jO.tree aHp)),sI 9 rR.2],[.cells (c9.cs a0),E9.row aPy],[],0⟩) (
        .ck _ <|
        .lt _ fun a2t =>
        .ite _ (
         .ck _ <|
         .lt _ fun aPx =>
         .ob 11 2 2 (El.b9 E9 [aPx] rfl rfl) <|
         .ck _ <|
         .ap 11 1 3 48 E9 rR.1 [aPx] <|
         .nil [0,3] _) (
         .nil [0,1] _)) fun aPy =>
       .nil [0,1] _) (
       .ret [0,1] _)) fun aPz =>
     .nil [0,1] _) fun aPA =>
    .nil [0,1] _) (
    .ret [1] _)) fun aPB =>
  .fz 12 0 0 <|
  .ret [] _)
def aMy (K:Nat) (a0:cK) (a1:Int) (a2:Bytes):Option ((Int × Bytes) ⊕ (Int × Bytes)) :=
 ((bX (aEd K a0 a1 a2)).bind (fun r1=>((bX (F63 K a0 r1.1)).bind (fun r2=>(if r2.eT=true then ((bX (F58 K r2)).bind (fun r3=>(some (.inl ((-1),r3))))) else ((cE true (bX (F24 K a0 r1.1)) default).bind (fun r4=>((cE true (bX (F58 K r2)) default).bind (fun r5=>(some (.inl (r4,r5))))))))))))
theorem aKJ (K:Nat) (a0:cK) (a1:Int) (a2:Bytes):bV Tryz.prog 100 [.agg (c9.cs a0),.c (.val (.int .i64 a1)),.c (.str a2)] [] (bX (aMy K a0 a1 a2)) (fun r=>.jW [.c (.val (.int .i64 r.1)),.c (.str r.2)]) (fun r=>[]):=by
 refine bV.it Tryz.f100 (fun r=>⟨[sI 6 r.1,sS 7 r.2],[],[],0⟩) ?_
 unfold aMy
 exact Ref.pt (
  .call [] (uT _ _ _ _) fun r1 =>
  .call [] (wL _ _ _) fun r2 =>
  .ite _ (
   .call [] (aJa _ _) fun r3 =>
   .ret [] _) (
   .tx [] <|
   .ex [0,1,3] <|
   .dQ 2 (default:Int) _ [] (aFV K a0 r1.1) (fun _=>rfl) fun r4 =>
   .dQ 4 (default:Bytes) _ [] (aJa K r2) (fun _=>rfl) fun r5 =>
   .ex [5,6] <|
   .ret [] _))
def F59 (K:Nat) (a0:cK) (a1:Int):Option ((w8) ⊕ (w8)) :=
 (bY [cP a1 a0.bP.length] ((cE true (bX (F61 K a0 ((a0.bP.getD (a1:Int).toNat default).gF))) default).bind (fun r1=>((cE true (bX (F21 K a0 r1)) default).bind (fun r2=>((bX (F70 K a0 a1)).bind (fun r4=>((bX (F65 K r4)).bind (fun r5=>((bX (F71 K a0 a1)).bind (fun r6=>(bT (bQ ((iter K (fun (kJ:(List Int) × (List Bytes) × Int)=>(bR (decide ((kJ.2.2:Int)<(Int.ofNat r6.length))) (fun (x42:Bool)=>(if x42=true then (bT (bQ (bY [cP kJ.2.2 r6.length] ((cE true (bX (aMy K a0 a1 (r6.getD (kJ.2.2:Int).toNat default))) default).bind (fun r46=>(bY [room ((kJ.1.length+([r46.1].length)) * 8)] (bY [room ((kJ.2.1.length+([r46.2].length)) * 16)] (some (.inr ((kJ.1++[r46.1]),(kJ.2.1++[r46.2])))))))))) (fun (u45:(List Int) × (List Bytes))=>(some (.inr (u45.1,u45.2,(IntKind.i64.wrap (kJ.2.2+1))))))) else (some (.inl (Sum.inl (kJ.1,kJ.2.1)))))))) ([],[],0)).map .inl)) (fun (rL:(List Int) × (List Bytes))=>((bX (aIW K a0 a1)).bind (fun r48=>(bT (bQ ((iter K (fun (lF:(List l4) × Int)=>(bR (decide ((lF.2:Int)<(Int.ofNat a0.bP.length))) (fun (a2v:Bool)=>(if a2v=true then (bT (bQ (bT (bQ ((iter K (fun (aBj:Bool × Int)=>(bR (decide ((aBj.2:Int)<(Int.ofNat r48.length))) (fun (a2w:Bool)=>(if a2w=true then (bT (bQ (bY [!(!aBj.1) || cP aBj.2 r48.length] (bR (aBj.1 || (((r48.getD (aBj.2:Int).toNat default):Int) == lF.2)) (fun (a2x:Bool)=>(some (.inr (a2x))))))) (fun (aTL:Bool)=>(some (.inr (aTL,(IntKind.i64.wrap (aBj.2+1))))))) else (some (.inl (Sum.inl (aBj.1)))))))) (false,0)).map .inl)) (fun (aTM:Bool)=>(if (!aTM)=true then (some (.inl (Sum.inl (lF.1)))) else ((bX (F23 K a0 lF.2)).bind (fun aHq=>(bT (bQ ((iter K (fun (yS:(List Int) × Int)=>(bY [cP lF.2 a0.bP.length] (bR (decide ((yS.2:Int)<(Int.ofNat ((a0.bP.getD (lF.2:Int).toNat default).bS).length))) (fun (a2y:Bool)=>(if a2y=true then (bT (bQ (bY [cP lF.2 a0.bP.length,cP yS.2 ((a0.bP.getD (lF.2:Int).toNat default).bS).length] (bR ((((a0.bP.getD (lF.2:Int).toNat default).bS).getD (yS.2:Int).toNat default).cD) (fun (aYd:Bytes)=>((cE true (bX (aMy K a0 a1 aYd)) default).bind (fun aPD=>(bY [room ((yS.1.length+([aPD.1].length)) * 8)] (some (.inr ((yS.1++[aPD.1]))))))))))) (fun (aPE:(List Int))=>(some (.inr (aPE,(IntKind.i64.wrap (yS.2+1))))))) else (some (.inl (Sum.inl (yS.1))))))))) ([],0)).map .inl)) (fun (aHr:(List Int))=>(bY [room ((lF.1.length+([(⟨aHq,aHr⟩:l4)].length)) * 32)] (some (.inr ((lF.1++[(⟨aHq,aHr⟩:l4)]))))))))))))) (fun (aPF:(List l4))=>(some (.inr (aPF,(IntKind.i64.wrap (lF.2+1))))))) else (some (.inl (Sum.inl (lF.1)))))))) ([],0)).map .inl)) (fun (vG:(List l4))=>(some (.inl ((⟨r2,r5.1,r5.2,rL.1,rL.2,vG⟩:w8)))))))))))))))))))))
abbrev aDa (v0:cK) (v1:Int) (v2:Bytes × (List Int)) (v3:(List Int) × (List Bytes)) (v4:(List l4) × Int):List Go.Dl.Obj:=[.cells (c9.cs v0),oX3,.cells [iC v1,.str v2.1,E3.tree v2.2,.own 3 v3.1.length,.own 4 v3.2.length,.own 5 v4.1.length],E3.row v3.1,E9.row v3.2,tY.row v4.1]
abbrev qR (v0:Int):List (Nat × D):=[sI 1 v0,sP 2 0 0 0,sP 4 1 0 0,sP 5 2 0 0]
theorem aYe (K:Nat) (a0:cK) (a1:Int):bV Tryz.prog 59 [.agg (c9.cs a0),.c (.val (.int .i64 a1))] [] (bX (F59 K a0 a1)) (fun r=>.agg (nW.cs r)) (fun r=>[.cells (nW.cs r)]):=by
 refine bV.it Tryz.f59 (fun r=>⟨[sP 4 0 0 0],[.cells (nW.cs r)],[],0⟩) ?_
 unfold F59
 exact Ref.pt (
  .ex [2,4] <|
  .tx [12] <|
  .hO [0,1,3,5,6,7] _ <|
  .dQ 8 (default:Int) _ [] (lB K a0 ((gd a0.bP a1).gF)) (fun _=>rfl) fun r1 =>
  .dQ 9 (default:Int) _ [] (aFU K a0 r1) (fun _=>rfl) fun r2 =>
  .ex [10] <|
  .all [1,2,4,28,5] (rg (cd (bd Tryz.f59) [1,0])) [true,true,true,true,true,true,true,true,true,true,true,false,false] (hl []) ⟨qR a1,[.cells (c9.cs a0),oX3,.cells [iC r2,.str [],.nil,.nil,.nil,.nil]],[],0⟩ [.s 2,.s 4,.s 5] <|
  .call [] (aFE _ _ _) fun r4 =>
  .call [] (aJd _ _) fun r5 =>
  .call [] (aPC _ _ _) fun r6 =>
  .bk 0 (fun rL=>⟨qR a1,[.cells (c9.cs a0),oX3,.cells [iC r2,.str r5.1,E3.tree r5.2,.own 3 rL.1.length,.own 4 rL.2.length,.nil],E3.row rL.1,E9.row rL.2],[],0⟩) (
   .adc 4 0 2 3 E3.ty E3.w (E3.at []) <|
   .adc 4 0 2 4 E9.ty E9.w (E9.at []) <|
   .lp [0,1,2,3,4] (fun kJ=>⟨qR a1++[(6,.c (E9.tree r6)),sI 7 kJ.2.2],[.cells (c9.cs a0),oX3,.cells [iC r2,.str r5.1,E3.tree r5.2,.own 3 kJ.1.length,.own 4 kJ.2.1.length,.nil],E3.row kJ.1,E9.row kJ.2.1],[],0⟩) fun kJ =>
   .lt _ fun x42 =>
   .ite _ (
    .bk 1 (fun u45=>⟨qR a1++[(6,.c (E9.tree r6)),sI 7 kJ.2.2],[.cells (c9.cs a0),oX3,.cells [iC r2,.str r5.1,E3.tree r5.2,.own 3 u45.1.length,.own 4 u45.2.length,.nil],E3.row u45.1,E9.row u45.2],[],0⟩) (
     .hO [1,2,3,4] _ <|
     .tx [] <|
     .ex [0,5] <|
     .dQ 6 (default:Int × Bytes) _ [] (aKJ K a0 a1 (gd r6 kJ.2.2)) (fun _=>rfl) fun r46 =>
     .ex [7,8,9,10,11] <|
     .ex [0,2,5,7] <|
     .tx [4,9,11,13] <|
     .ex [1] <|
     .asm _ fun h1 =>
     .asm _ fun h2 =>
     .all [1,2,4,5,6,7,58,59,62,64,60,61,63,65,66,67,68] (rg (cd (bd Tryz.f59) [1,1,1,1,0,1,0,0,1,0,0,1])) [true,true,true,false,false,true,false,true,false,false,false,false,false,false] (hl [(3,.no [.bd 60 E3 [r46.1]]),(4,.ck _ h1 [.ap 61 E3 kJ.1 [r46.1]]),(8,.no [.bd 65 E9 [r46.2]]),(9,.ck _ h2 [.ap 66 E9 kJ.2.1 [r46.2]])]) ⟨qR a1++[(6,.c (E9.tree r6)),sI 7 kJ.2.2],[.cells (c9.cs a0),oX3,.cells [iC r2,.str r5.1,E3.tree r5.2,.own 3 ((kJ.1++[r46.1]).length),.own 4 ((kJ.2.1++[r46.2]).length),.nil],E3.row (kJ.1++[r46.1]),E9.row (kJ.2.1++[r46.2])],[],0⟩ [.s 2,.s 4,.s 5,.o 2 3,.o 2 4] <|
     .nil [0,1,2,3,4] _) fun u45 =>
    .nil [0,1,2,3,4] _) (
    .ret [0,1,2,3,4] _)) fun rL =>
  .call [] (aFD _ _ _) fun r48 =>
  .bk 2 (fun vG=>⟨[sP 4 0 0 0,sP 5 1 0 0],[oX3,.cells [iC r2,.str r5.1,E3.tree r5.2,.own 2 rL.1.length,.own 3 rL.2.length,.own 4 vG.length],E3.row rL.1,E9.row rL.2,tY.row vG],[],0⟩) (
   .adc 10 0 2 5 tY.ty tY.w (tY.at []) <|
   .lp [0,1,2,3,4,5] (fun lF=>⟨qR a1++[(10,.c (E3.tree r48)),sI 11 lF.2],aDa a0 r2 r5 rL lF,[],0⟩) fun lF =>
   .lt _ fun a2v =>
   .ite _ (
    .bk 3 (fun aPF=>⟨qR a1++[(10,.c (E3.tree r48)),sI 11 lF.2],[.cells (c9.cs a0),oX3,.cells [iC r2,.str r5.1,E3.tree r5.2,.own 3 rL.1.length,.own 4 rL.2.length,.own 5 aPF.length],E3.row rL.1,E9.row rL.2,tY.row aPF],[],0⟩) (
     .bk 4 (fun aTM=>⟨qR a1++[(10,.c (E3.tree r48)),sI 11 lF.2,sB 12 aTM],aDa a0 r2 r5 rL lF,[],0⟩) (
      .lp [0,1,2,3,4,5] (fun aBj=>⟨qR a1++[(10,.c (E3.tree r48)),sI 11 lF.2,sB 12 aBj.1,sI 13 aBj.2],aDa a0 r2 r5 rL lF,[],0⟩) fun aBj =>
      .lt _ fun a2w =>
      .ite _ (
       .bk 5 (fun aTL=>⟨qR a1++[(10,.c (E3.tree r48)),sI 11 lF.2,sB 12 aTL,sI 13 aBj.2],aDa a0 r2 r5 rL lF,[],0⟩) (
        .ck _ <|
        .lt _ fun a2x =>
        .nil [0,1,2,3,4,5] _) fun aTL =>
       .nil [0,1,2,3,4,5] _) (
       .ret [0,1,2,3,4,5] _)) fun aTM =>
     .ite _ (
      .ret [0,1,2,3,4,5] _) (
      .call [] (aPu _ _ _) fun aHq =>
      .bk 6 (fun aHr=>⟨qR a1++[(10,.c (E3.tree r48)),sI 11 lF.2,sP 14 6 0 0],aDa a0 r2 r5 rL lF++[.cells [iC aHq,.own 7 aHr.length],E3.row aHr],[],0⟩) (
       .adc 20 0 6 1 E3.ty E3.w (E3.at []) <|
       .lp [0,1,2,3,4,5,6,7] (fun yS=>⟨qR a1++[(10,.c (E3.tree r48)),sI 11 lF.2,sP 14 6 0 0,sI 15 yS.2],aDa a0 r2 r5 rL lF++[.cells [iC aHq,.own 7 yS.1.length],E3.row yS.1],[],0⟩) fun yS =>
       .ck _ <|
       .lt _ fun a2y =>
       .ite _ (
        .bk 7 (fun aPE=>⟨qR a1++[(10,.c (E3.tree r48)),sI 11 lF.2,sP 14 6 0 0,sI 15 yS.2],aDa a0 r2 r5 rL lF++[.cells [iC aHq,.own 7 aPE.length],E3.row aPE],[],0⟩) (
         .ex [1,2,4,8] <|
         .tx [] <|
         .hO [0,3,5,6,7,9,10,11] _ <|
         .lt _ fun aYd =>
         .dQ 12 (default:Int × Bytes) _ [] (aKJ K a0 a1 aYd) (fun _=>rfl) fun aPD =>
         .ex [13,14,15,16,17] <|
         .ob 24 3 8 (El.b9 E3 [aPD.1] rfl rfl) <|
         .ck _ <|
         .ap 24 2 9 131 E3 yS.1 [aPD.1] <|
         .nil [0,1,2,3,4,5,6,9] _) fun aPE =>
        .nil [0,1,2,3,4,5,6,7] _) (
        .ret [0,1,2,3,4,5,6,7] _)) fun aHr =>
      .fz 25 4 7 <|
      .ob 25 3 8 (El.b9 tY [(⟨aHq,aHr⟩:l4)] rfl rfl) <|
      .ck _ <|
      .ap 25 2 9 137 tY lF.1 [(⟨aHq,aHr⟩:l4)] <|
      .nil [0,1,2,3,4,9] _)) fun aPF =>
    .nil [0,1,2,3,4,5] _) (
    .ret [1,2,3,4,5] _)) fun vG =>
  .fz 26 0 2 <|
  .fz 26 0 3 <|
  .fz 26 0 4 <|
  .ret [0] _)
def F69 (K:Nat) (a0:(List eZ)) (a1:Bytes) (a2:Int):Option ((Int) ⊕ (Int)) :=
 (bT (bQ ((iter K (fun (u52:Int × Int)=>(bR (decide ((u52.2:Int)<(Int.ofNat a0.length))) (fun (x66:Bool)=>(if x66=true then (bT (bQ (bY [cP u52.2 a0.length] (bR (((a0.getD (u52.2:Int).toNat default).cB).bU) (fun (x73:Int)=>(bY [!((a2:Int) == 0) || cP u52.2 a0.length] ((cE ((a2:Int) == 0) (bX (aHo K ((a0.getD (u52.2:Int).toNat default).cB))) default).bind (fun r74=>(bR ((((a2:Int) == 0) && (decide ((r74:Int) > 0))) || ((x73:Int) == a2)) (fun (x75:Bool)=>(bY [cP u52.2 a0.length] (bR (((a0.getD (u52.2:Int).toNat default).cD) == a1) (fun (x76:Bool)=>(if x76=true then (if x75=true then (some (.inl (Sum.inr (Sum.inr (u52.1))))) else (some (.inl (Sum.inr (Sum.inr ((-1))))))) else (if ((a2:Int) == 0)=true then (bY [cP u52.2 a0.length] ((bX (aHo K ((a0.getD (u52.2:Int).toNat default).cB))).bind (fun r77=>(some (.inr ((IntKind.i64.wrap (u52.1+r77)))))))) else (if ((x73:Int) == a2)=true then (some (.inr ((IntKind.i64.wrap (u52.1+1))))) else (some (.inr (u52.1)))))))))))))))))) (fun (u72:Int)=>(some (.inr (u72,(IntKind.i64.wrap (u52.2+1))))))) else (some (.inl (Sum.inl ()))))))) (0,0)).map .inl)) (fun (u39:Unit)=>(some (.inl ((-1))))))
theorem aPG (K:Nat) (a0:(List eZ)) (a1:Bytes) (a2:Int):bV Tryz.prog 69 [.c (eX.tree a0),.c (.str a1),.c (.val (.int .i64 a2))] [] (bX (F69 K a0 a1 a2)) (fun r=>.c (.val (.int .i64 r))) (fun r=>[]):=by
 refine bV.it Tryz.f69 (fun r=>⟨[sI 6 r],[],[],0⟩) ?_
 unfold F69
 exact Ref.pt (
  .bk 0 (fun u39=>⟨[],[],[],0⟩) (
   .lp [] (fun u52=>⟨[(0,.c (eX.tree a0)),sS 1 a1,sI 2 a2,sI 7 u52.1,sI 8 u52.2],[],[],0⟩) fun u52 =>
   .lt _ fun x66 =>
   .ite _ (
    .bk 1 (fun u72=>⟨[(0,.c (eX.tree a0)),sS 1 a1,sI 2 a2,sI 7 u72,sI 8 u52.2],[],[],0⟩) (
     .ck _ <|
     .lt _ fun x73 =>
     .ck _ <|
     .look (default:Int) _ [] (aBQ K ((gd a0 u52.2).cB)) (fun _=>rfl) fun r74 =>
     .lt _ fun x75 =>
     .ck _ <|
     .lt _ fun x76 =>
     .ite _ (
      .ite _ (
       .ret [] _) (
       .ret [] _)) (
      .ite _ (
       .ck _ <|
       .call [] (aBQ _ _) fun r77 =>
       .nil [] _) (
       .ite _ (
        .nil [] _) (
        .nil [] _)))) fun u72 =>
    .nil [] _) (
    .ret [] _)) fun u39 =>
  .ret [] _)
def aPH (K:Nat) (a0:cK) (a1:Int) (a2:Int):Option ((Int) ⊕ (Int)) :=
 (bT (bQ ((iter K (fun (nV:Int × Int)=>(if (decide ((nV.2:Int)<a1))=true then (bT (bQ (bT (bQ ((iter K (fun (wT:Int × Int)=>(bY [cP nV.2 a0.bP.length,!(decide ((wT.2:Int)<(Int.ofNat ((a0.bP.getD (nV.2:Int).toNat default).cA).length))) || cP nV.2 a0.bP.length] (bR ((decide ((wT.2:Int)<(Int.ofNat ((a0.bP.getD (nV.2:Int).toNat default).cA).length))) && ((((a0.bP.getD (nV.2:Int).toNat default).bU):Int) == 3)) (fun (a2z:Bool)=>(if a2z=true then (bT (bQ (bY [cP nV.2 a0.bP.length,cP wT.2 ((a0.bP.getD (nV.2:Int).toNat default).cA).length] (if ((a2:Int) == 0)=true then ((bX (aHo K ((((a0.bP.getD (nV.2:Int).toNat default).cA).getD (wT.2:Int).toNat default).cB))).bind (fun a2A=>(some (.inr ((IntKind.i64.wrap (wT.1+a2A))))))) else (bR (((((((a0.bP.getD (nV.2:Int).toNat default).cA).getD (wT.2:Int).toNat default).cB).bU):Int) == a2) (fun (a2B:Bool)=>(if a2B=true then (some (.inr ((IntKind.i64.wrap (wT.1+1))))) else (some (.inr (wT.1))))))))) (fun (aTN:Int)=>(some (.inr (aTN,(IntKind.i64.wrap (wT.2+1))))))) else (some (.inl (Sum.inl (wT.1))))))))) (nV.1,0)).map .inl)) (fun (vG:Int)=>(some (.inr (vG)))))) (fun (aTO:Int)=>(some (.inr (aTO,(IntKind.i64.wrap (nV.2+1))))))) else (some (.inl (Sum.inl (nV.1)))))) (0,0)).map .inl)) (fun (aTP:Int)=>(some (.inl (aTP)))))
theorem aTQ (K:Nat) (a0:cK) (a1:Int) (a2:Int):bV Tryz.prog 103 [.agg (c9.cs a0),.c (.val (.int .i64 a1)),.c (.val (.int .i64 a2))] [] (bX (aPH K a0 a1 a2)) (fun r=>.c (.val (.int .i64 r))) (fun r=>[]):=by
 refine bV.it Tryz.f103 (fun r=>⟨[sI 6 r],[],[],0⟩) ?_
 unfold aPH
 exact Ref.pt (
  .bk 0 (fun aTP=>⟨[sI 7 aTP],[],[],0⟩) (
   .lp [0] (fun nV=>⟨[sI 1 a1,sI 2 a2,sP 3 0 0 0,sI 7 nV.1,sI 8 nV.2],[.cells (c9.cs a0)],[],0⟩) fun nV =>
   .ite _ (
    .bk 1 (fun aTO=>⟨[sI 1 a1,sI 2 a2,sP 3 0 0 0,sI 7 aTO,sI 8 nV.2],[.cells (c9.cs a0)],[],0⟩) (
     .bk 2 (fun vG=>⟨[sI 1 a1,sI 2 a2,sP 3 0 0 0,sI 7 vG,sI 8 nV.2],[.cells (c9.cs a0)],[],0⟩) (
      .lp [0] (fun wT=>⟨[sI 1 a1,sI 2 a2,sP 3 0 0 0,sI 7 wT.1,sI 8 nV.2,sI 9 wT.2],[.cells (c9.cs a0)],[],0⟩) fun wT =>
      .ck _ <|
      .lt _ fun a2z =>
      .ite _ (
       .bk 3 (fun aTN=>⟨[sI 1 a1,sI 2 a2,sP 3 0 0 0,sI 7 aTN,sI 8 nV.2,sI 9 wT.2],[.cells (c9.cs a0)],[],0⟩) (
        .ck _ <|
        .ite _ (
         .call [] (aBQ _ _) fun a2A =>
         .nil [0] _) (
         .lt _ fun a2B =>
         .ite _ (
          .nil [0] _) (
          .nil [0] _))) fun aTN =>
       .nil [0] _) (
       .ret [0] _)) fun vG =>
     .nil [0] _) fun aTO =>
    .nil [0] _) (
    .ret [] _)) fun aTP =>
  .ret [] _)
def F67 (K:Nat) (a0:cK) (a1:Int) (a2:Bytes) (a3:Int):Option ((Int) ⊕ (Int)) :=
 ((bX (F68 K a0 a1)).bind (fun r1=>(if ((r1:Int) != 3)=true then (some (.inl ((-1)))) else (bY [cP a1 a0.bP.length] (bR ((a0.bP.getD (a1:Int).toNat default).cA) (fun (x2:(List eZ))=>((bX (F69 K x2 a2 a3)).bind (fun r3=>(if (decide ((r3:Int)<0))=true then (some (.inl ((-1)))) else ((bX (aPH K a0 a1 a3)).bind (fun r4=>(some (.inl ((IntKind.i64.wrap (r3+r4))))))))))))))))
theorem aJe (K:Nat) (a0:cK) (a1:Int) (a2:Bytes) (a3:Int):bV Tryz.prog 67 [.agg (c9.cs a0),.c (.val (.int .i64 a1)),.c (.str a2),.c (.val (.int .i64 a3))] [] (bX (F67 K a0 a1 a2 a3)) (fun r=>.c (.val (.int .i64 r))) (fun r=>[]):=by
 refine bV.it Tryz.f67 (fun r=>⟨[sI 8 r],[],[],0⟩) ?_
 unfold F67
 exact Ref.pt (
  .call [] (lC _ _ _) fun r1 =>
  .ite _ (
   .ret [] _) (
   .ck _ <|
   .lt _ fun x2 =>
   .call [] (aPG _ _ _ _) fun r3 =>
   .ite _ (
    .ret [] _) (
    .call [] (aTQ _ _ _ _) fun r4 =>
    .ret [] _)))
def F25 (K:Nat) (a0:cK) (a1:Int) (a2:Bytes):Option ((Int) ⊕ (Int)) :=
 ((bX (F67 K a0 a1 a2 0)).bind (fun r1=>(some (.inl (r1)))))
theorem aPI (K:Nat) (a0:cK) (a1:Int) (a2:Bytes):bV Tryz.prog 25 [.agg (c9.cs a0),.c (.val (.int .i64 a1)),.c (.str a2)] [] (bX (F25 K a0 a1 a2)) (fun r=>.c (.val (.int .i64 r))) (fun r=>[]):=by
 refine bV.it Tryz.f25 (fun r=>⟨[sI 6 r],[],[],0⟩) ?_
 unfold F25
 exact Ref.pt (
  .call [] (aJe _ _ _ _ _) fun r1 =>
  .ret [] _)
def F60 (K:Nat) (a0:cK) (a1:Int) (a2:fF):Option ((fF) ⊕ (fF)) :=
 (bY [cP a1 a0.bP.length] (bR ((a0.bP.getD (a1:Int).toNat default).cA) (fun (x1:(List eZ))=>((bX (F65 K x1)).bind (fun r2=>(bY [room (a2.dJ.length+r2.1.length)] (bY [room ((a2.dM.length+r2.2.length) * 8)] (bT (bQ ((iter K (fun (dX:fF × Int)=>(bR (decide ((dX.2:Int)<(Int.ofNat x1.length))) (fun (a2D:Bool)=>(if a2D=true then (bT (bQ (bY [cP dX.2 x1.length] ((cE true (bX (F25 K a0 a1 ((x1.getD (dX.2:Int).toNat default).cD))) default).bind (fun aEl=>(bT (bQ (bR (((((x1.getD (dX.2:Int).toNat default).cB).bU):Int) == 6) (fun (aHn:Bool)=>(if aHn=true then (bR (((x1.getD (dX.2:Int).toNat default).cB).cD) (fun (aMw:Bytes)=>((cE true (bX (F61 K a0 aMw)) default).bind (fun aYg=>((cE true (bX (F21 K a0 aYg)) default).bind (fun aPJ=>(bY [room ((((dX.1).dW.length)+([aPJ].length)) * 8)] (some (.inr ((⟨(dX.1).cL,(dX.1).cO,(dX.1).dI,(((dX.1).dW)++[aPJ]),(dX.1).dJ,(dX.1).dM,(dX.1).b8,(dX.1).fY,(dX.1).eP,(dX.1).eN,(dX.1).fD,(dX.1).fW⟩:fF))))))))))) else (bR (((((x1.getD (dX.2:Int).toNat default).cB).bU):Int) == 7) (fun (a2E:Bool)=>(if a2E=true then (bR (((x1.getD (dX.2:Int).toNat default).cB).fLo) (fun (aPK:Int)=>(bY [room ((((dX.1).b8.length)+([aPK].length)) * 8)] (some (.inr ((⟨(dX.1).cL,(dX.1).cO,(dX.1).dI,(dX.1).dW,(dX.1).dJ,(dX.1).dM,(((dX.1).b8)++[aPK]),(dX.1).fY,(dX.1).eP,(dX.1).eN,(dX.1).fD,(dX.1).fW⟩:fF))))))) else (bR ((((x1.getD (dX.2:Int).toNat default).kE):Int) == 1) (fun (a2F:Bool)=>(if a2F=true then (bY [room ((((dX.1).fY.length)+([(⟨aEl,(x1.getD (dX.2:Int).toNat default).iP,(((((x1.getD (dX.2:Int).toNat default).cB).bU):Int) == 2)⟩:gV)].length)) * 24)] (some (.inr ((⟨(dX.1).cL,(dX.1).cO,(dX.1).dI,(dX.1).dW,(dX.1).dJ,(dX.1).dM,(dX.1).b8,(((dX.1).fY)++[(⟨aEl,(x1.getD (dX.2:Int).toNat default).iP,(((((x1.getD (dX.2:Int).toNat default).cB).bU):Int) == 2)⟩:gV)]),(dX.1).eP,(dX.1).eN,(dX.1).fD,(dX.1).fW⟩:fF))))) else (bR ((((x1.getD (dX.2:Int).toNat default).kE):Int) == 2) (fun (a2G:Bool)=>(if a2G=true then (bY [room ((((dX.1).eP.length)+([(⟨aEl,(x1.getD (dX.2:Int).toNat default).iP,(((((x1.getD (dX.2:Int).toNat default).cB).bU):Int) == 2)⟩:gV)].length)) * 24)] (some (.inr ((⟨(dX.1).cL,(dX.1).cO,(dX.1).dI,(dX.1).dW,(dX.1).dJ,(dX.1).dM,(dX.1).b8,(dX.1).fY,(((dX.1).eP)++[(⟨aEl,(x1.getD (dX.2:Int).toNat default).iP,(((((x1.getD (dX.2:Int).toNat default).cB).bU):Int) == 2)⟩:gV)]),(dX.1).eN,(dX.1).fD,(dX.1).fW⟩:fF))))) else (some (.inr ((dX.1))))))))))))))))) (fun (aPL:fF)=>(some (.inr ((aPL)))))))))) (fun (aPM:fF)=>(some (.inr ((aPM),(IntKind.i64.wrap (dX.2+1))))))) else (some (.inl (Sum.inl ((dX.1))))))))) ((⟨a2.cL,a2.cO,a2.dI,a2.dW,(a2.dJ++r2.1),(a2.dM++r2.2),a2.b8,a2.fY,a2.eP,a2.eN,a2.fD,a2.fW⟩:fF),0)).map .inl)) (fun (aHf:fF)=>(some (.inr ((aHf)))))))))))))
abbrev aPN (v0:fF):List Go.Dl.Obj:=[.cells (fF.oc (v0) 1 2 3 10 11 12 13 14 9),sO.row ((v0).cL),nW.row ((v0).cO),p7.row ((v0).dI),.dead,.dead,.dead,.dead,.dead,vE.row ((v0).eN),E3.row ((v0).dW),E3.row ((v0).dM),E3.row ((v0).b8),fC.row ((v0).fY)]
theorem aYh (K:Nat) (a0:cK) (a1:Int) (a2:fF):bV Tryz.prog 60 [.agg (c9.cs a0),.c (.val (.int .i64 a1)),.c (.ptr 0 0 0)] [.cells (fF.oc a2 1 2 3 4 5 6 7 8 9),sO.row a2.cL,nW.row a2.cO,p7.row a2.dI,E3.row a2.dW,E3.row a2.dM,E3.row a2.b8,fC.row a2.fY,fC.row a2.eP,vE.row a2.eN] (bX (F60 K a0 a1 a2)) (fun r=>.jW []) (fun r=>[.cells (fF.oc r 10 11 12 13 14 15 16 17 18),.dead,.dead,.dead,.dead,.dead,.dead,.dead,.dead,.dead,sO.row r.cL,nW.row r.cO,p7.row r.dI,E3.row r.dW,E3.row r.dM,E3.row r.b8,fC.row r.fY,fC.row r.eP,vE.row r.eN]):=by
 refine bV.it Tryz.f60 (fun r=>⟨[],[.cells (fF.oc r 10 11 12 13 14 15 16 17 18),.dead,.dead,.dead,.dead,.dead,.dead,.dead,.dead,.dead,sO.row r.cL,nW.row r.cO,p7.row r.dI,E3.row r.dW,E3.row r.dM,E3.row r.b8,fC.row r.fY,fC.row r.eP,vE.row r.eN],[],10⟩) ?_
 unfold F60
 exact Ref.pt (
  .ck _ <|
  .lt _ fun x1 =>
  .call [] (aJd _ _) fun r2 =>
  .ex [0,1,2,3,4,6,8,9,10,12] <|
  .tx [13,16,19] <|
  .ex [11] <|
  .asm _ fun h1 =>
  .asm _ fun h2 =>
  .all [1,2,3,6,23,24,27,29,34,35,28,30,36,37,38,39,40] (rg (cd (bd Tryz.f60) [1,1,1,0])) [true,true,true,true,true,false,true,false,true,true,true,true,true,false,false,false,false,false,false,false] (hl [(7,.ck _ h1 []),(13,.ck _ h2 [.ap 36 E3 a2.dM r2.2])]) ⟨[sI 1 a1,sP 2 0 0 0,sP 3 10 0 0,(6,.c (eX.tree x1))],[.cells [.own 1 a2.cL.length,.own 2 a2.cO.length,.own 3 a2.dI.length,.own 4 a2.dW.length,.str (a2.dJ++r2.1),.own 11 ((a2.dM++r2.2).length),.own 6 a2.b8.length,.own 7 a2.fY.length,.own 8 a2.eP.length,.own 9 a2.eN.length,iC a2.fD,iC a2.fW],sO.row a2.cL,nW.row a2.cO,p7.row a2.dI,E3.row a2.dW,.dead,E3.row a2.b8,fC.row a2.fY,fC.row a2.eP,vE.row a2.eN,.cells (c9.cs a0),E3.row (a2.dM++r2.2)],[],10⟩ [.k 0,.k 1,.k 2,.k 3,.k 4,.k 5,.k 6,.k 7,.k 8,.k 9,.s 3,.o 0 5] <|
  .bk 0 (fun aHf=>⟨[],aPN aHf++[fC.row ((aHf).eP)],[],10⟩) (
   .mv 4 0 4 <|
   .mv 4 0 6 <|
   .mv 4 0 7 <|
   .mv 4 0 8 <|
   .lp [0,1,2,3,4,5,6,7,8,9,12,11,13,14,15,10] (fun dX=>⟨[sI 1 a1,sP 2 0 0 0,sP 3 15 0 0,(6,.c (eX.tree x1)),sI 9 dX.2],[.cells (fF.oc (dX.1) 1 2 3 10 11 12 13 14 9),sO.row ((dX.1).cL),nW.row ((dX.1).cO),p7.row ((dX.1).dI),.dead,.dead,.dead,.dead,.dead,vE.row ((dX.1).eN),E3.row ((dX.1).dW),E3.row ((dX.1).dM),E3.row ((dX.1).b8),fC.row ((dX.1).fY),fC.row ((dX.1).eP),.cells (c9.cs a0)],[],10⟩) fun dX =>
   .lt _ fun a2D =>
   .ite _ (
    .bk 1 (fun aPM=>⟨[sI 1 a1,sP 2 0 0 0,sP 3 15 0 0,(6,.c (eX.tree x1)),sI 9 dX.2],aPN aPM++[fC.row ((aPM).eP),.cells (c9.cs a0)],[],10⟩) (
     .ck _ <|
     .ex [1,2,5,7,8] <|
     .tx [13] <|
     .ex [0,3,6,9,10] <|
     .dQ 4 (default:Int) _ [] (aPI K a0 a1 ((gd x1 dX.2).cD)) (fun _=>rfl) fun aEl =>
     .ex [11] <|
     .all [1,2,3,6,9,10,62,11] (rg (cd (bd Tryz.f60) [1,1,1,1,1,0,0,1,0,0,1,0])) [true,true,true,true,true,true,true,true,true,true,true,true,false,false] (hl []) ⟨[sI 1 a1,sP 2 0 0 0,sP 3 10 0 0,(6,.c (eX.tree x1)),sI 9 dX.2,sP 10 11 0 0,sP 11 12 0 0],[.cells (fF.oc (dX.1) 1 2 3 13 14 15 16 17 9),sO.row ((dX.1).cL),nW.row ((dX.1).cO),p7.row ((dX.1).dI),.dead,.dead,.dead,.dead,.dead,vE.row ((dX.1).eN),.cells (c9.cs a0),eX.o (gd x1 dX.2),.cells [iC aEl,iC ((gd x1 dX.2).iP),bC (((((gd x1 dX.2).cB).bU):Int) == 2)],E3.row ((dX.1).dW),E3.row ((dX.1).dM),E3.row ((dX.1).b8),fC.row ((dX.1).fY),fC.row ((dX.1).eP)],[],10⟩ [.k 0,.k 1,.k 2,.k 3,.k 4,.k 5,.k 6,.k 7,.k 8,.k 9,.s 3,.s 10,.s 11,.o 0 3,.o 0 5,.o 0 6,.o 0 7,.o 0 8] <|
     .bk 2 (fun aPL=>⟨[sI 1 a1,sP 2 0 0 0,sP 3 15 0 0,(6,.c (eX.tree x1)),sI 9 dX.2],aPN aPL++[fC.row ((aPL).eP),.cells (c9.cs a0)],[],10⟩) (
      .lt _ fun aHn =>
      .ite _ (
       .ex [0,1,2,3,7,8] <|
       .tx [13,14,15,16] <|
       .ex [4,5,6,9] <|
       .lt _ fun aMw =>
       .dQ 10 (default:Int) _ [] (lB K a0 aMw) (fun _=>rfl) fun aYg =>
       .dQ 11 (default:Int) _ [] (aFU K a0 aYg) (fun _=>rfl) fun aPJ =>
       .fk 12 <|
       .ob 999999 0 18 (El.b9 E3 [aPJ] rfl rfl) <|
       .tl [13,14,15,16] <|
       .ck _ <|
       .ap 10 3 19 81 E3 ((dX.1).dW) [aPJ] <|
       .nil [0,1,2,3,4,5,6,7,8,9,19,14,15,16,17,10] _) (
       .lt _ fun a2E =>
       .ite _ (
        .ex [0,1,2,3,5,6] <|
        .tx [9,10,11,12] <|
        .ex [4,7] <|
        .lt _ fun aPK =>
        .fk 8 <|
        .ob 999999 0 18 (El.b9 E3 [aPK] rfl rfl) <|
        .tl [9,10,11,12] <|
        .ck _ <|
        .ap 12 3 19 98 E3 ((dX.1).b8) [aPK] <|
        .nil [0,1,2,3,4,5,6,7,8,9,13,14,19,16,17,10] _) (
        .lt _ fun a2F =>
        .ite _ (
         .ex [0,1,2,3] <|
         .tx [7,8,9,10] <|
         .ex [4,5] <|
         .fk 6 <|
         .ob 999999 0 18 (El.b9 fC [(⟨aEl,(gd x1 dX.2).iP,(((((gd x1 dX.2).cB).bU):Int) == 2)⟩:gV)] rfl rfl) <|
         .tl [7,8,9,10] <|
         .ck _ <|
         .ap 14 3 19 112 fC ((dX.1).fY) [(⟨aEl,(gd x1 dX.2).iP,(((((gd x1 dX.2).cB).bU):Int) == 2)⟩:gV)] <|
         .nil [0,1,2,3,4,5,6,7,8,9,13,14,15,19,17,10] _) (
         .lt _ fun a2G =>
         .ite _ (
          .ex [0,1,2,3] <|
          .tx [7,8,9,10] <|
          .ex [4,5] <|
          .fk 6 <|
          .ob 999999 0 18 (El.b9 fC [(⟨aEl,(gd x1 dX.2).iP,(((((gd x1 dX.2).cB).bU):Int) == 2)⟩:gV)] rfl rfl) <|
          .tl [7,8,9,10] <|
          .ck _ <|
          .ap 16 3 19 126 fC ((dX.1).eP) [(⟨aEl,(gd x1 dX.2).iP,(((((gd x1 dX.2).cB).bU):Int) == 2)⟩:gV)] <|
          .nil [0,1,2,3,4,5,6,7,8,9,13,14,15,16,19,10] _) (
          .nil [0,1,2,3,4,5,6,7,8,9,13,14,15,16,17,10] _))))) fun aPL =>
     .nil [0,1,2,3,4,5,6,7,8,9,10,11,12,13,14,15] _) fun aPM =>
    .nil [0,1,2,3,4,5,6,7,8,9,10,11,12,13,14,15] _) (
    .ret [0,1,2,3,4,5,6,7,8,9,10,11,12,13,14] _)) fun aHf =>
  .mv 1000000 0 1 <|
  .mv 1000000 0 2 <|
  .mv 1000000 0 3 <|
  .mv 1000000 0 9 <|
  .nil [0,1,2,3,4,5,6,7,8,9,15,16,17,10,11,12,13,14,18] _)
def F20 (K:Nat) (a0:cK):Option ((fF) ⊕ (fF)) :=
 (bT (bQ ((iter K (fun (dP:(List (List Bytes)) × (List w8) × (List sL) × (List Int) × Bytes × (List Int) × (List Int) × (List gV) × (List gV) × (List S85) × Int × Int × Int)=>(bR (decide ((dP.2.2.2.2.2.2.2.2.2.2.2.2:Int)<(Int.ofNat a0.bP.length))) (fun (a2I:Bool)=>(if a2I=true then (bT (bQ (bY [cP dP.2.2.2.2.2.2.2.2.2.2.2.2 a0.bP.length] (bR ((a0.bP.getD (dP.2.2.2.2.2.2.2.2.2.2.2.2:Int).toNat default).bU) (fun (aPO:Int)=>(bT (bQ (if ((aPO:Int) == 1)=true then (bT (bQ ((iter K (fun (yT:(List Bytes) × Int)=>(bR (decide ((yT.2:Int)<(Int.ofNat ((a0.bP.getD (dP.2.2.2.2.2.2.2.2.2.2.2.2:Int).toNat default).bS).length))) (fun (a2J:Bool)=>(if a2J=true then (bT (bQ (bY [cP yT.2 ((a0.bP.getD (dP.2.2.2.2.2.2.2.2.2.2.2.2:Int).toNat default).bS).length] ((bX (F58 K (((a0.bP.getD (dP.2.2.2.2.2.2.2.2.2.2.2.2:Int).toNat default).bS).getD (yT.2:Int).toNat default))).bind (fun aPP=>(bY [room ((yT.1.length+([aPP].length)) * 16)] (some (.inr ((yT.1++[aPP]))))))))) (fun (aPQ:(List Bytes))=>(some (.inr (aPQ,(IntKind.i64.wrap (yT.2+1))))))) else (some (.inl (Sum.inl (yT.1)))))))) ([],0)).map .inl)) (fun (aHt:(List Bytes))=>(bY [room ((dP.1.length+([aHt].length)) * 24)] (some (.inr ((⟨(dP.1++[aHt]),dP.2.1,dP.2.2.1,dP.2.2.2.1,dP.2.2.2.2.1,dP.2.2.2.2.2.1,dP.2.2.2.2.2.2.1,dP.2.2.2.2.2.2.2.1,dP.2.2.2.2.2.2.2.2.1,dP.2.2.2.2.2.2.2.2.2.1,dP.2.2.2.2.2.2.2.2.2.2.1,dP.2.2.2.2.2.2.2.2.2.2.2.1⟩:fF))))))) else (if ((aPO:Int) == 2)=true then ((bX (F59 K a0 dP.2.2.2.2.2.2.2.2.2.2.2.2)).bind (fun aJf=>(bY [room ((dP.2.1.length+([aJf].length)) * 120)] (some (.inr ((⟨dP.1,(dP.2.1++[aJf]),dP.2.2.1,dP.2.2.2.1,dP.2.2.2.2.1,dP.2.2.2.2.2.1,dP.2.2.2.2.2.2.1,dP.2.2.2.2.2.2.2.1,dP.2.2.2.2.2.2.2.2.1,dP.2.2.2.2.2.2.2.2.2.1,dP.2.2.2.2.2.2.2.2.2.2.1,dP.2.2.2.2.2.2.2.2.2.2.2.1⟩:fF))))))) else (if ((aPO:Int) == 3)=true then ((bX (F60 K a0 dP.2.2.2.2.2.2.2.2.2.2.2.2 (⟨dP.1,dP.2.1,dP.2.2.1,dP.2.2.2.1,dP.2.2.2.2.1,dP.2.2.2.2.2.1,dP.2.2.2.2.2.2.1,dP.2.2.2.2.2.2.2.1,dP.2.2.2.2.2.2.2.2.1,dP.2.2.2.2.2.2.2.2.2.1,dP.2.2.2.2.2.2.2.2.2.2.1,dP.2.2.2.2.2.2.2.2.2.2.2.1⟩:fF))).bind (fun a2K=>(some (.inr (a2K))))) else (if ((aPO:Int) == 4)=true then (bR ((a0.bP.getD (dP.2.2.2.2.2.2.2.2.2.2.2.2:Int).toNat default).gF) (fun (aYi:Bytes)=>((cE true (bX (F61 K a0 aYi)) default).bind (fun aYj=>((cE true (bX (F24 K a0 (⟨aYj,(-1)⟩:dS))) default).bind (fun aPR=>(bY [room ((dP.2.2.2.2.2.2.2.2.2.1.length+([(⟨aPR,(a0.bP.getD (dP.2.2.2.2.2.2.2.2.2.2.2.2:Int).toNat default).mG,(a0.bP.getD (dP.2.2.2.2.2.2.2.2.2.2.2.2:Int).toNat default).mH⟩:S85)].length)) * 24)] (some (.inr ((⟨dP.1,dP.2.1,dP.2.2.1,dP.2.2.2.1,dP.2.2.2.2.1,dP.2.2.2.2.2.1,dP.2.2.2.2.2.2.1,dP.2.2.2.2.2.2.2.1,dP.2.2.2.2.2.2.2.2.1,(dP.2.2.2.2.2.2.2.2.2.1++[(⟨aPR,(a0.bP.getD (dP.2.2.2.2.2.2.2.2.2.2.2.2:Int).toNat default).mG,(a0.bP.getD (dP.2.2.2.2.2.2.2.2.2.2.2.2:Int).toNat default).mH⟩:S85)]),dP.2.2.2.2.2.2.2.2.2.2.1,dP.2.2.2.2.2.2.2.2.2.2.2.1⟩:fF))))))))))) else (some (.inr ((⟨dP.1,dP.2.1,dP.2.2.1,dP.2.2.2.1,dP.2.2.2.2.1,dP.2.2.2.2.2.1,dP.2.2.2.2.2.2.1,dP.2.2.2.2.2.2.2.1,dP.2.2.2.2.2.2.2.2.1,dP.2.2.2.2.2.2.2.2.2.1,dP.2.2.2.2.2.2.2.2.2.2.1,dP.2.2.2.2.2.2.2.2.2.2.2.1⟩:fF))))))))) (fun (aPS:fF)=>(some (.inr ((aPS)))))))))) (fun (vH:fF)=>(bR (IntKind.i64.wrap (dP.2.2.2.2.2.2.2.2.2.2.2.2+1)) (fun (a2L:Int)=>(some (.inr ((vH).cL,(vH).cO,(vH).dI,(vH).dW,(vH).dJ,(vH).dM,(vH).b8,(vH).fY,(vH).eP,(vH).eN,(vH).fD,(vH).fW,a2L))))))) else (some (.inl (Sum.inl (dP.1,dP.2.1,dP.2.2.1,dP.2.2.2.1,dP.2.2.2.2.1,dP.2.2.2.2.2.1,dP.2.2.2.2.2.2.1,dP.2.2.2.2.2.2.2.1,dP.2.2.2.2.2.2.2.2.1,dP.2.2.2.2.2.2.2.2.2.1,dP.2.2.2.2.2.2.2.2.2.2.1,dP.2.2.2.2.2.2.2.2.2.2.2.1)))))))) ([],[],[],[],([]:Bytes),[],[],[],[],[],0,0,0)).map .inl)) (fun (j4:(List (List Bytes)) × (List w8) × (List sL) × (List Int) × Bytes × (List Int) × (List Int) × (List gV) × (List gV) × (List S85) × Int × Int)=>((bX (F62 K a0)).bind (fun yU=>(bT (bQ ((iter K (fun (jI:fF × Int)=>(bR (decide ((jI.2:Int)<(Int.ofNat yU.length))) (fun (aVF:Bool)=>(if aVF=true then (bT (bQ (bY [cP jI.2 yU.length] (bR (decide ((((yU.getD (jI.2:Int).toNat default).dF):Int) ≥ 0)) (fun (aVG:Bool)=>(bT (if aVG=true then (bY [cP jI.2 yU.length] ((bX (F63 K a0 (yU.getD (jI.2:Int).toNat default))).bind (fun aAZ=>(bY [cP jI.2 yU.length] ((cE true (bX (F21 K a0 ((yU.getD (jI.2:Int).toNat default).cZ))) default).bind (fun aPT=>((cE true (bX (F64 K aAZ)) default).bind (fun aPU=>((bX (F65 K aAZ.cA)).bind (fun aVH=>(some (.inr ((jI.1),aPT,aPU,aVH.1,((aAZ.eU.bU:Int) != 0)))))))))))))) else (some (.inr ((jI.1),(-1),([]:Bytes),([]:Bytes),false)))) (fun (fH:fF × Int × Bytes × Bytes × Bool)=>(bY [room ((((fH.1).dI.length)+([(⟨fH.2.1,fH.2.2.1,fH.2.2.2.1,fH.2.2.2.2,0,[]⟩:sL)].length)) * 80)] (some (.inr ((⟨(fH.1).cL,(fH.1).cO,(((fH.1).dI)++[(⟨fH.2.1,fH.2.2.1,fH.2.2.2.1,fH.2.2.2.2,0,[]⟩:sL)]),(fH.1).dW,(fH.1).dJ,(fH.1).dM,(fH.1).b8,(fH.1).fY,(fH.1).eP,(fH.1).eN,(fH.1).fD,(fH.1).fW⟩:fF))))))))))) (fun (aHu:fF)=>(some (.inr ((aHu),(IntKind.i64.wrap (jI.2+1))))))) else (some (.inl (Sum.inl ((jI.1))))))))) ((⟨j4.1,j4.2.1,j4.2.2.1,j4.2.2.2.1,j4.2.2.2.2.1,j4.2.2.2.2.2.1,j4.2.2.2.2.2.2.1,j4.2.2.2.2.2.2.2.1,j4.2.2.2.2.2.2.2.2.1,j4.2.2.2.2.2.2.2.2.2.1,j4.2.2.2.2.2.2.2.2.2.2.1,j4.2.2.2.2.2.2.2.2.2.2.2⟩:fF),0)).map .inl)) (fun (aHv:fF)=>(some (.inl ((aHv))))))))))
abbrev aKK (v0:cK) (v1:(List (List Bytes)) × (List w8) × (List sL) × (List Int) × Bytes × (List Int) × (List Int) × (List gV) × (List gV) × (List S85) × Int × Int × Int):List Go.Dl.Obj:=[.cells (c9.cs v0),oX0,.cells [.own 3 v1.1.length,.own 4 v1.2.1.length,.own 5 v1.2.2.1.length,.own 6 v1.2.2.2.1.length,.str v1.2.2.2.2.1,.own 7 v1.2.2.2.2.2.1.length,.own 8 v1.2.2.2.2.2.2.1.length,.own 9 v1.2.2.2.2.2.2.2.1.length,.own 10 v1.2.2.2.2.2.2.2.2.1.length,.own 11 v1.2.2.2.2.2.2.2.2.2.1.length,iC v1.2.2.2.2.2.2.2.2.2.2.1,iC v1.2.2.2.2.2.2.2.2.2.2.2.1],sO.row v1.1,nW.row v1.2.1,p7.row v1.2.2.1,E3.row v1.2.2.2.1,E3.row v1.2.2.2.2.2.1,E3.row v1.2.2.2.2.2.2.1,fC.row v1.2.2.2.2.2.2.2.1,fC.row v1.2.2.2.2.2.2.2.2.1,vE.row v1.2.2.2.2.2.2.2.2.2.1]
abbrev aKL (v0:fF):List Go.Dl.Obj:=[sO.row ((v0).cL),nW.row ((v0).cO),p7.row ((v0).dI),E3.row ((v0).dW),E3.row ((v0).dM),E3.row ((v0).b8),fC.row ((v0).fY),fC.row ((v0).eP),vE.row ((v0).eN)]
abbrev aPV (v0:fF × Int):List Go.Dl.Obj:=[sO.row ((v0.1).cL),nW.row ((v0.1).cO),p7.row ((v0.1).dI),E3.row ((v0.1).dW),E3.row ((v0.1).dM),E3.row ((v0.1).b8),fC.row ((v0.1).fY),fC.row ((v0.1).eP),vE.row ((v0.1).eN)]
abbrev qS:List (Nat × D):=[sP 1 0 0 0,sP 2 1 0 0,sP 3 2 0 0]
theorem aYk (K:Nat) (a0:cK):bV Tryz.prog 20 [.agg (c9.cs a0)] [] (bX (F20 K a0)) (fun r=>.agg (vQ.cs r)) (fun r=>[.cells (vQ.cs r)]):=by
 refine bV.it Tryz.f20 (fun r=>⟨[sP 2 0 0 0],[.cells (vQ.cs r)],[],0⟩) ?_
 unfold F20
 exact Ref.pt (
  .bk 0 (fun j4=>⟨qS,[.cells (c9.cs a0),oX0,.cells [.own 3 j4.1.length,.own 4 j4.2.1.length,.own 5 j4.2.2.1.length,.own 6 j4.2.2.2.1.length,.str j4.2.2.2.2.1,.own 7 j4.2.2.2.2.2.1.length,.own 8 j4.2.2.2.2.2.2.1.length,.own 9 j4.2.2.2.2.2.2.2.1.length,.own 10 j4.2.2.2.2.2.2.2.2.1.length,.own 11 j4.2.2.2.2.2.2.2.2.2.1.length,iC j4.2.2.2.2.2.2.2.2.2.2.1,iC j4.2.2.2.2.2.2.2.2.2.2.2],sO.row j4.1,nW.row j4.2.1,p7.row j4.2.2.1,E3.row j4.2.2.2.1,E3.row j4.2.2.2.2.2.1,E3.row j4.2.2.2.2.2.2.1,fC.row j4.2.2.2.2.2.2.2.1,fC.row j4.2.2.2.2.2.2.2.2.1,vE.row j4.2.2.2.2.2.2.2.2.2.1],[],0⟩) (
   .adc 2 0 2 0 sO.ty sO.w (sO.at []) <|
   .adc 2 0 2 1 nW.ty nW.w (nW.at []) <|
   .adc 2 0 2 2 p7.ty p7.w (p7.at []) <|
   .adc 2 0 2 3 E3.ty E3.w (E3.at []) <|
   .adc 2 0 2 5 E3.ty E3.w (E3.at []) <|
   .adc 2 0 2 6 E3.ty E3.w (E3.at []) <|
   .adc 2 0 2 7 fC.ty fC.w (fC.at []) <|
   .adc 2 0 2 8 fC.ty fC.w (fC.at []) <|
   .adc 2 0 2 9 vE.ty vE.w (vE.at []) <|
   .lp [0,1,2,3,4,5,6,7,8,9,10,11] (fun dP=>⟨qS++[sI 4 dP.2.2.2.2.2.2.2.2.2.2.2.2],aKK a0 dP,[],0⟩) fun dP =>
   .lt _ fun a2I =>
   .ite _ (
    .bk 1 (fun vH=>⟨qS++[sI 4 dP.2.2.2.2.2.2.2.2.2.2.2.2],.cells (c9.cs a0)::oX0::.cells (fF.oc (vH) 3 4 5 6 7 8 9 10 11)::aKL vH,[],0⟩) (
     .ck _ <|
     .lt _ fun aPO =>
     .bk 2 (fun aPS=>⟨qS++[sI 4 dP.2.2.2.2.2.2.2.2.2.2.2.2],.cells (c9.cs a0)::oX0::.cells (fF.oc (aPS) 3 4 5 6 7 8 9 10 11)::aKL aPS,[],0⟩) (
      .ite _ (
       .bk 3 (fun aHt=>⟨qS++[sI 4 dP.2.2.2.2.2.2.2.2.2.2.2.2,(6,.c (.own 12 aHt.length))],aKK a0 dP++[E9.row aHt],[],0⟩) (
        .ad 9 0 6 E9.ty E9.w (E9.at []) <|
        .lp [0,1,2,3,4,5,6,7,8,9,10,11,12,13] (fun yT=>⟨qS++[sI 4 dP.2.2.2.2.2.2.2.2.2.2.2.2,sP 5 12 0 0,(6,.c (.own 13 yT.1.length)),sI 7 yT.2],aKK a0 dP++[gW.o (gd a0.bP dP.2.2.2.2.2.2.2.2.2.2.2.2),E9.row yT.1],[],0⟩) fun yT =>
        .lt _ fun a2J =>
        .ite _ (
         .bk 4 (fun aPQ=>⟨qS++[sI 4 dP.2.2.2.2.2.2.2.2.2.2.2.2,sP 5 12 0 0,(6,.c (.own 13 aPQ.length)),sI 7 yT.2],aKK a0 dP++[gW.o (gd a0.bP dP.2.2.2.2.2.2.2.2.2.2.2.2),E9.row aPQ],[],0⟩) (
          .ck _ <|
          .call [] (aJa _ _) fun aPP =>
          .ob 12 2 14 (El.b9 E9 [aPP] rfl rfl) <|
          .ck _ <|
          .ap 12 1 15 45 E9 yT.1 [aPP] <|
          .nil [0,1,2,3,4,5,6,7,8,9,10,11,12,15] _) fun aPQ =>
         .nil [0,1,2,3,4,5,6,7,8,9,10,11,12,13] _) (
         .ret [0,1,2,3,4,5,6,7,8,9,10,11,13] _)) fun aHt =>
       .fz 13 4 12 <|
       .ob 13 3 13 (El.b9 sO [aHt] rfl rfl) <|
       .ck _ <|
       .ap 13 2 14 50 sO dP.1 [aHt] <|
       .nil [0,1,2,14,4,5,6,7,8,9,10,11] _) (
       .ite _ (
        .ex [0,3] <|
        .tx [4,6,8] <|
        .ex [2] <|
        .kn fun aJf a2M =>
        .asm _ fun h1 =>
        .all [1,2,3,4,54,56,57,55,58,59,60,61] (rg (cd (cd (bd Tryz.f20) [1,1,0,1,0,0,1,0,0,1,1,0,1,1,1]) [0])) [true,false,true,true,false,false,false,false,false] (hl [(4,.kc [] (bV.eq (aYe _ _ _) a2M) []),(5,.no [.bd 59 nW [aJf]]),(6,.ck _ h1 [.ap 60 nW dP.2.1 [aJf]])]) ⟨qS++[sI 4 dP.2.2.2.2.2.2.2.2.2.2.2.2],[.cells (c9.cs a0),oX0,.cells [.own 3 dP.1.length,.own 4 ((dP.2.1++[aJf]).length),.own 5 dP.2.2.1.length,.own 6 dP.2.2.2.1.length,.str dP.2.2.2.2.1,.own 7 dP.2.2.2.2.2.1.length,.own 8 dP.2.2.2.2.2.2.1.length,.own 9 dP.2.2.2.2.2.2.2.1.length,.own 10 dP.2.2.2.2.2.2.2.2.1.length,.own 11 dP.2.2.2.2.2.2.2.2.2.1.length,iC dP.2.2.2.2.2.2.2.2.2.2.1,iC dP.2.2.2.2.2.2.2.2.2.2.2.1],sO.row dP.1,nW.row (dP.2.1++[aJf]),p7.row dP.2.2.1,E3.row dP.2.2.2.1,E3.row dP.2.2.2.2.2.1,E3.row dP.2.2.2.2.2.2.1,fC.row dP.2.2.2.2.2.2.2.1,fC.row dP.2.2.2.2.2.2.2.2.1,vE.row dP.2.2.2.2.2.2.2.2.2.1],[],0⟩ [.s 1,.s 2,.s 3,.o 2 0,.o 2 1,.o 2 2,.o 2 3,.o 2 5,.o 2 6,.o 2 7,.o 2 8,.o 2 9] <|
        .nil [0,1,2,3,4,5,6,7,8,9,10,11] _) (
        .ite _ (
         .call [2,3,4,5,6,7,8,9,10,11] (aYh _ _ _ _) fun a2K =>
         .nil [0,1,2,13,14,15,16,17,18,19,20,21] _) (
         .ite _ (
          .ex [2] <|
          .tx [] <|
          .ex [0,1,3] <|
          .lt _ fun aYi =>
          .dQ 4 (default:Int) _ [] (lB K a0 aYi) (fun _=>rfl) fun aYj =>
          .ex [5] <|
          .dQ 6 (default:Int) _ [] (aFV K a0 (⟨aYj,(-1)⟩:dS)) (fun _=>rfl) fun aPR =>
          .ex [7] <|
          .ob 20 3 13 (El.b9 vE [(⟨aPR,(gd a0.bP dP.2.2.2.2.2.2.2.2.2.2.2.2).mG,(gd a0.bP dP.2.2.2.2.2.2.2.2.2.2.2.2).mH⟩:S85)] rfl rfl) <|
          .ck _ <|
          .ap 20 2 14 85 vE dP.2.2.2.2.2.2.2.2.2.1 [(⟨aPR,(gd a0.bP dP.2.2.2.2.2.2.2.2.2.2.2.2).mG,(gd a0.bP dP.2.2.2.2.2.2.2.2.2.2.2.2).mH⟩:S85)] <|
          .nil [0,1,2,3,4,5,6,7,8,9,10,14] _) (
          .nil [0,1,2,3,4,5,6,7,8,9,10,11] _))))) fun aPS =>
     .nil [0,1,2,3,4,5,6,7,8,9,10,11] _) fun vH =>
    .lt _ fun a2L =>
    .nil [0,1,2,3,4,5,6,7,8,9,10,11] _) (
    .ret [0,1,2,3,4,5,6,7,8,9,10,11] _)) fun j4 =>
  .call [] (aPs _ _) fun yU =>
  .bk 5 (fun aHv=>⟨[sP 2 0 0 0,sP 3 1 0 0],oX0::.cells (fF.oc (aHv) 2 3 4 5 6 7 8 9 10)::aKL aHv,[],0⟩) (
   .lp [0,1,2,3,4,5,6,7,8,9,10,11] (fun jI=>⟨qS++[(9,.c (dY.tree yU)),sI 10 jI.2],.cells (c9.cs a0)::oX0::.cells (fF.oc (jI.1) 3 4 5 6 7 8 9 10 11)::aPV jI,[],0⟩) fun jI =>
   .lt _ fun aVF =>
   .ite _ (
    .bk 6 (fun aHu=>⟨qS++[(9,.c (dY.tree yU)),sI 10 jI.2],.cells (c9.cs a0)::oX0::.cells (fF.oc (aHu) 3 4 5 6 7 8 9 10 11)::aKL aHu,[],0⟩) (
     .ck _ <|
     .lt _ fun aVG =>
     .jn (fun fH=>⟨qS++[(9,.c (dY.tree yU)),sI 10 jI.2,sP 11 12 0 0],[.cells (c9.cs a0),oX0,.cells (fF.oc (fH.1) 3 4 5 6 7 8 9 10 11),sO.row ((fH.1).cL),nW.row ((fH.1).cO),p7.row ((fH.1).dI),E3.row ((fH.1).dW),E3.row ((fH.1).dM),E3.row ((fH.1).b8),fC.row ((fH.1).fY),fC.row ((fH.1).eP),vE.row ((fH.1).eN),.cells [iC fH.2.1,.str fH.2.2.1,.str fH.2.2.2.1,bC fH.2.2.2.2,iC 0,.nil]],[],0⟩) (
      .ite _ (
       .hO [1,2,3] _ <|
       .tx [5,7] <|
       .ex [0,4] <|
       .kn fun aAZ aYl =>
       .all [1,2,3,9,10,11,102,106,107,12] (rg (cd (bd Tryz.f20) [1,1,1,1,0,1,0,0,1,0,0,1,0,1,0,0])) [true,true,true,true,true,false,false,false] (hl [(5,.kc [] (bV.eq (wL _ _ _) aYl) [])]) ⟨qS++[(9,.c (dY.tree yU)),sI 10 jI.2,sP 11 3 0 0,sP 12 4 0 0],.cells (c9.cs a0)::oX0::.cells (fF.oc (jI.1) 5 6 7 8 9 10 11 12 13)::.cells [iC (-1),.str [],.str [],bC false,iC 0,.nil]::jO.o aAZ::aPV jI,[],0⟩ [.s 1,.s 2,.s 3,.s 11,.s 12,.o 2 0,.o 2 1,.o 2 2,.o 2 3,.o 2 5,.o 2 6,.o 2 7,.o 2 8,.o 2 9] <|
       .hO [1,2,3,4,9,10] _ <|
       .tx [14,16,18] <|
       .ex [0,5,7] <|
       .dQ 6 (default:Int) _ [] (aFU K a0 ((gd yU jI.2).cZ)) (fun _=>rfl) fun aPT =>
       .ex [13] <|
       .dQ 8 (default:Bytes) _ [] (aPt K aAZ) (fun _=>rfl) fun aPU =>
       .all [1,2,3,9,10,11,12,114,115,118,121,116,119,120,122,123] (rg (cd (bd Tryz.f20) [1,1,1,1,0,1,0,0,1,0,0,1,0,1,0,1,0])) [true,true,true,true,true,true,true,true,true,true,true,false,false,true,false,false,false,false,false] (hl []) ⟨qS++[(9,.c (dY.tree yU)),sI 10 jI.2,sP 11 3 0 0,sP 12 4 0 0],.cells (c9.cs a0)::oX0::.cells (fF.oc (jI.1) 5 6 7 8 9 10 11 12 13)::.cells [iC aPT,.str aPU,.str [],bC ((aAZ.eU.bU:Int) != 0),iC 0,.nil]::jO.o aAZ::aPV jI,[],0⟩ [.s 1,.s 2,.s 3,.s 11,.s 12,.o 2 0,.o 2 1,.o 2 2,.o 2 3,.o 2 5,.o 2 6,.o 2 7,.o 2 8,.o 2 9] <|
       .call [] (aJd _ _) fun aVH =>
       .nil [0,1,2,5,6,7,8,9,10,11,12,13,3] _) (
       .nil [0,1,2,3,4,5,6,7,8,9,10,11,12] _)) fun fH =>
     .sk 30 4 133 5 (x:=.nil) (y:=aAq.tree []) (El.cJ aAq) <|
     .ob 30 3 13 (El.b9 p7 [(⟨fH.2.1,fH.2.2.1,fH.2.2.2.1,fH.2.2.2.2,0,[]⟩:sL)] rfl rfl) <|
     .ck _ <|
     .ap 30 2 14 135 p7 ((fH.1).dI) [(⟨fH.2.1,fH.2.2.1,fH.2.2.2.1,fH.2.2.2.2,0,[]⟩:sL)] <|
     .nil [0,1,2,3,4,14,6,7,8,9,10,11] _) fun aHu =>
    .nil [0,1,2,3,4,5,6,7,8,9,10,11] _) (
    .ret [1,2,3,4,5,6,7,8,9,10,11] _)) fun aHv =>
  .fz 31 0 2 <|
  .fz 31 0 3 <|
  .fz 31 0 4 <|
  .fz 31 0 5 <|
  .fz 31 0 6 <|
  .fz 31 0 7 <|
  .fz 31 0 8 <|
  .fz 31 0 9 <|
  .fz 31 0 10 <|
  .ret [0] _)
def F26 (K:Nat) (a0:cK) (a1:Int) (a2:Bytes):Option ((Int) ⊕ (Int)) :=
 ((bX (F68 K a0 a1)).bind (fun r1=>(if ((r1:Int) != 2)=true then (some (.inl ((-1)))) else ((bX (F70 K a0 a1)).bind (fun r2=>((bX (F69 K r2 a2 0)).bind (fun r3=>(some (.inl (r3))))))))))
theorem aYm (K:Nat) (a0:cK) (a1:Int) (a2:Bytes):bV Tryz.prog 26 [.agg (c9.cs a0),.c (.val (.int .i64 a1)),.c (.str a2)] [] (bX (F26 K a0 a1 a2)) (fun r=>.c (.val (.int .i64 r))) (fun r=>[]):=by
 refine bV.it Tryz.f26 (fun r=>⟨[sI 6 r],[],[],0⟩) ?_
 unfold F26
 exact Ref.pt (
  .call [] (lC _ _ _) fun r1 =>
  .ite _ (
   .ret [] _) (
   .call [] (aFE _ _ _) fun r2 =>
   .call [] (aPG _ _ _ _) fun r3 =>
   .ret [] _))
def F28 (K:Nat) (a0:cK) (a1:Int) (a2:Bytes):Option ((Int) ⊕ (Int)) :=
 ((bX (F67 K a0 a1 a2 6)).bind (fun r1=>(if (decide ((r1:Int)<0))=true then (some (.inl ((-1)))) else (some (.inl ((IntKind.i64.wrap (r1+1))))))))
theorem aYn (K:Nat) (a0:cK) (a1:Int) (a2:Bytes):bV Tryz.prog 28 [.agg (c9.cs a0),.c (.val (.int .i64 a1)),.c (.str a2)] [] (bX (F28 K a0 a1 a2)) (fun r=>.c (.val (.int .i64 r))) (fun r=>[]):=by
 refine bV.it Tryz.f28 (fun r=>⟨[sI 6 r],[],[],0⟩) ?_
 unfold F28
 exact Ref.pt (
  .call [] (aJe _ _ _ _ _) fun r1 =>
  .ite _ (
   .ret [] _) (
   .ret [] _))
def F29 (K:Nat) (a0:cK) (a1:Int) (a2:Bytes):Option ((Int) ⊕ (Int)) :=
 ((bX (F67 K a0 a1 a2 7)).bind (fun r1=>(some (.inl (r1)))))
theorem aYo (K:Nat) (a0:cK) (a1:Int) (a2:Bytes):bV Tryz.prog 29 [.agg (c9.cs a0),.c (.val (.int .i64 a1)),.c (.str a2)] [] (bX (F29 K a0 a1 a2)) (fun r=>.c (.val (.int .i64 r))) (fun r=>[]):=by
 refine bV.it Tryz.f29 (fun r=>⟨[sI 6 r],[],[],0⟩) ?_
 unfold F29
 exact Ref.pt (
  .call [] (aJe _ _ _ _ _) fun r1 =>
  .ret [] _)
def F30 (K:Nat) (a0:cK) (a1:Int) (a2:Bytes):Option ((Int) ⊕ (Int)) :=
 ((bX (F71 K a0 a1)).bind (fun r1=>(bT (bQ ((iter K (fun (sD:Int)=>(bR (decide ((sD:Int)<(Int.ofNat r1.length))) (fun (x17:Bool)=>(if x17=true then (bT (bQ (bY [cP sD r1.length] (if ((r1.getD (sD:Int).toNat default) == a2)=true then (some (.inl (Sum.inr (Sum.inr (sD))))) else (some (.inr ()))))) (fun (u18:Unit)=>(some (.inr ((IntKind.i64.wrap (sD+1))))))) else (some (.inl (Sum.inl ()))))))) (0)).map .inl)) (fun (u10:Unit)=>(some (.inl ((-1))))))))
theorem aYp (K:Nat) (a0:cK) (a1:Int) (a2:Bytes):bV Tryz.prog 30 [.agg (c9.cs a0),.c (.val (.int .i64 a1)),.c (.str a2)] [] (bX (F30 K a0 a1 a2)) (fun r=>.c (.val (.int .i64 r))) (fun r=>[]):=by
 refine bV.it Tryz.f30 (fun r=>⟨[sI 6 r],[],[],0⟩) ?_
 unfold F30
 exact Ref.pt (
  .call [] (aPC _ _ _) fun r1 =>
  .bk 0 (fun u10=>⟨[],[],[],0⟩) (
   .lp [] (fun sD=>⟨[sS 2 a2,(7,.c (E9.tree r1)),sI 8 sD],[],[],0⟩) fun sD =>
   .lt _ fun x17 =>
   .ite _ (
    .bk 1 (fun u18=>⟨[sS 2 a2,(7,.c (E9.tree r1)),sI 8 sD],[],[],0⟩) (
     .ck _ <|
     .ite _ (
      .ret [] _) (
      .nil [] _)) fun u18 =>
    .nil [] _) (
    .ret [] _)) fun u10 =>
  .ret [] _)
end Go.Proofs.YtdbfbedholdjaaaGreat
