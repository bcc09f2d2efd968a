/- No conditions. -/
import Derived.Test.YtdbfbedholdjaaaGreatGLA
import Derived.Test.YtdbfbedholdjaaaGreatProg
set_option linter.unusedVariables false
set_option linter.unusedSimpArgs false
set_option linter.unusedSectionVars false
namespace Go.Proofs.YtdbfbedholdjaaaGreat
open Go Go.Proofs Go.Dl
variable [dK]
set_option maxRecDepth 100000
set_option maxHeartbeats 4000000
def F45 (K:Nat) (a0:cM) (a1:Int):Option ((Int) ⊕ (Int)) :=
 (bO ((decide ((a1:Int)<0)) || (decide ((a1:Int) ≥ (Int.ofNat a0.bM.length)))) (fun (x1:Bool)=>(if x1=true then (some (.inl (0))) else (bW [cY a1 a0.bM.length] (bO ((a0.bM.getD (a1:Int).toNat default).bR) (fun (x2:Int)=>(some (.inl (x2)))))))))
theorem aEi (K:Nat) (a0:cM) (a1:Int):bS Tryz.prog 45 [.agg (dP.cs a0),.c (.val (.int .i64 a1))] [] (bV (F45 K a0 a1)) (fun r=>.c (.val (.int .i64 r))) (fun r=>[]):=by
 refine bS.it Tryz.f45 (fun r=>⟨[sI 4 r],[],[],0⟩) ?_
 unfold F45
 exact Ref.pt (
  .lt _ fun x1 =>
  .ite _ (
   .ret [] _) (
   .ck _ <|
   .lt _ fun x2 =>
   .ret [] _))
def F50 (K:Nat) (a0:cM) (a1:Int) (a2:Int):Option ((Bool) ⊕ (Bool)) :=
 (bW [!((decide ((a1:Int) ≥ 0)) && (decide ((a1:Int)<(Int.ofNat a0.bM.length)))) || cY a1 a0.bM.length] (bO (((decide ((a1:Int) ≥ 0)) && (decide ((a1:Int)<(Int.ofNat a0.bM.length)))) && ((((a0.bM.getD (a1:Int).toNat default).bR):Int) == a2)) (fun (x1:Bool)=>(some (.inl (x1))))))
theorem aFi (K:Nat) (a0:cM) (a1:Int) (a2:Int):bS Tryz.prog 50 [.agg (dP.cs a0),.c (.val (.int .i64 a1)),.c (.val (.int .i64 a2))] [] (bV (F50 K a0 a1 a2)) (fun r=>.c (.val (.bool r))) (fun r=>[]):=by
 refine bS.it Tryz.f50 (fun r=>⟨[sB 6 r],[],[],0⟩) ?_
 unfold F50
 exact Ref.pt (
  .ck _ <|
  .lt _ fun x1 =>
  .ret [] _)
def F47 (K:Nat) (a0:cM) (a1:Int) (a2:Int):Option ((Int) ⊕ (Int)) :=
 ((bV (F50 K a0 a1 a2)).bind (fun r1=>(if (!r1)=true then (some (.inl ((-1)))) else (bW [c5 a0.bM.length 0 a1] (bO ((a0.bM.drop (0:Int).toNat).take ((a1:Int).toNat - (0:Int).toNat)) (fun (x2:(List gX))=>(bP (bN ((iter K (fun (dZ:Int × Int)=>(bO (decide ((dZ.2:Int)<(Int.ofNat x2.length))) (fun (kP:Bool)=>(if kP=true then (bP (bN (bW [cY dZ.2 x2.length] (bO ((((x2.getD (dZ.2:Int).toNat default).bR):Int) == a2) (fun (x31:Bool)=>(if x31=true then (some (.inr ((IntKind.i64.wrap (dZ.1+1))))) else (some (.inr (dZ.1)))))))) (fun (eS:Int)=>(some (.inr (eS,(IntKind.i64.wrap (dZ.2+1))))))) else (some (.inl (Sum.inl (dZ.1)))))))) (0,0)).map .inl)) (fun (kI:Int)=>(some (.inl (kI)))))))))))
theorem aN5 (K:Nat) (a0:cM) (a1:Int) (a2:Int):bS Tryz.prog 47 [.agg (dP.cs a0),.c (.val (.int .i64 a1)),.c (.val (.int .i64 a2))] [] (bV (F47 K a0 a1 a2)) (fun r=>.c (.val (.int .i64 r))) (fun r=>[]):=by
 refine bS.it Tryz.f47 (fun r=>⟨[sI 6 r],[],[],0⟩) ?_
 unfold F47
 exact Ref.pt (
  .call [] (aFi _ _ _ _) fun r1 =>
  .ite _ (
   .ret [] _) (
   .ckh _ fun hv =>
   .sl 4 2 18 (x:=.c (.tree gT.w ((a1:Int).toNat - (0:Int).toNat) fun i j=>gT.at a0.bM ((0:Int).toNat+i) j)) (y:=(.c (gT.tree ((a0.bM.drop (0:Int).toNat).take ((a1:Int).toNat - (0:Int).toNat))))) (jR.c (El.oC gT _ (sZ (hv _ (List.Mem.head _))))) <|
   .lt _ fun x2 =>
   .bk 0 (fun kI=>⟨[sI 7 kI],[],[],0⟩) (
    .lp [] (fun dZ=>⟨[sI 2 a2,sI 7 dZ.1,(18,.c (gT.tree x2)),sI 19 (Int.ofNat x2.length),sI 20 dZ.2],[],[],0⟩) fun dZ =>
    .lt _ fun kP =>
    .ite _ (
     .bk 1 (fun eS=>⟨[sI 2 a2,sI 7 eS,(18,.c (gT.tree x2)),sI 19 (Int.ofNat x2.length),sI 20 dZ.2],[],[],0⟩) (
      .ck _ <|
      .lt _ fun x31 =>
      .ite _ (
       .nil [] _) (
       .nil [] _)) fun eS =>
     .nil [] _) (
     .ret [] _)) fun kI =>
   .ret [] _))
def F11 (K:Nat) (a0:cM) (a1:Int):Option ((Int) ⊕ (Int)) :=
 ((bV (F47 K a0 a1 2)).bind (fun r1=>(some (.inl (r1)))))
theorem aIz (K:Nat) (a0:cM) (a1:Int):bS Tryz.prog 11 [.agg (dP.cs a0),.c (.val (.int .i64 a1))] [] (bV (F11 K a0 a1)) (fun r=>.c (.val (.int .i64 r))) (fun r=>[]):=by
 refine bS.it Tryz.f11 (fun r=>⟨[sI 4 r],[],[],0⟩) ?_
 unfold F11
 exact Ref.pt (
  .call [] (aN5 _ _ _ _) fun r1 =>
  .ret [] _)
def F83 (K:Nat) (a0:fU):Option ((Bytes) ⊕ (Bytes)) :=
 (if ((a0.bR:Int) == 5)=true then (some (.inl (([114]:Bytes)))) else (some (.inl (([105]:Bytes)))))
theorem aVU (K:Nat) (a0:fU):bS Tryz.prog 83 [.agg (kD.cs a0)] [] (bV (F83 K a0)) (fun r=>.c (.str r)) (fun r=>[]):=by
 refine bS.it Tryz.f83 (fun r=>⟨[sS 2 r],[],[],0⟩) ?_
 unfold F83
 exact Ref.pt (
  .ite _ (
   .ret [] _) (
   .ret [] _))
def F84 (K:Nat) (a0:fU):Option ((Int) ⊕ (Int)) :=
 (bP (bN (bP (if ((a0.bR:Int) == 6)=true then (some (.inr (((a0.bR:Int) == 6)))) else (some (.inr (((a0.bR:Int) == 7))))) (fun (u3:Bool)=>(if u3=true then (some (.inl (Sum.inr (0)))) else (if ((a0.bR:Int) == 4)=true then (some (.inl (Sum.inr ((eW (IntKind.i64.wrap (a0.fHi+1)) 0))))) else (some (.inr ()))))))) (fun (u2:Unit)=>(some (.inl (1)))))
theorem aFj (K:Nat) (a0:fU):bS Tryz.prog 84 [.agg (kD.cs a0)] [] (bV (F84 K a0)) (fun r=>.c (.val (.int .i64 r))) (fun r=>[]):=by
 refine bS.it Tryz.f84 (fun r=>⟨[sI 2 r],[],[],0⟩) ?_
 unfold F84
 exact Ref.pt (
  .bk 0 (fun u2=>⟨[],[],[],0⟩) (
   .jn (fun u3=>⟨[sP 1 0 0 0,sI 4 a0.bR,sB 5 u3],[.cells (kD.cs a0)],[],0⟩) (
    .ite _ (
     .nil [0] _) (
     .nil [0] _)) fun u3 =>
   .ite _ (
    .ret [] _) (
    .ite _ (
     .ret [] _) (
     .nil [] _))) fun u2 =>
  .ret [] _)
def F43 (K:Nat) (a0:cM):Option (((List dR)) ⊕ ((List dR))) :=
 (bP (bN ((iter K (fun (iL:(List dR) × (List dR) × Int)=>(bO (decide ((iL.2.2:Int)<(Int.ofNat a0.bM.length))) (fun (aY6:Bool)=>(if aY6=true then (bP (bN (bW [cY iL.2.2 a0.bM.length] (bO ((a0.bM.getD (iL.2.2:Int).toNat default).bR) (fun (aVV:Int)=>(bP (bN (if ((aVV:Int) == 2)=true then (bO ((a0.bM.getD (iL.2.2:Int).toNat default).bQ) (fun (aN6:(List iT))=>(bO (Int.ofNat ((a0.bM.getD (iL.2.2:Int).toNat default).bQ).length) (fun (aR0:Int)=>(bP (bN ((iter K (fun (rF:(List dR) × Int)=>(if (decide ((rF.2:Int)<aR0))=true then (bP (bN (bW [cY rF.2 aN6.length] (bO (!((aN6.getD (rF.2:Int).toNat default).eQ)) (fun (aY7:Bool)=>(if aY7=true then (bW [room ((rF.1.length+([(⟨iL.2.2,rF.2⟩:dR)].length)) * 16)] (some (.inr ((rF.1++[(⟨iL.2.2,rF.2⟩:dR)]))))) else (some (.inr (rF.1)))))))) (fun (aN7:(List dR))=>(some (.inr (aN7,(IntKind.i64.wrap (rF.2+1))))))) else (some (.inl (Sum.inl (rF.1)))))) (iL.1,0)).map .inl)) (fun (aN8:(List dR))=>(some (.inr (aN8,iL.2.1))))))))) else (if ((aVV:Int) == 3)=true then (bW [room ((iL.2.1.length+([(⟨iL.2.2,(-1)⟩:dR)].length)) * 16)] (some (.inr (iL.1,(iL.2.1++[(⟨iL.2.2,(-1)⟩:dR)]))))) else (some (.inr (iL.1,iL.2.1)))))) (fun (aGL:(List dR) × (List dR))=>(some (.inr (aGL.1,aGL.2))))))))) (fun (zU:(List dR) × (List dR))=>(some (.inr (zU.1,zU.2,(IntKind.i64.wrap (iL.2.2+1))))))) else (some (.inl (Sum.inl (iL.1,iL.2.1)))))))) ([],[],0)).map .inl)) (fun (aAS:(List dR) × (List dR))=>(bW [room ((aAS.1.length+aAS.2.length) * 16)] (some (.inl ((aAS.1++aAS.2)))))))
theorem aN9 (K:Nat) (a0:cM):bS Tryz.prog 43 [.agg (dP.cs a0)] [] (bV (F43 K a0)) (fun r=>.c (eD.tree r)) (fun r=>[]):=by
 refine bS.it Tryz.f43 (fun r=>⟨[(2,.c (eD.tree r))],[],[],0⟩) ?_
 unfold F43
 exact Ref.pt (
  .bk 0 (fun aAS=>⟨[(3,.c (.own 0 aAS.1.length)),(4,.c (.own 1 aAS.2.length))],[eD.row aAS.1,eD.row aAS.2],[],0⟩) (
   .ad 2 0 3 eD.ty eD.w (eD.at []) <|
   .ad 2 0 4 eD.ty eD.w (eD.at []) <|
   .lp [1,2] (fun iL=>⟨[(3,.c (.own 0 iL.1.length)),(4,.c (.own 1 iL.2.1.length)),(10,.c (gT.tree a0.bM)),sI 11 (Int.ofNat a0.bM.length),sI 12 iL.2.2],[eD.row iL.1,eD.row iL.2.1],[],0⟩) fun iL =>
   .lt _ fun aY6 =>
   .ite _ (
    .bk 1 (fun zU=>⟨[(3,.c (.own 0 zU.1.length)),(4,.c (.own 1 zU.2.length)),(10,.c (gT.tree a0.bM)),sI 11 (Int.ofNat a0.bM.length),sI 12 iL.2.2],[eD.row zU.1,eD.row zU.2],[],0⟩) (
     .ck _ <|
     .lt _ fun aVV =>
     .bk 2 (fun aGL=>⟨[(3,.c (.own 0 aGL.1.length)),(4,.c (.own 1 aGL.2.length)),(10,.c (gT.tree a0.bM)),sI 11 (Int.ofNat a0.bM.length),sI 12 iL.2.2],[eD.row aGL.1,eD.row aGL.2],[],0⟩) (
      .ite _ (
       .lt _ fun aN6 =>
       .lt _ fun aR0 =>
       .bk 3 (fun aN8=>⟨[(3,.c (.own 0 aN8.length)),(4,.c (.own 1 iL.2.1.length)),(10,.c (gT.tree a0.bM)),sI 11 (Int.ofNat a0.bM.length),sI 12 iL.2.2],[eD.row aN8,eD.row iL.2.1],[],0⟩) (
        .lp [0,1] (fun rF=>⟨[(3,.c (.own 0 rF.1.length)),(4,.c (.own 1 iL.2.1.length)),sI 5 iL.2.2,(10,.c (gT.tree a0.bM)),sI 11 (Int.ofNat a0.bM.length),sI 12 iL.2.2,(22,.c (j3.tree aN6)),sI 23 aR0,sI 24 rF.2],[eD.row rF.1,eD.row iL.2.1],[],0⟩) fun rF =>
        .ite _ (
         .bk 4 (fun aN7=>⟨[(3,.c (.own 0 aN7.length)),(4,.c (.own 1 iL.2.1.length)),sI 5 iL.2.2,(10,.c (gT.tree a0.bM)),sI 11 (Int.ofNat a0.bM.length),sI 12 iL.2.2,(22,.c (j3.tree aN6)),sI 23 aR0,sI 24 rF.2],[eD.row aN7,eD.row iL.2.1],[],0⟩) (
          .ck _ <|
          .lt _ fun aY7 =>
          .ite _ (
           .ob 11 2 3 (El.cB eD [(⟨iL.2.2,rF.2⟩:dR)] rfl rfl) <|
           .ck _ <|
           .ap 11 1 4 37 eD rF.1 [(⟨iL.2.2,rF.2⟩:dR)] <|
           .nil [4,1] _) (
           .nil [0,1] _)) fun aN7 =>
         .nil [0,1] _) (
         .ret [0,1] _)) fun aN8 =>
       .nil [0,1] _) (
       .ite _ (
        .ob 14 2 3 (El.cB eD [(⟨iL.2.2,(-1)⟩:dR)] rfl rfl) <|
        .ck _ <|
        .ap 14 1 4 45 eD iL.2.1 [(⟨iL.2.2,(-1)⟩:dR)] <|
        .nil [0,4] _) (
        .nil [0,1] _))) fun aGL =>
     .nil [0,1] _) fun zU =>
    .nil [0,1] _) (
    .ret [0,1] _)) fun aAS =>
  .ck _ <|
  .ap 16 1 2 49 eD aAS.1 aAS.2 <|
  .fz 16 0 2 <|
  .ret [] _)
def F57 (K:Nat) (a0:(List dR)) (a1:dR):Option ((Int) ⊕ (Int)) :=
 (bP (bN ((iter K (fun (hU:Int)=>(bO (decide ((hU:Int)<(Int.ofNat a0.length))) (fun (vY:Bool)=>(if vY=true then (bP (bN (bW [cY hU a0.length] (bO (((a1.c6:Int) == ((a0.getD (hU:Int).toNat default).c6)) && (((a1.dJ:Int) == ((a0.getD (hU:Int).toNat default).dJ)) && true)) (fun (gZ:Bool)=>(if gZ=true then (some (.inl (Sum.inr (Sum.inr (hU))))) else (some (.inr ()))))))) (fun (jG:Unit)=>(some (.inr ((IntKind.i64.wrap (hU+1))))))) else (some (.inl (Sum.inl ()))))))) (0)).map .inl)) (fun (tD:Unit)=>(some (.inl ((-1))))))
theorem aVW (K:Nat) (a0:(List dR)) (a1:dR):bS Tryz.prog 57 [.c (eD.tree a0),.agg (eD.cs a1)] [] (bV (F57 K a0 a1)) (fun r=>.c (.val (.int .i64 r))) (fun r=>[]):=by
 refine bS.it Tryz.f57 (fun r=>⟨[sI 4 r],[],[],0⟩) ?_
 unfold F57
 exact Ref.pt (
  .bk 0 (fun tD=>⟨[],[],[],0⟩) (
   .lp [0] (fun hU=>⟨[(0,.c (eD.tree a0)),sP 3 0 0 0,sI 7 (Int.ofNat a0.length),sI 8 hU],[.cells (eD.cs a1)],[],0⟩) fun hU =>
   .lt _ fun vY =>
   .ite _ (
    .bk 1 (fun jG=>⟨[(0,.c (eD.tree a0)),sP 3 0 0 0,sI 7 (Int.ofNat a0.length),sI 8 hU],[.cells (eD.cs a1)],[],0⟩) (
     .iU [1,2,3] _ <|
     .tx [] <|
     .ex [0,4,5] <|
     .lt _ fun gZ =>
     .ite _ (
      .ret [] _) (
      .nil [0] _)) fun jG =>
    .nil [0] _) (
    .ret [] _)) fun tD =>
  .ret [] _)
def F19 (K:Nat) (a0:cM) (a1:dR):Option ((Int) ⊕ (Int)) :=
 ((bV (F43 K a0)).bind (fun r3=>((cF true (bV (F57 K r3 a1)) default).bind (fun r4=>(some (.inl (r4)))))))
theorem aFk (K:Nat) (a0:cM) (a1:dR):bS Tryz.prog 19 [.agg (dP.cs a0),.agg (eD.cs a1)] [] (bV (F19 K a0 a1)) (fun r=>.c (.val (.int .i64 r))) (fun r=>[]):=by
 refine bS.it Tryz.f19 (fun r=>⟨[sI 4 r],[],[],0⟩) ?_
 unfold F19
 exact Ref.pt (
  .tx [1,3] <|
  .ex [0] <|
  .kn fun r3 er3 =>
  .kn fun r4 er4 =>
  .all [3,5,6,7,8,4] (rg (cd (bd Tryz.f19) [1,0])) [true,false,false,false,false] (hl [(1,.kc [] (bS.eq (aN9 _ _) er3) []),(3,.kc [] (bS.eq (aVW _ _ _) er4) [])]) ⟨[sI 4 r4],[],[],0⟩ [] <|
  .ret [] _)
def F55 (K:Nat) (a0:cM):Option (((List Int)) ⊕ ((List Int))) :=
 (bP (bN ((iter K (fun (dZ:(List Int) × Int)=>(bO (decide ((dZ.2:Int)<(Int.ofNat a0.bM.length))) (fun (kP:Bool)=>(if kP=true then (bP (bN ((bV (F50 K a0 dZ.2 3)).bind (fun r31=>(if r31=true then (bW [room ((dZ.1.length+([dZ.2].length)) * 8)] (some (.inr ((dZ.1++[dZ.2]))))) else (some (.inr (dZ.1))))))) (fun (eS:(List Int))=>(some (.inr (eS,(IntKind.i64.wrap (dZ.2+1))))))) else (some (.inl (Sum.inl (dZ.1)))))))) ([],0)).map .inl)) (fun (u16:(List Int))=>(some (.inl (u16)))))
theorem aIA (K:Nat) (a0:cM):bS Tryz.prog 55 [.agg (dP.cs a0)] [] (bV (F55 K a0)) (fun r=>.c (E3.tree r)) (fun r=>[]):=by
 refine bS.it Tryz.f55 (fun r=>⟨[(2,.c (E3.tree r))],[],[],0⟩) ?_
 unfold F55
 exact Ref.pt (
  .bk 0 (fun u16=>⟨[(3,.c (.own 0 u16.length))],[E3.row u16],[],0⟩) (
   .ad 2 0 3 E3.ty E3.w (E3.at []) <|
   .lp [0,1] (fun dZ=>⟨[sP 1 0 0 0,(3,.c (.own 1 dZ.1.length)),sI 7 (Int.ofNat a0.bM.length),sI 8 dZ.2],[.cells (dP.cs a0),E3.row dZ.1],[],0⟩) fun dZ =>
   .lt _ fun kP =>
   .ite _ (
    .bk 1 (fun eS=>⟨[sP 1 0 0 0,(3,.c (.own 1 eS.length)),sI 7 (Int.ofNat a0.bM.length),sI 8 dZ.2],[.cells (dP.cs a0),E3.row eS],[],0⟩) (
     .call [] (aFi _ _ _ _) fun r31 =>
     .ite _ (
      .ob 6 2 2 (El.cB E3 [dZ.2] rfl rfl) <|
      .ck _ <|
      .ap 6 1 3 17 E3 dZ.1 [dZ.2] <|
      .nil [0,3] _) (
      .nil [0,1] _)) fun eS =>
    .nil [0,1] _) (
    .ret [1] _)) fun u16 =>
  .fz 8 0 0 <|
  .ret [] _)
def F37 (K:Nat) (a0:cM):Option (((List fE)) ⊕ ((List fE))) :=
 ((bV (F55 K a0)).bind (fun r1=>(bP (bN ((iter K (fun (iF:(List fE) × Int)=>(bO (decide ((iF.2:Int)<(Int.ofNat r1.length))) (fun (x27:Bool)=>(if x27=true then (bP (bN (bW [cY iF.2 r1.length] (bW [cY (r1.getD (iF.2:Int).toNat default) a0.bM.length] (bO ((a0.bM.getD ((r1.getD (iF.2:Int).toNat default):Int).toNat default).cH) (fun (x30:(List fE))=>(bW [room ((iF.1.length+x30.length) * 80)] (some (.inr ((iF.1++x30)))))))))) (fun (u29:(List fE))=>(some (.inr (u29,(IntKind.i64.wrap (iF.2+1))))))) else (some (.inl (Sum.inl (iF.1)))))))) ([],0)).map .inl)) (fun (u16:(List fE))=>(some (.inl (u16)))))))
theorem aOa (K:Nat) (a0:cM):bS Tryz.prog 37 [.agg (dP.cs a0)] [] (bV (F37 K a0)) (fun r=>.c (eX.tree r)) (fun r=>[]):=by
 refine bS.it Tryz.f37 (fun r=>⟨[(2,.c (eX.tree r))],[],[],0⟩) ?_
 unfold F37
 exact Ref.pt (
  .call [] (aIA _ _) fun r1 =>
  .bk 0 (fun u16=>⟨[(3,.c (.own 0 u16.length))],[eX.row u16],[],0⟩) (
   .ad 2 0 3 eX.ty eX.w (eX.at []) <|
   .lp [0,1] (fun iF=>⟨[sP 1 0 0 0,(3,.c (.own 1 iF.1.length)),(7,.c (E3.tree r1)),sI 8 (Int.ofNat r1.length),sI 9 iF.2],[.cells (dP.cs a0),eX.row iF.1],[],0⟩) fun iF =>
   .lt _ fun x27 =>
   .ite _ (
    .bk 1 (fun u29=>⟨[sP 1 0 0 0,(3,.c (.own 1 u29.length)),(7,.c (E3.tree r1)),sI 8 (Int.ofNat r1.length),sI 9 iF.2],[.cells (dP.cs a0),eX.row u29],[],0⟩) (
     .ck _ <|
     .ck _ <|
     .lt _ fun x30 =>
     .ck _ <|
     .ap 5 1 2 20 eX iF.1 x30 <|
     .nil [0,2] _) fun u29 =>
    .nil [0,1] _) (
    .ret [1] _)) fun u16 =>
  .fz 7 0 0 <|
  .ret [] _)
def F38 (K:Nat) (a0:(List fE)):Option (((List Int)) ⊕ ((List Int))) :=
 (bP (bN ((iter K (fun (iB:(List Int) × Int)=>(bO (decide ((iB.2:Int)<(Int.ofNat a0.length))) (fun (aOb:Bool)=>(if aOb=true then (bP (bN (bW [cY iB.2 a0.length] ((bV (F84 K ((a0.getD (iB.2:Int).toNat default).cO))).bind (fun aCy=>(bP (bN ((iter K (fun (lB:(List Int) × Int)=>(bO (decide ((lB.2:Int)<(uR aCy 10000))) (fun (aOc:Bool)=>(if aOc=true then (bP (bN (bO ((((((a0.getD (iB.2:Int).toNat default).cO).bR):Int) == 4) || (((((a0.getD (iB.2:Int).toNat default).cO).bR):Int) == 5)) (fun (aOd:Bool)=>(bP (if aOd=true then (some (.inr (0))) else (some (.inr ((a0.getD (iB.2:Int).toNat default).dU)))) (fun (wB:Int)=>(bW [room ((lB.1.length+([wB].length)) * 8)] (some (.inr ((lB.1++[wB])))))))))) (fun (aCz:(List Int))=>(some (.inr (aCz,(IntKind.i64.wrap (lB.2+1))))))) else (some (.inl (Sum.inl (lB.1)))))))) (iB.1,0)).map .inl)) (fun (aCA:(List Int))=>(some (.inr (aCA))))))))) (fun (aCB:(List Int))=>(some (.inr (aCB,(IntKind.i64.wrap (iB.2+1))))))) else (some (.inl (Sum.inl (iB.1)))))))) ([],0)).map .inl)) (fun (aCC:(List Int))=>(some (.inl (aCC)))))
theorem aVX (K:Nat) (a0:(List fE)):bS Tryz.prog 38 [.c (eX.tree a0)] [] (bV (F38 K a0)) (fun r=>.c (E3.tree r)) (fun r=>[]):=by
 refine bS.it Tryz.f38 (fun r=>⟨[(2,.c (E3.tree r))],[],[],0⟩) ?_
 unfold F38
 exact Ref.pt (
  .bk 0 (fun aCC=>⟨[(3,.c (.own 0 aCC.length))],[E3.row aCC],[],0⟩) (
   .ad 2 0 3 E3.ty E3.w (E3.at []) <|
   .lp [0] (fun iB=>⟨[(3,.c (.own 0 iB.1.length)),(7,.c (eX.tree a0)),sI 8 (Int.ofNat a0.length),sI 9 iB.2],[E3.row iB.1],[],0⟩) fun iB =>
   .lt _ fun aOb =>
   .ite _ (
    .bk 1 (fun aCB=>⟨[(3,.c (.own 0 aCB.length)),(7,.c (eX.tree a0)),sI 8 (Int.ofNat a0.length),sI 9 iB.2],[E3.row aCB],[],0⟩) (
     .ck _ <|
     .call [] (aFj _ _) fun aCy =>
     .bk 2 (fun aCA=>⟨[(3,.c (.own 0 aCA.length)),(7,.c (eX.tree a0)),sI 8 (Int.ofNat a0.length),sI 9 iB.2],[E3.row aCA],[],0⟩) (
      .lp [0,1] (fun lB=>⟨[(3,.c (.own 0 lB.1.length)),sP 5 1 0 0,(7,.c (eX.tree a0)),sI 8 (Int.ofNat a0.length),sI 9 iB.2,sI 16 (uR aCy 10000),sI 17 lB.2],[E3.row lB.1,eX.o (gd a0 iB.2)],[],0⟩) fun lB =>
      .lt _ fun aOc =>
      .ite _ (
       .bk 3 (fun aCz=>⟨[(3,.c (.own 0 aCz.length)),sP 5 1 0 0,(7,.c (eX.tree a0)),sI 8 (Int.ofNat a0.length),sI 9 iB.2,sI 16 (uR aCy 10000),sI 17 lB.2],[E3.row aCz,eX.o (gd a0 iB.2)],[],0⟩) (
        .lt _ fun aOd =>
        .jn (fun wB=>⟨[(3,.c (.own 0 lB.1.length)),sP 5 1 0 0,sI 6 wB,(7,.c (eX.tree a0)),sI 8 (Int.ofNat a0.length),sI 9 iB.2,sI 16 (uR aCy 10000),sI 17 lB.2],[E3.row lB.1,eX.o (gd a0 iB.2)],[],0⟩) (
         .ite _ (
          .nil [0,1] _) (
          .nil [0,1] _)) fun wB =>
        .ob 10 2 2 (El.cB E3 [wB] rfl rfl) <|
        .ck _ <|
        .ap 10 1 3 34 E3 lB.1 [wB] <|
        .nil [3,1] _) fun aCz =>
       .nil [0,1] _) (
       .ret [0] _)) fun aCA =>
     .nil [0] _) fun aCB =>
    .nil [0] _) (
    .ret [0] _)) fun aCC =>
  .fz 13 0 0 <|
  .ret [] _)
def aM2 (K:Nat) (a0:(List fE)):Option (((List Int)) ⊕ ((List Int))) :=
 (bP (bN ((iter K (fun (iB:(List Int) × Int)=>(bO (decide ((iB.2:Int)<(Int.ofNat a0.length))) (fun (aOb:Bool)=>(if aOb=true then (bP (bN (bW [cY iB.2 a0.length] ((bV (F84 K ((a0.getD (iB.2:Int).toNat default).cO))).bind (fun aCy=>(bP (bN ((iter K (fun (lB:(List Int) × Int)=>(bO (decide ((lB.2:Int)<(uR aCy 10000))) (fun (aOc:Bool)=>(if aOc=true then (bP (bN (bO ((((((a0.getD (iB.2:Int).toNat default).cO).bR):Int) == 4) || (((((a0.getD (iB.2:Int).toNat default).cO).bR):Int) == 5)) (fun (aOd:Bool)=>(bP (if aOd=true then (some (.inr (0))) else (some (.inr ((a0.getD (iB.2:Int).toNat default).dU)))) (fun (wB:Int)=>(bW [room ((lB.1.length+([wB].length)) * 8)] (some (.inr ((lB.1++[wB])))))))))) (fun (aCz:(List Int))=>(some (.inr (aCz,(IntKind.i64.wrap (lB.2+1))))))) else (some (.inl (Sum.inl (lB.1)))))))) (iB.1,0)).map .inl)) (fun (aCA:(List Int))=>(some (.inr (aCA))))))))) (fun (aCB:(List Int))=>(some (.inr (aCB,(IntKind.i64.wrap (iB.2+1))))))) else (some (.inl (Sum.inl (iB.1)))))))) ([],0)).map .inl)) (fun (aCC:(List Int))=>(some (.inl (aCC)))))
theorem aR1 (K:Nat) (a0:(List fE)):bS Tryz.prog 38 [.c (eX.tree a0)] [] (bV (aM2 K a0)) (fun r=>.c (.own 0 r.length)) (fun r=>[E3.row r]):=by
 refine bS.it Tryz.f38 (fun r=>⟨[(2,.c (.own 0 r.length))],[E3.row r],[],0⟩) ?_
 unfold aM2
 exact Ref.pt (
  .bk 0 (fun aCC=>⟨[(3,.c (.own 0 aCC.length))],[E3.row aCC],[],0⟩) (
   .ad 2 0 3 E3.ty E3.w (E3.at []) <|
   .lp [0] (fun iB=>⟨[(3,.c (.own 0 iB.1.length)),(7,.c (eX.tree a0)),sI 8 (Int.ofNat a0.length),sI 9 iB.2],[E3.row iB.1],[],0⟩) fun iB =>
   .lt _ fun aOb =>
   .ite _ (
    .bk 1 (fun aCB=>⟨[(3,.c (.own 0 aCB.length)),(7,.c (eX.tree a0)),sI 8 (Int.ofNat a0.length),sI 9 iB.2],[E3.row aCB],[],0⟩) (
     .ck _ <|
     .call [] (aFj _ _) fun aCy =>
     .bk 2 (fun aCA=>⟨[(3,.c (.own 0 aCA.length)),(7,.c (eX.tree a0)),sI 8 (Int.ofNat a0.length),sI 9 iB.2],[E3.row aCA],[],0⟩) (
      .lp [0,1] (fun lB=>⟨[(3,.c (.own 0 lB.1.length)),sP 5 1 0 0,(7,.c (eX.tree a0)),sI 8 (Int.ofNat a0.length),sI 9 iB.2,sI 16 (uR aCy 10000),sI 17 lB.2],[E3.row lB.1,eX.o (gd a0 iB.2)],[],0⟩) fun lB =>
      .lt _ fun aOc =>
      .ite _ (
       .bk 3 (fun aCz=>⟨[(3,.c (.own 0 aCz.length)),sP 5 1 0 0,(7,.c (eX.tree a0)),sI 8 (Int.ofNat a0.length),sI 9 iB.2,sI 16 (uR aCy 10000),sI 17 lB.2],[E3.row aCz,eX.o (gd a0 iB.2)],[],0⟩) (
        .lt _ fun aOd =>
        .jn (fun wB=>⟨[(3,.c (.own 0 lB.1.length)),sP 5 1 0 0,sI 6 wB,(7,.c (eX.tree a0)),sI 8 (Int.ofNat a0.length),sI 9 iB.2,sI 16 (uR aCy 10000),sI 17 lB.2],[E3.row lB.1,eX.o (gd a0 iB.2)],[],0⟩) (
         .ite _ (
          .nil [0,1] _) (
          .nil [0,1] _)) fun wB =>
        .ob 10 2 2 (El.cB E3 [wB] rfl rfl) <|
        .ck _ <|
        .ap 10 1 3 34 E3 lB.1 [wB] <|
        .nil [3,1] _) fun aCz =>
       .nil [0,1] _) (
       .ret [0] _)) fun aCA =>
     .nil [0] _) fun aCB =>
    .nil [0] _) (
    .ret [0] _)) fun aCC =>
  .ret [0] _)
def F86 (K:Nat) (a0:Bytes) (a1:Bool):Option ((Bytes) ⊕ (Bytes)) :=
 (if a1=true then (bW [room (a0.length+([62,105]:Bytes).length)] (some (.inl ((a0++([62,105]:Bytes)))))) else (bW [room (a0.length+([62]:Bytes).length)] (some (.inl ((a0++([62]:Bytes)))))))
theorem aVY (K:Nat) (a0:Bytes) (a1:Bool):bS Tryz.prog 86 [.c (.str a0),.c (.val (.bool a1))] [] (bV (F86 K a0 a1)) (fun r=>.c (.str r)) (fun r=>[]):=by
 refine bS.it Tryz.f86 (fun r=>⟨[sS 4 r],[],[],0⟩) ?_
 unfold F86
 exact Ref.pt (
  .ite _ (
   .ck _ <|
   .ret [] _) (
   .ck _ <|
   .ret [] _))
def F22 (K:Nat) (a0:cM) (a1:Int):Option ((Int) ⊕ (Int)) :=
 ((bV (F47 K a0 a1 1)).bind (fun r1=>(some (.inl (r1)))))
theorem aVZ (K:Nat) (a0:cM) (a1:Int):bS Tryz.prog 22 [.agg (dP.cs a0),.c (.val (.int .i64 a1))] [] (bV (F22 K a0 a1)) (fun r=>.c (.val (.int .i64 r))) (fun r=>[]):=by
 refine bS.it Tryz.f22 (fun r=>⟨[sI 4 r],[],[],0⟩) ?_
 unfold F22
 exact Ref.pt (
  .call [] (aN5 _ _ _ _) fun r1 =>
  .ret [] _)
def F51 (K:Nat) (a0:(List fE)) (a1:Bytes):Option ((Int) ⊕ (Int)) :=
 (bP (bN ((iter K (fun (jG:Int × Int)=>(bO (decide ((jG.2:Int)<(Int.ofNat a0.length))) (fun (x38:Bool)=>(if x38=true then (bP (bN (bW [cY jG.2 a0.length] ((bV (F84 K ((a0.getD (jG.2:Int).toNat default).cO))).bind (fun oH=>(bO ((((a0.getD (jG.2:Int).toNat default).cD) == a1) && (decide (((uR oH 10000):Int) > 0))) (fun (x44:Bool)=>(if x44=true then (some (.inl (Sum.inr (Sum.inr (jG.1))))) else (bO (IntKind.i64.wrap (jG.1+(uR oH 10000))) (fun (x45:Int)=>(some (.inr (x45)))))))))))) (fun (u42:Int)=>(some (.inr (u42,(IntKind.i64.wrap (jG.2+1))))))) else (some (.inl (Sum.inl ()))))))) (0,0)).map .inl)) (fun (iF:Unit)=>(some (.inl ((-1))))))
theorem aV1 (K:Nat) (a0:(List fE)) (a1:Bytes):bS Tryz.prog 51 [.c (eX.tree a0),.c (.str a1)] [] (bV (F51 K a0 a1)) (fun r=>.c (.val (.int .i64 r))) (fun r=>[]):=by
 refine bS.it Tryz.f51 (fun r=>⟨[sI 4 r],[],[],0⟩) ?_
 unfold F51
 exact Ref.pt (
  .bk 0 (fun iF=>⟨[],[],[],0⟩) (
   .lp [] (fun jG=>⟨[sS 1 a1,sI 5 jG.1,(9,.c (eX.tree a0)),sI 10 (Int.ofNat a0.length),sI 11 jG.2],[],[],0⟩) fun jG =>
   .lt _ fun x38 =>
   .ite _ (
    .bk 1 (fun u42=>⟨[sS 1 a1,sI 5 u42,(9,.c (eX.tree a0)),sI 10 (Int.ofNat a0.length),sI 11 jG.2],[],[],0⟩) (
     .ck _ <|
     .call [] (aFj _ _) fun oH =>
     .lt _ fun x44 =>
     .ite _ (
      .ret [] _) (
      .lt _ fun x45 =>
      .nil [] _)) fun u42 =>
    .nil [] _) (
    .ret [] _)) fun iF =>
  .ret [] _)
def F56 (K:Nat) (a0:cM) (a1:Int) (a2:Bytes) (a3:Int):Option ((Int) ⊕ (Int)) :=
 ((bV (F50 K a0 a1 3)).bind (fun r1=>(if (!r1)=true then (some (.inl ((-1)))) else ((bV (F55 K a0)).bind (fun r2=>(bP (bN ((iter K (fun (rV:Int × Int)=>(bO (decide ((rV.2:Int)<(Int.ofNat r2.length))) (fun (aZd:Bool)=>(if aZd=true then (bP (bN (bW [cY rV.2 r2.length] (bW [cY (r2.getD (rV.2:Int).toNat default) a0.bM.length] (bO ((a0.bM.getD ((r2.getD (rV.2:Int).toNat default):Int).toNat default).cH) (fun (aLs:(List fE))=>(bO (Int.ofNat ((a0.bM.getD ((r2.getD (rV.2:Int).toNat default):Int).toNat default).cH).length) (fun (aR2:Int)=>(bP (bN ((iter K (fun (xW:Int × Int)=>(if (decide ((xW.2:Int)<aR2))=true then (bP (bN (bW [cY xW.2 aLs.length] (bO (((((aLs.getD (xW.2:Int).toNat default).cO).bR):Int) != a3) (fun (aNE:Bool)=>(if aNE=true then (some (.inl (Sum.inl (xW.1)))) else (bO ((((r2.getD (rV.2:Int).toNat default):Int) == a1) && (((aLs.getD (xW.2:Int).toNat default).cD) == a2)) (fun (aZe:Bool)=>(if aZe=true then (some (.inl (Sum.inr (Sum.inr (Sum.inr (Sum.inr (xW.1))))))) else (some (.inr ((IntKind.i64.wrap (xW.1+1))))))))))))) (fun (aR3:Int)=>(some (.inr (aR3,(IntKind.i64.wrap (xW.2+1))))))) else (some (.inl (Sum.inl (xW.1)))))) (rV.1,0)).map .inl)) (fun (aR4:Int)=>(some (.inr (aR4)))))))))))) (fun (aR5:Int)=>(some (.inr (aR5,(IntKind.i64.wrap (rV.2+1))))))) else (some (.inl (Sum.inl ()))))))) (0,0)).map .inl)) (fun (aZf:Unit)=>(some (.inl ((-1)))))))))))
theorem aV2 (K:Nat) (a0:cM) (a1:Int) (a2:Bytes) (a3:Int):bS Tryz.prog 56 [.agg (dP.cs a0),.c (.val (.int .i64 a1)),.c (.str a2),.c (.val (.int .i64 a3))] [] (bV (F56 K a0 a1 a2 a3)) (fun r=>.c (.val (.int .i64 r))) (fun r=>[]):=by
 refine bS.it Tryz.f56 (fun r=>⟨[sI 8 r],[],[],0⟩) ?_
 unfold F56
 exact Ref.pt (
  .call [] (aFi _ _ _ _) fun r1 =>
  .ite _ (
   .ret [] _) (
   .call [] (aIA _ _) fun r2 =>
   .bk 0 (fun aZf=>⟨[],[],[],0⟩) (
    .lp [0] (fun rV=>⟨[sI 1 a1,sS 2 a2,sI 3 a3,sP 4 0 0 0,sI 9 rV.1,(19,.c (E3.tree r2)),sI 20 (Int.ofNat r2.length),sI 21 rV.2],[.cells (dP.cs a0)],[],0⟩) fun rV =>
    .lt _ fun aZd =>
    .ite _ (
     .bk 1 (fun aR5=>⟨[sI 1 a1,sS 2 a2,sI 3 a3,sP 4 0 0 0,sI 9 aR5,(19,.c (E3.tree r2)),sI 20 (Int.ofNat r2.length),sI 21 rV.2],[.cells (dP.cs a0)],[],0⟩) (
      .ck _ <|
      .ck _ <|
      .lt _ fun aLs =>
      .lt _ fun aR2 =>
      .bk 2 (fun aR4=>⟨[sI 1 a1,sS 2 a2,sI 3 a3,sP 4 0 0 0,sI 9 aR4,(19,.c (E3.tree r2)),sI 20 (Int.ofNat r2.length),sI 21 rV.2],[.cells (dP.cs a0)],[],0⟩) (
       .lp [0] (fun xW=>⟨[sI 1 a1,sS 2 a2,sI 3 a3,sP 4 0 0 0,sI 9 xW.1,sI 11 (gd r2 rV.2),(19,.c (E3.tree r2)),sI 20 (Int.ofNat r2.length),sI 21 rV.2,(30,.c (eX.tree aLs)),sI 31 aR2,sI 32 xW.2],[.cells (dP.cs a0)],[],0⟩) fun xW =>
       .ite _ (
        .bk 3 (fun aR3=>⟨[sI 1 a1,sS 2 a2,sI 3 a3,sP 4 0 0 0,sI 9 aR3,sI 11 (gd r2 rV.2),(19,.c (E3.tree r2)),sI 20 (Int.ofNat r2.length),sI 21 rV.2,(30,.c (eX.tree aLs)),sI 31 aR2,sI 32 xW.2],[.cells (dP.cs a0)],[],0⟩) (
         .ck _ <|
         .lt _ fun aNE =>
         .ite _ (
          .ret [0] _) (
          .lt _ fun aZe =>
          .ite _ (
           .ret [] _) (
           .nil [0] _))) fun aR3 =>
        .nil [0] _) (
        .ret [0] _)) fun aR4 =>
      .nil [0] _) fun aR5 =>
     .nil [0] _) (
     .ret [] _)) fun aZf =>
   .ret [] _))
def F18 (K:Nat) (a0:cM) (a1:Int) (a2:Bytes):Option ((Int) ⊕ (Int)) :=
 ((bV (F56 K a0 a1 a2 7)).bind (fun r1=>(some (.inl (r1)))))
theorem aV3 (K:Nat) (a0:cM) (a1:Int) (a2:Bytes):bS Tryz.prog 18 [.agg (dP.cs a0),.c (.val (.int .i64 a1)),.c (.str a2)] [] (bV (F18 K a0 a1 a2)) (fun r=>.c (.val (.int .i64 r))) (fun r=>[]):=by
 refine bS.it Tryz.f18 (fun r=>⟨[sI 6 r],[],[],0⟩) ?_
 unfold F18
 exact Ref.pt (
  .call [] (aV2 _ _ _ _ _) fun r1 =>
  .ret [] _)
end Go.Proofs.YtdbfbedholdjaaaGreat

namespace Go.Proofs.YtdbfbedholdjaaaGreat
open Go Go.Proofs Go.Dl
variable [dK]
set_option maxRecDepth 100000
set_option maxHeartbeats 4000000
def F92 (K:Nat) (a0:gX) (a1:Bytes):Option ((Bool) ⊕ (Bool)) :=
 (some (.inl ((a0.cD == a1))))
theorem aV4 (K:Nat) (a0:gX) (a1:Bytes):bS Tryz.prog 92 [.agg (gT.cs a0),.c (E9.ep a1 0)] [] (bV (F92 K a0 a1)) (fun r=>.c (.val (.bool r))) (fun r=>[]):=by
 refine bS.it Tryz.f92 (fun r=>⟨[sB 3 r],[],[],0⟩) ?_
 unfold F92
 exact Ref.pt (
  .ret [] _)
def aCD (K:Nat) (a0:(List gX)) (zV:Bytes):Option ((Int) ⊕ (Int)) :=
 (bP (bN ((iter K (fun (hU:Int)=>(bO (decide ((hU:Int)<(Int.ofNat a0.length))) (fun (vY:Bool)=>(if vY=true then (bP (bN (bW [cY hU a0.length] ((bV (F92 K (a0.getD (hU:Int).toNat default) zV)).bind (fun r29=>(if r29=true then (some (.inl (Sum.inr (Sum.inr (hU))))) else (some (.inr ()))))))) (fun (jG:Unit)=>(some (.inr ((IntKind.i64.wrap (hU+1))))))) else (some (.inl (Sum.inl ()))))))) (0)).map .inl)) (fun (tD:Unit)=>(some (.inl ((-1))))))
theorem aLt (K:Nat) (a0:(List gX)) (zV:Bytes):bS Tryz.prog 91 [.c (gT.tree a0),.c (.func (.func 92) 1 (fun i=>([E9.ep zV 0]:List C).getD i .bot))] [] (bV (aCD K a0 zV)) (fun r=>.c (.val (.int .i64 r))) (fun r=>[]):=by
 refine bS.it Tryz.f91 (fun r=>⟨[sI 4 r],[],[],0⟩) ?_
 unfold aCD
 exact Ref.pt (
  .bk 0 (fun tD=>⟨[],[],[],0⟩) (
   .lp [] (fun hU=>⟨[(0,.c (gT.tree a0)),(1,.c (.func (.func 92) 1 (fun i=>([E9.ep zV 0]:List C).getD i .bot))),sI 7 (Int.ofNat a0.length),sI 8 hU],[],[],0⟩) fun hU =>
   .lt _ fun vY =>
   .ite _ (
    .bk 1 (fun jG=>⟨[(0,.c (gT.tree a0)),(1,.c (.func (.func 92) 1 (fun i=>([E9.ep zV 0]:List C).getD i .bot))),sI 7 (Int.ofNat a0.length),sI 8 hU],[],[],0⟩) (
     .ck _ <|
     .call [] (aV4 _ _ _) fun r29 =>
     .ite _ (
      .ret [] _) (
      .nil [] _)) fun jG =>
    .nil [] _) (
    .ret [] _)) fun tD =>
  .ret [] _)
def F42 (K:Nat) (a0:cM) (a1:Bytes):Option ((Int) ⊕ (Int)) :=
 ((bV (aCD K a0.bM a1)).bind (fun r1=>(some (.inl (r1)))))
theorem aFl (K:Nat) (a0:cM) (a1:Bytes):bS Tryz.prog 42 [.agg (dP.cs a0),.c (.str a1)] [] (bV (F42 K a0 a1)) (fun r=>.c (.val (.int .i64 r))) (fun r=>[]):=by
 refine bS.it Tryz.f42 (fun r=>⟨[sI 4 r],[],[],0⟩) ?_
 unfold F42
 exact Ref.pt (
  .fz 1 3 1 <|
  .call [] (aLt _ _ _) fun r1 =>
  .ret [] _)
def F93 (K:Nat) (a0:(List Int)) (a1:Int):Option ((Int) ⊕ (Int)) :=
 (bP (bN ((iter K (fun (hU:Int)=>(bO (decide ((hU:Int)<(Int.ofNat a0.length))) (fun (vY:Bool)=>(if vY=true then (bP (bN (bW [cY hU a0.length] (bO ((a1:Int) == (a0.getD (hU:Int).toNat default)) (fun (gZ:Bool)=>(if gZ=true then (some (.inl (Sum.inr (Sum.inr (hU))))) else (some (.inr ()))))))) (fun (jG:Unit)=>(some (.inr ((IntKind.i64.wrap (hU+1))))))) else (some (.inl (Sum.inl ()))))))) (0)).map .inl)) (fun (tD:Unit)=>(some (.inl ((-1))))))
theorem aV5 (K:Nat) (a0:(List Int)) (a1:Int):bS Tryz.prog 93 [.c (E3.tree a0),.c (.val (.int .i64 a1))] [] (bV (F93 K a0 a1)) (fun r=>.c (.val (.int .i64 r))) (fun r=>[]):=by
 refine bS.it Tryz.f93 (fun r=>⟨[sI 4 r],[],[],0⟩) ?_
 unfold F93
 exact Ref.pt (
  .bk 0 (fun tD=>⟨[],[],[],0⟩) (
   .lp [] (fun hU=>⟨[(0,.c (E3.tree a0)),sI 1 a1,sI 7 (Int.ofNat a0.length),sI 8 hU],[],[],0⟩) fun hU =>
   .lt _ fun vY =>
   .ite _ (
    .bk 1 (fun jG=>⟨[(0,.c (E3.tree a0)),sI 1 a1,sI 7 (Int.ofNat a0.length),sI 8 hU],[],[],0⟩) (
     .ck _ <|
     .lt _ fun gZ =>
     .ite _ (
      .ret [] _) (
      .nil [] _)) fun jG =>
    .nil [] _) (
    .ret [] _)) fun tD =>
  .ret [] _)
def F46 (K:Nat) (a0:(List Int)) (a1:Int):Option ((Bool) ⊕ (Bool)) :=
 ((bV (F93 K a0 a1)).bind (fun r1=>(some (.inl ((decide ((r1:Int) ≥ 0)))))))
theorem aOe (K:Nat) (a0:(List Int)) (a1:Int):bS Tryz.prog 46 [.c (E3.tree a0),.c (.val (.int .i64 a1))] [] (bV (F46 K a0 a1)) (fun r=>.c (.val (.bool r))) (fun r=>[]):=by
 refine bS.it Tryz.f46 (fun r=>⟨[sB 4 r],[],[],0⟩) ?_
 unfold F46
 exact Ref.pt (
  .call [] (aV5 _ _ _) fun r1 =>
  .ret [] _)
def F10 (K:Nat) (a0:cM) (a1:Int):Option (((List Int)) ⊕ ((List Int))) :=
 (bP (bN ((iter K (fun (qG:Int × (List Int))=>((bV (F45 K a0 qG.1)).bind (fun oH=>((cF ((oH:Int) == 2) (bV (F46 K qG.2 qG.1)) default).bind (fun r44=>(if (((oH:Int) == 2) && (!r44))=true then (bP (bN (bW [room ((qG.2.length+([qG.1].length)) * 8)] (bW [cY qG.1 a0.bM.length] (bO ((a0.bM.getD (qG.1:Int).toNat default).fV) (fun (x48:Bytes)=>((cF true (bV (F42 K a0 x48)) default).bind (fun r49=>(some (.inr (r49,(qG.2++[qG.1]))))))))))) (fun (u47:Int × (List Int))=>(some (.inr (u47.1,u47.2))))) else (some (.inl (Sum.inl (qG.2)))))))))) (a1,[])).map .inl)) (fun (u25:(List Int))=>(some (.inl (u25)))))
theorem aBx (K:Nat) (a0:cM) (a1:Int):bS Tryz.prog 10 [.agg (dP.cs a0),.c (.val (.int .i64 a1))] [] (bV (F10 K a0 a1)) (fun r=>.c (E3.tree r)) (fun r=>[]):=by
 refine bS.it Tryz.f10 (fun r=>⟨[(4,.c (E3.tree r))],[],[],0⟩) ?_
 unfold F10
 exact Ref.pt (
  .bk 0 (fun u25=>⟨[(5,.c (.own 0 u25.length))],[E3.row u25],[],0⟩) (
   .ad 1 0 5 E3.ty E3.w (E3.at []) <|
   .lp [0,1] (fun qG=>⟨[sI 1 qG.1,sP 2 0 0 0,(5,.c (.own 1 qG.2.length))],[.cells (dP.cs a0),E3.row qG.2],[],0⟩) fun qG =>
   .call [] (aEi _ _ _) fun oH =>
   .look (default:Bool) _ [1] (aOe K qG.2 qG.1) (fun _=>rfl) fun r44 =>
   .ite _ (
    .bk 1 (fun u47=>⟨[sI 1 u47.1,sP 2 0 0 0,(5,.c (.own 1 u47.2.length))],[.cells (dP.cs a0),E3.row u47.2],[],0⟩) (
     .ob 3 2 2 (El.cB E3 [qG.1] rfl rfl) <|
     .ck _ <|
     .ap 3 1 3 19 E3 qG.2 [qG.1] <|
     .ex [1,3] <|
     .tx [] <|
     .iU [0,2,4,5,6] _ <|
     .lt _ fun x48 =>
     .eH 7 (default:Int) _ [] (aFl K a0 x48) (fun _=>rfl) fun r49 =>
     .ex [8] <|
     .nil [0,3] _) fun u47 =>
    .nil [0,1] _) (
    .ret [1] _)) fun u25 =>
  .fz 5 0 0 <|
  .ret [] _)
def aIh (K:Nat) (a0:cM) (a1:Int):Option (((List Int)) ⊕ ((List Int))) :=
 ((bV (F10 K a0 a1)).bind (fun r1=>(bP (bN ((iter K (fun (tI:(List Int) × Int)=>(bO (decide ((tI.2:Int)<(Int.ofNat r1.length))) (fun (aZh:Bool)=>(if aZh=true then (bP (bN (bW [cY tI.2 r1.length] (bW [cY (r1.getD (tI.2:Int).toNat default) a0.bM.length] (bO ((a0.bM.getD ((r1.getD (tI.2:Int).toNat default):Int).toNat default).cK) (fun (aOf:(List Bytes))=>(bO (Int.ofNat ((a0.bM.getD ((r1.getD (tI.2:Int).toNat default):Int).toNat default).cK).length) (fun (aR6:Int)=>(bP (bN ((iter K (fun (tJ:(List Int) × Int)=>(if (decide ((tJ.2:Int)<aR6))=true then (bP (bN (bW [cY tJ.2 aOf.length] ((bV (F42 K a0 (aOf.getD (tJ.2:Int).toNat default))).bind (fun aGM=>((bV (F45 K a0 aGM)).bind (fun aV6=>((cF ((aV6:Int) == 1) (bV (F46 K tJ.1 aGM)) default).bind (fun aZi=>(if (((aV6:Int) == 1) && (!aZi))=true then (bW [room ((tJ.1.length+([aGM].length)) * 8)] (some (.inr ((tJ.1++[aGM]))))) else (some (.inr (tJ.1)))))))))))) (fun (aOg:(List Int))=>(some (.inr (aOg,(IntKind.i64.wrap (tJ.2+1))))))) else (some (.inl (Sum.inl (tJ.1)))))) (tI.1,0)).map .inl)) (fun (aOh:(List Int))=>(some (.inr (aOh)))))))))))) (fun (aOi:(List Int))=>(some (.inr (aOi,(IntKind.i64.wrap (tI.2+1))))))) else (some (.inl (Sum.inl (tI.1)))))))) ([],0)).map .inl)) (fun (aGz:(List Int))=>(some (.inl (aGz)))))))
theorem aR7 (K:Nat) (a0:cM) (a1:Int):bS Tryz.prog 88 [.agg (dP.cs a0),.c (.val (.int .i64 a1))] [] (bV (aIh K a0 a1)) (fun r=>.c (.own 0 r.length)) (fun r=>[E3.row r]):=by
 refine bS.it Tryz.f88 (fun r=>⟨[(4,.c (.own 0 r.length))],[E3.row r],[],0⟩) ?_
 unfold aIh
 exact Ref.pt (
  .call [] (aBx _ _ _) fun r1 =>
  .bk 0 (fun aGz=>⟨[(5,.c (.own 0 aGz.length))],[E3.row aGz],[],0⟩) (
   .ad 2 0 5 E3.ty E3.w (E3.at []) <|
   .lp [0,1] (fun tI=>⟨[sP 2 0 0 0,(5,.c (.own 1 tI.1.length)),(13,.c (E3.tree r1)),sI 14 (Int.ofNat r1.length),sI 15 tI.2],[.cells (dP.cs a0),E3.row tI.1],[],0⟩) fun tI =>
   .lt _ fun aZh =>
   .ite _ (
    .bk 1 (fun aOi=>⟨[sP 2 0 0 0,(5,.c (.own 1 aOi.length)),(13,.c (E3.tree r1)),sI 14 (Int.ofNat r1.length),sI 15 tI.2],[.cells (dP.cs a0),E3.row aOi],[],0⟩) (
     .ck _ <|
     .ck _ <|
     .lt _ fun aOf =>
     .lt _ fun aR6 =>
     .bk 2 (fun aOh=>⟨[sP 2 0 0 0,(5,.c (.own 1 aOh.length)),(13,.c (E3.tree r1)),sI 14 (Int.ofNat r1.length),sI 15 tI.2],[.cells (dP.cs a0),E3.row aOh],[],0⟩) (
      .lp [0,1] (fun tJ=>⟨[sP 2 0 0 0,(5,.c (.own 1 tJ.1.length)),(13,.c (E3.tree r1)),sI 14 (Int.ofNat r1.length),sI 15 tI.2,(24,.c (E9.tree aOf)),sI 25 aR6,sI 26 tJ.2],[.cells (dP.cs a0),E3.row tJ.1],[],0⟩) fun tJ =>
      .ite _ (
       .bk 3 (fun aOg=>⟨[sP 2 0 0 0,(5,.c (.own 1 aOg.length)),(13,.c (E3.tree r1)),sI 14 (Int.ofNat r1.length),sI 15 tI.2,(24,.c (E9.tree aOf)),sI 25 aR6,sI 26 tJ.2],[.cells (dP.cs a0),E3.row aOg],[],0⟩) (
        .ck _ <|
        .call [] (aFl _ _ _) fun aGM =>
        .call [] (aEi _ _ _) fun aV6 =>
        .look (default:Bool) _ [1] (aOe K tJ.1 aGM) (fun _=>rfl) fun aZi =>
        .ite _ (
         .ob 10 2 2 (El.cB E3 [aGM] rfl rfl) <|
         .ck _ <|
         .ap 10 1 3 46 E3 tJ.1 [aGM] <|
         .nil [0,3] _) (
         .nil [0,1] _)) fun aOg =>
       .nil [0,1] _) (
       .ret [0,1] _)) fun aOh =>
     .nil [0,1] _) fun aOi =>
    .nil [0,1] _) (
    .ret [1] _)) fun aGz =>
  .ret [0] _)
def aR8 (K:Nat) (a0:iT) (a1:Bytes):Option ((Bool) ⊕ (Bool)) :=
 (some (.inl ((a0.cD == a1))))
theorem aR9 (K:Nat) (a0:iT) (a1:Bytes):bS Tryz.prog 129 [.agg (j3.cs a0),.c (E9.ep a1 0)] [] (bV (aR8 K a0 a1)) (fun r=>.c (.val (.bool r))) (fun r=>[]):=by
 refine bS.it Tryz.f129 (fun r=>⟨[sB 3 r],[],[],0⟩) ?_
 unfold aR8
 exact Ref.pt (
  .ret [] _)
def tK (K:Nat) (a0:(List iT)) (zV:Bytes):Option ((Int) ⊕ (Int)) :=
 (bP (bN ((iter K (fun (hU:Int)=>(bO (decide ((hU:Int)<(Int.ofNat a0.length))) (fun (vY:Bool)=>(if vY=true then (bP (bN (bW [cY hU a0.length] ((bV (aR8 K (a0.getD (hU:Int).toNat default) zV)).bind (fun r29=>(if r29=true then (some (.inl (Sum.inr (Sum.inr (hU))))) else (some (.inr ()))))))) (fun (jG:Unit)=>(some (.inr ((IntKind.i64.wrap (hU+1))))))) else (some (.inl (Sum.inl ()))))))) (0)).map .inl)) (fun (tD:Unit)=>(some (.inl ((-1))))))
theorem aGN (K:Nat) (a0:(List iT)) (zV:Bytes):bS Tryz.prog 128 [.c (j3.tree a0),.c (.func (.func 129) 1 (fun i=>([E9.ep zV 0]:List C).getD i .bot))] [] (bV (tK K a0 zV)) (fun r=>.c (.val (.int .i64 r))) (fun r=>[]):=by
 refine bS.it Tryz.f128 (fun r=>⟨[sI 4 r],[],[],0⟩) ?_
 unfold tK
 exact Ref.pt (
  .bk 0 (fun tD=>⟨[],[],[],0⟩) (
   .lp [] (fun hU=>⟨[(0,.c (j3.tree a0)),(1,.c (.func (.func 129) 1 (fun i=>([E9.ep zV 0]:List C).getD i .bot))),sI 7 (Int.ofNat a0.length),sI 8 hU],[],[],0⟩) fun hU =>
   .lt _ fun vY =>
   .ite _ (
    .bk 1 (fun jG=>⟨[(0,.c (j3.tree a0)),(1,.c (.func (.func 129) 1 (fun i=>([E9.ep zV 0]:List C).getD i .bot))),sI 7 (Int.ofNat a0.length),sI 8 hU],[],[],0⟩) (
     .ck _ <|
     .call [] (aR9 _ _ _) fun r29 =>
     .ite _ (
      .ret [] _) (
      .nil [] _)) fun jG =>
    .nil [] _) (
    .ret [] _)) fun tD =>
  .ret [] _)
def F87 (K:Nat) (a0:cM) (a1:Int) (a2:Bytes):Option ((dR × Bool) ⊕ (dR × Bool)) :=
 ((bV (F10 K a0 a1)).bind (fun r1=>((bV (F45 K a0 a1)).bind (fun r2=>(bP (if ((r2:Int) == 1)=true then (some (.inr ([a1]))) else (some (.inr (r1)))) (fun (u3:(List Int))=>(bP (bN ((iter K (fun (vZ:Int)=>(bO (decide ((vZ:Int)<(Int.ofNat u3.length))) (fun (x39:Bool)=>(if x39=true then (bP (bN (bW [cY vZ u3.length] (bW [cY (u3.getD (vZ:Int).toNat default) a0.bM.length] (bO ((a0.bM.getD ((u3.getD (vZ:Int).toNat default):Int).toNat default).bQ) (fun (x43:(List iT))=>((bV (tK K x43 a2)).bind (fun r44=>(if (decide ((r44:Int) ≥ 0))=true then (some (.inl (Sum.inr (Sum.inr ((⟨(u3.getD (vZ:Int).toNat default),r44⟩:dR),true))))) else (some (.inr ())))))))))) (fun (u42:Unit)=>(some (.inr ((IntKind.i64.wrap (vZ+1))))))) else (some (.inl (Sum.inl ()))))))) (0)).map .inl)) (fun (u24:Unit)=>(some (.inl ((⟨0,0⟩:dR),false)))))))))))
theorem aOj (K:Nat) (a0:cM) (a1:Int) (a2:Bytes):bS Tryz.prog 87 [.agg (dP.cs a0),.c (.val (.int .i64 a1)),.c (.str a2)] [] (bV (F87 K a0 a1 a2)) (fun r=>.kC [.agg (eD.cs r.1),.c (.val (.bool r.2))]) (fun r=>[.cells (eD.cs r.1)]):=by
 refine bS.it Tryz.f87 (fun r=>⟨[sP 6 0 0 0,sB 7 r.2],[.cells (eD.cs r.1)],[],0⟩) ?_
 unfold F87
 exact Ref.pt (
  .call [] (aBx _ _ _) fun r1 =>
  .call [] (aEi _ _ _) fun r2 =>
  .jn (fun u3=>⟨[sP 3 0 0 0,sP 5 1 0 0,sP 6 2 0 0,(8,.c (E3.tree u3))],[.cells (dP.cs a0),.cells [.str a2],.cells [iC 0,iC 0]],[],0⟩) (
   .ite _ (
    .ob 3 1 3 (El.cB E3 [a1] rfl rfl) <|
    .fz 3 0 3 <|
    .nil [0,1,2] _) (
    .nil [0,1,2] _)) fun u3 =>
  .bk 0 (fun u24=>⟨[sP 6 0 0 0],[.cells [iC 0,iC 0]],[],0⟩) (
   .fz 4 0 1 <|
   .lp [0,2] (fun vZ=>⟨[sP 3 0 0 0,(5,.c (E9.ep a2 0)),sP 6 1 0 0,(21,.c (E3.tree u3)),sI 22 (Int.ofNat u3.length),sI 23 vZ],[.cells (dP.cs a0),.cells [iC 0,iC 0]],[],0⟩) fun vZ =>
   .lt _ fun x39 =>
   .ite _ (
    .bk 1 (fun u42=>⟨[sP 3 0 0 0,(5,.c (E9.ep a2 0)),sP 6 1 0 0,(21,.c (E3.tree u3)),sI 22 (Int.ofNat u3.length),sI 23 vZ],[.cells (dP.cs a0),.cells [iC 0,iC 0]],[],0⟩) (
     .ck _ <|
     .ck _ <|
     .lt _ fun x43 =>
     .call [] (aGN _ _ _) fun r44 =>
     .ite _ (
      .ret [1] _) (
      .nil [0,1] _)) fun u42 =>
    .nil [0,1] _) (
    .ret [1] _)) fun u24 =>
  .ret [0] _)
def F90 (K:Nat) (a0:cM) (a1:Int) (a2:Bytes):Option ((Int) ⊕ (Int)) :=
 ((bV (F87 K a0 a1 a2)).bind (fun r1=>(if (!r1.2)=true then (some (.inl ((-1)))) else ((bV (F19 K a0 r1.1)).bind (fun r2=>(some (.inl (r2))))))))
theorem aV7 (K:Nat) (a0:cM) (a1:Int) (a2:Bytes):bS Tryz.prog 90 [.agg (dP.cs a0),.c (.val (.int .i64 a1)),.c (.str a2)] [] (bV (F90 K a0 a1 a2)) (fun r=>.c (.val (.int .i64 r))) (fun r=>[]):=by
 refine bS.it Tryz.f90 (fun r=>⟨[sI 6 r],[],[],0⟩) ?_
 unfold F90
 exact Ref.pt (
  .call [] (aOj _ _ _ _) fun r1 =>
  .ite _ (
   .ret [] _) (
   .call [] (aFk _ _ _) fun r2 =>
   .ret [] _))
end Go.Proofs.YtdbfbedholdjaaaGreat
