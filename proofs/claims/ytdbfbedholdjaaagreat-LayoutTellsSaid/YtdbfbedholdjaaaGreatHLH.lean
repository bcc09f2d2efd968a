/- No conditions. -/
import Derived.Test.YtdbfbedholdjaaaGreatHLA
import Derived.Test.YtdbfbedholdjaaaGreatProg
set_option linter.unusedVariables false
set_option linter.unusedSimpArgs false
set_option linter.unusedSectionVars false
namespace Go.Proofs.YtdbfbedholdjaaaGreat
open Go Go.Proofs Go.Dl
variable [dO]
set_option maxRecDepth 100000
set_option maxHeartbeats 4000000
def F45 (K:Nat) (a0:cK) (a1:Int):Option ((Int) ⊕ (Int)) :=
 (bR ((decide ((a1:Int)<0)) || (decide ((a1:Int) ≥ (Int.ofNat a0.bP.length)))) (fun (x1:Bool)=>(if x1=true then (some (.inl (0))) else (bY [cP a1 a0.bP.length] (bR ((a0.bP.getD (a1:Int).toNat default).bU) (fun (x2:Int)=>(some (.inl (x2)))))))))
theorem aEU (K:Nat) (a0:cK) (a1:Int):bV Tryz.prog 45 [.agg (c9.cs a0),.c (.val (.int .i64 a1))] [] (bX (F45 K a0 a1)) (fun r=>.c (.val (.int .i64 r))) (fun r=>[]):=by
 refine bV.it Tryz.f45 (fun r=>⟨[sI 4 r],[],[],0⟩) ?_
 unfold F45
 exact Ref.pt (
  .lt _ fun x1 =>
  .ite _ (
   .ret [] _) (
   .ck _ <|
   .lt _ fun x2 =>
   .ret [] _))
def F50 (K:Nat) (a0:cK) (a1:Int) (a2:Int):Option ((Bool) ⊕ (Bool)) :=
 (bY [!((decide ((a1:Int) ≥ 0)) && (decide ((a1:Int)<(Int.ofNat a0.bP.length)))) || cP a1 a0.bP.length] (bR (((decide ((a1:Int) ≥ 0)) && (decide ((a1:Int)<(Int.ofNat a0.bP.length)))) && ((((a0.bP.getD (a1:Int).toNat default).bU):Int) == a2)) (fun (x1:Bool)=>(some (.inl (x1))))))
theorem aCZ (K:Nat) (a0:cK) (a1:Int) (a2:Int):bV Tryz.prog 50 [.agg (c9.cs a0),.c (.val (.int .i64 a1)),.c (.val (.int .i64 a2))] [] (bX (F50 K a0 a1 a2)) (fun r=>.c (.val (.bool r))) (fun r=>[]):=by
 refine bV.it Tryz.f50 (fun r=>⟨[sB 6 r],[],[],0⟩) ?_
 unfold F50
 exact Ref.pt (
  .ck _ <|
  .lt _ fun x1 =>
  .ret [] _)
def F47 (K:Nat) (a0:cK) (a1:Int) (a2:Int):Option ((Int) ⊕ (Int)) :=
 ((bX (F50 K a0 a1 a2)).bind (fun r1=>(if (!r1)=true then (some (.inl ((-1)))) else (bY [c5 a0.bP.length 0 a1] (bR ((a0.bP.drop (0:Int).toNat).take ((a1:Int).toNat - (0:Int).toNat)) (fun (x2:(List iR))=>(bT (bQ ((iter K (fun (eA:Int × Int)=>(bR (decide ((eA.2:Int)<(Int.ofNat x2.length))) (fun (kI:Bool)=>(if kI=true then (bT (bQ (bY [cP eA.2 x2.length] (bR ((((x2.getD (eA.2:Int).toNat default).bU):Int) == a2) (fun (x31:Bool)=>(if x31=true then (some (.inr ((IntKind.i64.wrap (eA.1+1))))) else (some (.inr (eA.1)))))))) (fun (eW:Int)=>(some (.inr (eW,(IntKind.i64.wrap (eA.2+1))))))) else (some (.inl (Sum.inl (eA.1)))))))) (0,0)).map .inl)) (fun (kF:Int)=>(some (.inl (kF)))))))))))
theorem aOT (K:Nat) (a0:cK) (a1:Int) (a2:Int):bV Tryz.prog 47 [.agg (c9.cs a0),.c (.val (.int .i64 a1)),.c (.val (.int .i64 a2))] [] (bX (F47 K a0 a1 a2)) (fun r=>.c (.val (.int .i64 r))) (fun r=>[]):=by
 refine bV.it Tryz.f47 (fun r=>⟨[sI 6 r],[],[],0⟩) ?_
 unfold F47
 exact Ref.pt (
  .call [] (aCZ _ _ _ _) fun r1 =>
  .ite _ (
   .ret [] _) (
   .ckh _ fun hv =>
   .sl 4 2 18 (x:=.c (.tree gW.w ((a1:Int).toNat - (0:Int).toNat) fun i j=>gW.at a0.bP ((0:Int).toNat+i) j)) (y:=(.c (gW.tree ((a0.bP.drop (0:Int).toNat).take ((a1:Int).toNat - (0:Int).toNat))))) (jS.c (El.oH gW _ (tI (hv _ (List.Mem.head _))))) <|
   .lt _ fun x2 =>
   .bk 0 (fun kF=>⟨[sI 7 kF],[],[],0⟩) (
    .lp [] (fun eA=>⟨[sI 2 a2,sI 7 eA.1,(18,.c (gW.tree x2)),sI 19 (Int.ofNat x2.length),sI 20 eA.2],[],[],0⟩) fun eA =>
    .lt _ fun kI =>
    .ite _ (
     .bk 1 (fun eW=>⟨[sI 2 a2,sI 7 eW,(18,.c (gW.tree x2)),sI 19 (Int.ofNat x2.length),sI 20 eA.2],[],[],0⟩) (
      .ck _ <|
      .lt _ fun x31 =>
      .ite _ (
       .nil [] _) (
       .nil [] _)) fun eW =>
     .nil [] _) (
     .ret [] _)) fun kF =>
   .ret [] _))
def F11 (K:Nat) (a0:cK) (a1:Int):Option ((Int) ⊕ (Int)) :=
 ((bX (F47 K a0 a1 2)).bind (fun r1=>(some (.inl (r1)))))
theorem aFP (K:Nat) (a0:cK) (a1:Int):bV Tryz.prog 11 [.agg (c9.cs a0),.c (.val (.int .i64 a1))] [] (bX (F11 K a0 a1)) (fun r=>.c (.val (.int .i64 r))) (fun r=>[]):=by
 refine bV.it Tryz.f11 (fun r=>⟨[sI 4 r],[],[],0⟩) ?_
 unfold F11
 exact Ref.pt (
  .call [] (aOT _ _ _ _) fun r1 =>
  .ret [] _)
def F83 (K:Nat) (a0:fS):Option ((Bytes) ⊕ (Bytes)) :=
 (if ((a0.bU:Int) == 5)=true then (some (.inl (([114]:Bytes)))) else (some (.inl (([105]:Bytes)))))
theorem aXG (K:Nat) (a0:fS):bV Tryz.prog 83 [.agg (jV.cs a0)] [] (bX (F83 K a0)) (fun r=>.c (.str r)) (fun r=>[]):=by
 refine bV.it Tryz.f83 (fun r=>⟨[sS 2 r],[],[],0⟩) ?_
 unfold F83
 exact Ref.pt (
  .ite _ (
   .ret [] _) (
   .ret [] _))
def F84 (K:Nat) (a0:fS):Option ((Int) ⊕ (Int)) :=
 (bT (bQ (bT (if ((a0.bU:Int) == 6)=true then (some (.inr (((a0.bU:Int) == 6)))) else (some (.inr (((a0.bU:Int) == 7))))) (fun (u3:Bool)=>(if u3=true then (some (.inl (Sum.inr (0)))) else (if ((a0.bU:Int) == 4)=true then (some (.inl (Sum.inr ((e8 (IntKind.i64.wrap (a0.zO+1)) 0))))) else (some (.inr ()))))))) (fun (u2:Unit)=>(some (.inl (1)))))
theorem aFQ (K:Nat) (a0:fS):bV Tryz.prog 84 [.agg (jV.cs a0)] [] (bX (F84 K a0)) (fun r=>.c (.val (.int .i64 r))) (fun r=>[]):=by
 refine bV.it Tryz.f84 (fun r=>⟨[sI 2 r],[],[],0⟩) ?_
 unfold F84
 exact Ref.pt (
  .bk 0 (fun u2=>⟨[],[],[],0⟩) (
   .jn (fun u3=>⟨[sP 1 0 0 0,sI 4 a0.bU,sB 5 u3],[.cells (jV.cs a0)],[],0⟩) (
    .ite _ (
     .nil [0] _) (
     .nil [0] _)) fun u3 =>
   .ite _ (
    .ret [] _) (
    .ite _ (
     .ret [] _) (
     .nil [] _))) fun u2 =>
  .ret [] _)
def F43 (K:Nat) (a0:cK):Option (((List dS)) ⊕ ((List dS))) :=
 (bT (bQ ((iter K (fun (iJ:(List dS) × (List dS) × Int)=>(bR (decide ((iJ.2.2:Int)<(Int.ofNat a0.bP.length))) (fun (a1C:Bool)=>(if a1C=true then (bT (bQ (bY [cP iJ.2.2 a0.bP.length] (bR ((a0.bP.getD (iJ.2.2:Int).toNat default).bU) (fun (aXH:Int)=>(bT (bQ (if ((aXH:Int) == 2)=true then (bR ((a0.bP.getD (iJ.2.2:Int).toNat default).bS) (fun (aOU:(List hU))=>(bR (Int.ofNat ((a0.bP.getD (iJ.2.2:Int).toNat default).bS).length) (fun (aTt:Int)=>(bT (bQ ((iter K (fun (rM:(List dS) × Int)=>(if (decide ((rM.2:Int)<aTt))=true then (bT (bQ (bY [cP rM.2 aOU.length] (bR (!((aOU.getD (rM.2:Int).toNat default).eT)) (fun (a1D:Bool)=>(if a1D=true then (bY [room ((rM.1.length+([(⟨iJ.2.2,rM.2⟩:dS)].length)) * 16)] (some (.inr ((rM.1++[(⟨iJ.2.2,rM.2⟩:dS)]))))) else (some (.inr (rM.1)))))))) (fun (aOV:(List dS))=>(some (.inr (aOV,(IntKind.i64.wrap (rM.2+1))))))) else (some (.inl (Sum.inl (rM.1)))))) (iJ.1,0)).map .inl)) (fun (aOW:(List dS))=>(some (.inr (aOW,iJ.2.1))))))))) else (if ((aXH:Int) == 3)=true then (bY [room ((iJ.2.1.length+([(⟨iJ.2.2,(-1)⟩:dS)].length)) * 16)] (some (.inr (iJ.1,(iJ.2.1++[(⟨iJ.2.2,(-1)⟩:dS)]))))) else (some (.inr (iJ.1,iJ.2.1)))))) (fun (aHi:(List dS) × (List dS))=>(some (.inr (aHi.1,aHi.2))))))))) (fun (aAl:(List dS) × (List dS))=>(some (.inr (aAl.1,aAl.2,(IntKind.i64.wrap (iJ.2.2+1))))))) else (some (.inl (Sum.inl (iJ.1,iJ.2.1)))))))) ([],[],0)).map .inl)) (fun (aBg:(List dS) × (List dS))=>(bY [room ((aBg.1.length+aBg.2.length) * 16)] (some (.inl ((aBg.1++aBg.2)))))))
theorem aOX (K:Nat) (a0:cK):bV Tryz.prog 43 [.agg (c9.cs a0)] [] (bX (F43 K a0)) (fun r=>.c (dY.tree r)) (fun r=>[]):=by
 refine bV.it Tryz.f43 (fun r=>⟨[(2,.c (dY.tree r))],[],[],0⟩) ?_
 unfold F43
 exact Ref.pt (
  .bk 0 (fun aBg=>⟨[(3,.c (.own 0 aBg.1.length)),(4,.c (.own 1 aBg.2.length))],[dY.row aBg.1,dY.row aBg.2],[],0⟩) (
   .ad 2 0 3 dY.ty dY.w (dY.at []) <|
   .ad 2 0 4 dY.ty dY.w (dY.at []) <|
   .lp [1,2] (fun iJ=>⟨[(3,.c (.own 0 iJ.1.length)),(4,.c (.own 1 iJ.2.1.length)),(10,.c (gW.tree a0.bP)),sI 11 (Int.ofNat a0.bP.length),sI 12 iJ.2.2],[dY.row iJ.1,dY.row iJ.2.1],[],0⟩) fun iJ =>
   .lt _ fun a1C =>
   .ite _ (
    .bk 1 (fun aAl=>⟨[(3,.c (.own 0 aAl.1.length)),(4,.c (.own 1 aAl.2.length)),(10,.c (gW.tree a0.bP)),sI 11 (Int.ofNat a0.bP.length),sI 12 iJ.2.2],[dY.row aAl.1,dY.row aAl.2],[],0⟩) (
     .ck _ <|
     .lt _ fun aXH =>
     .bk 2 (fun aHi=>⟨[(3,.c (.own 0 aHi.1.length)),(4,.c (.own 1 aHi.2.length)),(10,.c (gW.tree a0.bP)),sI 11 (Int.ofNat a0.bP.length),sI 12 iJ.2.2],[dY.row aHi.1,dY.row aHi.2],[],0⟩) (
      .ite _ (
       .lt _ fun aOU =>
       .lt _ fun aTt =>
       .bk 3 (fun aOW=>⟨[(3,.c (.own 0 aOW.length)),(4,.c (.own 1 iJ.2.1.length)),(10,.c (gW.tree a0.bP)),sI 11 (Int.ofNat a0.bP.length),sI 12 iJ.2.2],[dY.row aOW,dY.row iJ.2.1],[],0⟩) (
        .lp [0,1] (fun rM=>⟨[(3,.c (.own 0 rM.1.length)),(4,.c (.own 1 iJ.2.1.length)),sI 5 iJ.2.2,(10,.c (gW.tree a0.bP)),sI 11 (Int.ofNat a0.bP.length),sI 12 iJ.2.2,(22,.c (jO.tree aOU)),sI 23 aTt,sI 24 rM.2],[dY.row rM.1,dY.row iJ.2.1],[],0⟩) fun rM =>
        .ite _ (
         .bk 4 (fun aOV=>⟨[(3,.c (.own 0 aOV.length)),(4,.c (.own 1 iJ.2.1.length)),sI 5 iJ.2.2,(10,.c (gW.tree a0.bP)),sI 11 (Int.ofNat a0.bP.length),sI 12 iJ.2.2,(22,.c (jO.tree aOU)),sI 23 aTt,sI 24 rM.2],[dY.row aOV,dY.row iJ.2.1],[],0⟩) (
          .ck _ <|
          .lt _ fun a1D =>
          .ite _ (
           .ob 11 2 3 (El.b9 dY [(⟨iJ.2.2,rM.2⟩:dS)] rfl rfl) <|
           .ck _ <|
           .ap 11 1 4 37 dY rM.1 [(⟨iJ.2.2,rM.2⟩:dS)] <|
           .nil [4,1] _) (
           .nil [0,1] _)) fun aOV =>
         .nil [0,1] _) (
         .ret [0,1] _)) fun aOW =>
       .nil [0,1] _) (
       .ite _ (
        .ob 14 2 3 (El.b9 dY [(⟨iJ.2.2,(-1)⟩:dS)] rfl rfl) <|
        .ck _ <|
        .ap 14 1 4 45 dY iJ.2.1 [(⟨iJ.2.2,(-1)⟩:dS)] <|
        .nil [0,4] _) (
        .nil [0,1] _))) fun aHi =>
     .nil [0,1] _) fun aAl =>
    .nil [0,1] _) (
    .ret [0,1] _)) fun aBg =>
  .ck _ <|
  .ap 16 1 2 49 dY aBg.1 aBg.2 <|
  .fz 16 0 2 <|
  .ret [] _)
def F57 (K:Nat) (a0:(List dS)) (a1:dS):Option ((Int) ⊕ (Int)) :=
 (bT (bQ ((iter K (fun (iA:Int)=>(bR (decide ((iA:Int)<(Int.ofNat a0.length))) (fun (uS:Bool)=>(if uS=true then (bT (bQ (bY [cP iA a0.length] (bR (((a1.cZ:Int) == ((a0.getD (iA:Int).toNat default).cZ)) && (((a1.dF:Int) == ((a0.getD (iA:Int).toNat default).dF)) && true)) (fun (gY:Bool)=>(if gY=true then (some (.inl (Sum.inr (Sum.inr (iA))))) else (some (.inr ()))))))) (fun (jG:Unit)=>(some (.inr ((IntKind.i64.wrap (iA+1))))))) else (some (.inl (Sum.inl ()))))))) (0)).map .inl)) (fun (tQ:Unit)=>(some (.inl ((-1))))))
theorem aXI (K:Nat) (a0:(List dS)) (a1:dS):bV Tryz.prog 57 [.c (dY.tree a0),.agg (dY.cs a1)] [] (bX (F57 K a0 a1)) (fun r=>.c (.val (.int .i64 r))) (fun r=>[]):=by
 refine bV.it Tryz.f57 (fun r=>⟨[sI 4 r],[],[],0⟩) ?_
 unfold F57
 exact Ref.pt (
  .bk 0 (fun tQ=>⟨[],[],[],0⟩) (
   .lp [0] (fun iA=>⟨[(0,.c (dY.tree a0)),sP 3 0 0 0,sI 7 (Int.ofNat a0.length),sI 8 iA],[.cells (dY.cs a1)],[],0⟩) fun iA =>
   .lt _ fun uS =>
   .ite _ (
    .bk 1 (fun jG=>⟨[(0,.c (dY.tree a0)),sP 3 0 0 0,sI 7 (Int.ofNat a0.length),sI 8 iA],[.cells (dY.cs a1)],[],0⟩) (
     .hO [1,2,3] _ <|
     .tx [] <|
     .ex [0,4,5] <|
     .lt _ fun gY =>
     .ite _ (
      .ret [] _) (
      .nil [0] _)) fun jG =>
    .nil [0] _) (
    .ret [] _)) fun tQ =>
  .ret [] _)
def F19 (K:Nat) (a0:cK) (a1:dS):Option ((Int) ⊕ (Int)) :=
 ((bX (F43 K a0)).bind (fun r3=>((cE true (bX (F57 K r3 a1)) default).bind (fun r4=>(some (.inl (r4)))))))
theorem aC0 (K:Nat) (a0:cK) (a1:dS):bV Tryz.prog 19 [.agg (c9.cs a0),.agg (dY.cs a1)] [] (bX (F19 K a0 a1)) (fun r=>.c (.val (.int .i64 r))) (fun r=>[]):=by
 refine bV.it Tryz.f19 (fun r=>⟨[sI 4 r],[],[],0⟩) ?_
 unfold F19
 exact Ref.pt (
  .tx [1,3] <|
  .ex [0] <|
  .kn fun r3 er3 =>
  .kn fun r4 er4 =>
  .all [3,5,6,7,8,4] (rg (cd (bd Tryz.f19) [1,0])) [true,false,false,false,false] (hl [(1,.kc [] (bV.eq (aOX _ _) er3) []),(3,.kc [] (bV.eq (aXI _ _ _) er4) [])]) ⟨[sI 4 r4],[],[],0⟩ [] <|
  .ret [] _)
def F55 (K:Nat) (a0:cK):Option (((List Int)) ⊕ ((List Int))) :=
 (bT (bQ ((iter K (fun (eA:(List Int) × Int)=>(bR (decide ((eA.2:Int)<(Int.ofNat a0.bP.length))) (fun (kI:Bool)=>(if kI=true then (bT (bQ ((bX (F50 K a0 eA.2 3)).bind (fun w9=>(if w9=true then (bY [room ((eA.1.length+([eA.2].length)) * 8)] (some (.inr ((eA.1++[eA.2]))))) else (some (.inr (eA.1))))))) (fun (eW:(List Int))=>(some (.inr (eW,(IntKind.i64.wrap (eA.2+1))))))) else (some (.inl (Sum.inl (eA.1)))))))) ([],0)).map .inl)) (fun (u16:(List Int))=>(some (.inl (u16)))))
theorem aI8 (K:Nat) (a0:cK):bV Tryz.prog 55 [.agg (c9.cs a0)] [] (bX (F55 K a0)) (fun r=>.c (E3.tree r)) (fun r=>[]):=by
 refine bV.it Tryz.f55 (fun r=>⟨[(2,.c (E3.tree r))],[],[],0⟩) ?_
 unfold F55
 exact Ref.pt (
  .bk 0 (fun u16=>⟨[(3,.c (.own 0 u16.length))],[E3.row u16],[],0⟩) (
   .ad 2 0 3 E3.ty E3.w (E3.at []) <|
   .lp [0,1] (fun eA=>⟨[sP 1 0 0 0,(3,.c (.own 1 eA.1.length)),sI 7 (Int.ofNat a0.bP.length),sI 8 eA.2],[.cells (c9.cs a0),E3.row eA.1],[],0⟩) fun eA =>
   .lt _ fun kI =>
   .ite _ (
    .bk 1 (fun eW=>⟨[sP 1 0 0 0,(3,.c (.own 1 eW.length)),sI 7 (Int.ofNat a0.bP.length),sI 8 eA.2],[.cells (c9.cs a0),E3.row eW],[],0⟩) (
     .call [] (aCZ _ _ _ _) fun w9 =>
     .ite _ (
      .ob 6 2 2 (El.b9 E3 [eA.2] rfl rfl) <|
      .ck _ <|
      .ap 6 1 3 17 E3 eA.1 [eA.2] <|
      .nil [0,3] _) (
      .nil [0,1] _)) fun eW =>
    .nil [0,1] _) (
    .ret [1] _)) fun u16 =>
  .fz 8 0 0 <|
  .ret [] _)
def F37 (K:Nat) (a0:cK):Option (((List eZ)) ⊕ ((List eZ))) :=
 ((bX (F55 K a0)).bind (fun r1=>(bT (bQ ((iter K (fun (gT:(List eZ) × Int)=>(bR (decide ((gT.2:Int)<(Int.ofNat r1.length))) (fun (x27:Bool)=>(if x27=true then (bT (bQ (bY [cP gT.2 r1.length] (bY [cP (r1.getD (gT.2:Int).toNat default) a0.bP.length] (bR ((a0.bP.getD ((r1.getD (gT.2:Int).toNat default):Int).toNat default).cA) (fun (x30:(List eZ))=>(bY [room ((gT.1.length+x30.length) * 80)] (some (.inr ((gT.1++x30)))))))))) (fun (u29:(List eZ))=>(some (.inr (u29,(IntKind.i64.wrap (gT.2+1))))))) else (some (.inl (Sum.inl (gT.1)))))))) ([],0)).map .inl)) (fun (u16:(List eZ))=>(some (.inl (u16)))))))
theorem aOY (K:Nat) (a0:cK):bV Tryz.prog 37 [.agg (c9.cs a0)] [] (bX (F37 K a0)) (fun r=>.c (eX.tree r)) (fun r=>[]):=by
 refine bV.it Tryz.f37 (fun r=>⟨[(2,.c (eX.tree r))],[],[],0⟩) ?_
 unfold F37
 exact Ref.pt (
  .call [] (aI8 _ _) fun r1 =>
  .bk 0 (fun u16=>⟨[(3,.c (.own 0 u16.length))],[eX.row u16],[],0⟩) (
   .ad 2 0 3 eX.ty eX.w (eX.at []) <|
   .lp [0,1] (fun gT=>⟨[sP 1 0 0 0,(3,.c (.own 1 gT.1.length)),(7,.c (E3.tree r1)),sI 8 (Int.ofNat r1.length),sI 9 gT.2],[.cells (c9.cs a0),eX.row gT.1],[],0⟩) fun gT =>
   .lt _ fun x27 =>
   .ite _ (
    .bk 1 (fun u29=>⟨[sP 1 0 0 0,(3,.c (.own 1 u29.length)),(7,.c (E3.tree r1)),sI 8 (Int.ofNat r1.length),sI 9 gT.2],[.cells (c9.cs a0),eX.row u29],[],0⟩) (
     .ck _ <|
     .ck _ <|
     .lt _ fun x30 =>
     .ck _ <|
     .ap 5 1 2 20 eX gT.1 x30 <|
     .nil [0,2] _) fun u29 =>
    .nil [0,1] _) (
    .ret [1] _)) fun u16 =>
  .fz 7 0 0 <|
  .ret [] _)
def F38 (K:Nat) (a0:(List eZ)):Option (((List Int)) ⊕ ((List Int))) :=
 (bT (bQ ((iter K (fun (iB:(List Int) × Int)=>(bR (decide ((iB.2:Int)<(Int.ofNat a0.length))) (fun (aOZ:Bool)=>(if aOZ=true then (bT (bQ (bY [cP iB.2 a0.length] ((bX (F84 K ((a0.getD (iB.2:Int).toNat default).cB))).bind (fun aC1=>(bT (bQ ((iter K (fun (lD:(List Int) × Int)=>(bR (decide ((lD.2:Int)<(sJ aC1 10000))) (fun (aO0:Bool)=>(if aO0=true then (bT (bQ (bR ((((((a0.getD (iB.2:Int).toNat default).cB).bU):Int) == 4) || (((((a0.getD (iB.2:Int).toNat default).cB).bU):Int) == 5)) (fun (aO1:Bool)=>(bT (if aO1=true then (some (.inr (0))) else (some (.inr ((a0.getD (iB.2:Int).toNat default).dM)))) (fun (wQ:Int)=>(bY [room ((lD.1.length+([wQ].length)) * 8)] (some (.inr ((lD.1++[wQ])))))))))) (fun (aC2:(List Int))=>(some (.inr (aC2,(IntKind.i64.wrap (lD.2+1))))))) else (some (.inl (Sum.inl (lD.1)))))))) (iB.1,0)).map .inl)) (fun (aC3:(List Int))=>(some (.inr (aC3))))))))) (fun (aC4:(List Int))=>(some (.inr (aC4,(IntKind.i64.wrap (iB.2+1))))))) else (some (.inl (Sum.inl (iB.1)))))))) ([],0)).map .inl)) (fun (aC5:(List Int))=>(some (.inl (aC5)))))
theorem aXJ (K:Nat) (a0:(List eZ)):bV Tryz.prog 38 [.c (eX.tree a0)] [] (bX (F38 K a0)) (fun r=>.c (E3.tree r)) (fun r=>[]):=by
 refine bV.it Tryz.f38 (fun r=>⟨[(2,.c (E3.tree r))],[],[],0⟩) ?_
 unfold F38
 exact Ref.pt (
  .bk 0 (fun aC5=>⟨[(3,.c (.own 0 aC5.length))],[E3.row aC5],[],0⟩) (
   .ad 2 0 3 E3.ty E3.w (E3.at []) <|
   .lp [0] (fun iB=>⟨[(3,.c (.own 0 iB.1.length)),(7,.c (eX.tree a0)),sI 8 (Int.ofNat a0.length),sI 9 iB.2],[E3.row iB.1],[],0⟩) fun iB =>
   .lt _ fun aOZ =>
   .ite _ (
    .bk 1 (fun aC4=>⟨[(3,.c (.own 0 aC4.length)),(7,.c (eX.tree a0)),sI 8 (Int.ofNat a0.length),sI 9 iB.2],[E3.row aC4],[],0⟩) (
     .ck _ <|
     .call [] (aFQ _ _) fun aC1 =>
     .bk 2 (fun aC3=>⟨[(3,.c (.own 0 aC3.length)),(7,.c (eX.tree a0)),sI 8 (Int.ofNat a0.length),sI 9 iB.2],[E3.row aC3],[],0⟩) (
      .lp [0,1] (fun lD=>⟨[(3,.c (.own 0 lD.1.length)),sP 5 1 0 0,(7,.c (eX.tree a0)),sI 8 (Int.ofNat a0.length),sI 9 iB.2,sI 16 (sJ aC1 10000),sI 17 lD.2],[E3.row lD.1,eX.o (gd a0 iB.2)],[],0⟩) fun lD =>
      .lt _ fun aO0 =>
      .ite _ (
       .bk 3 (fun aC2=>⟨[(3,.c (.own 0 aC2.length)),sP 5 1 0 0,(7,.c (eX.tree a0)),sI 8 (Int.ofNat a0.length),sI 9 iB.2,sI 16 (sJ aC1 10000),sI 17 lD.2],[E3.row aC2,eX.o (gd a0 iB.2)],[],0⟩) (
        .lt _ fun aO1 =>
        .jn (fun wQ=>⟨[(3,.c (.own 0 lD.1.length)),sP 5 1 0 0,sI 6 wQ,(7,.c (eX.tree a0)),sI 8 (Int.ofNat a0.length),sI 9 iB.2,sI 16 (sJ aC1 10000),sI 17 lD.2],[E3.row lD.1,eX.o (gd a0 iB.2)],[],0⟩) (
         .ite _ (
          .nil [0,1] _) (
          .nil [0,1] _)) fun wQ =>
        .ob 10 2 2 (El.b9 E3 [wQ] rfl rfl) <|
        .ck _ <|
        .ap 10 1 3 34 E3 lD.1 [wQ] <|
        .nil [3,1] _) fun aC2 =>
       .nil [0,1] _) (
       .ret [0] _)) fun aC3 =>
     .nil [0] _) fun aC4 =>
    .nil [0] _) (
    .ret [0] _)) fun aC5 =>
  .fz 13 0 0 <|
  .ret [] _)
def aSY (K:Nat) (a0:(List eZ)):Option (((List Int)) ⊕ ((List Int))) :=
 (bT (bQ ((iter K (fun (iB:(List Int) × Int)=>(bR (decide ((iB.2:Int)<(Int.ofNat a0.length))) (fun (aOZ:Bool)=>(if aOZ=true then (bT (bQ (bY [cP iB.2 a0.length] ((bX (F84 K ((a0.getD (iB.2:Int).toNat default).cB))).bind (fun aC1=>(bT (bQ ((iter K (fun (lD:(List Int) × Int)=>(bR (decide ((lD.2:Int)<(sJ aC1 10000))) (fun (aO0:Bool)=>(if aO0=true then (bT (bQ (bR ((((((a0.getD (iB.2:Int).toNat default).cB).bU):Int) == 4) || (((((a0.getD (iB.2:Int).toNat default).cB).bU):Int) == 5)) (fun (aO1:Bool)=>(bT (if aO1=true then (some (.inr (0))) else (some (.inr ((a0.getD (iB.2:Int).toNat default).dM)))) (fun (wQ:Int)=>(bY [room ((lD.1.length+([wQ].length)) * 8)] (some (.inr ((lD.1++[wQ])))))))))) (fun (aC2:(List Int))=>(some (.inr (aC2,(IntKind.i64.wrap (lD.2+1))))))) else (some (.inl (Sum.inl (lD.1)))))))) (iB.1,0)).map .inl)) (fun (aC3:(List Int))=>(some (.inr (aC3))))))))) (fun (aC4:(List Int))=>(some (.inr (aC4,(IntKind.i64.wrap (iB.2+1))))))) else (some (.inl (Sum.inl (iB.1)))))))) ([],0)).map .inl)) (fun (aC5:(List Int))=>(some (.inl (aC5)))))
theorem aTu (K:Nat) (a0:(List eZ)):bV Tryz.prog 38 [.c (eX.tree a0)] [] (bX (aSY K a0)) (fun r=>.c (.own 0 r.length)) (fun r=>[E3.row r]):=by
 refine bV.it Tryz.f38 (fun r=>⟨[(2,.c (.own 0 r.length))],[E3.row r],[],0⟩) ?_
 unfold aSY
 exact Ref.pt (
  .bk 0 (fun aC5=>⟨[(3,.c (.own 0 aC5.length))],[E3.row aC5],[],0⟩) (
   .ad 2 0 3 E3.ty E3.w (E3.at []) <|
   .lp [0] (fun iB=>⟨[(3,.c (.own 0 iB.1.length)),(7,.c (eX.tree a0)),sI 8 (Int.ofNat a0.length),sI 9 iB.2],[E3.row iB.1],[],0⟩) fun iB =>
   .lt _ fun aOZ =>
   .ite _ (
    .bk 1 (fun aC4=>⟨[(3,.c (.own 0 aC4.length)),(7,.c (eX.tree a0)),sI 8 (Int.ofNat a0.length),sI 9 iB.2],[E3.row aC4],[],0⟩) (
     .ck _ <|
     .call [] (aFQ _ _) fun aC1 =>
     .bk 2 (fun aC3=>⟨[(3,.c (.own 0 aC3.length)),(7,.c (eX.tree a0)),sI 8 (Int.ofNat a0.length),sI 9 iB.2],[E3.row aC3],[],0⟩) (
      .lp [0,1] (fun lD=>⟨[(3,.c (.own 0 lD.1.length)),sP 5 1 0 0,(7,.c (eX.tree a0)),sI 8 (Int.ofNat a0.length),sI 9 iB.2,sI 16 (sJ aC1 10000),sI 17 lD.2],[E3.row lD.1,eX.o (gd a0 iB.2)],[],0⟩) fun lD =>
      .lt _ fun aO0 =>
      .ite _ (
       .bk 3 (fun aC2=>⟨[(3,.c (.own 0 aC2.length)),sP 5 1 0 0,(7,.c (eX.tree a0)),sI 8 (Int.ofNat a0.length),sI 9 iB.2,sI 16 (sJ aC1 10000),sI 17 lD.2],[E3.row aC2,eX.o (gd a0 iB.2)],[],0⟩) (
        .lt _ fun aO1 =>
        .jn (fun wQ=>⟨[(3,.c (.own 0 lD.1.length)),sP 5 1 0 0,sI 6 wQ,(7,.c (eX.tree a0)),sI 8 (Int.ofNat a0.length),sI 9 iB.2,sI 16 (sJ aC1 10000),sI 17 lD.2],[E3.row lD.1,eX.o (gd a0 iB.2)],[],0⟩) (
         .ite _ (
          .nil [0,1] _) (
          .nil [0,1] _)) fun wQ =>
        .ob 10 2 2 (El.b9 E3 [wQ] rfl rfl) <|
        .ck _ <|
        .ap 10 1 3 34 E3 lD.1 [wQ] <|
        .nil [3,1] _) fun aC2 =>
       .nil [0,1] _) (
       .ret [0] _)) fun aC3 =>
     .nil [0] _) fun aC4 =>
    .nil [0] _) (
    .ret [0] _)) fun aC5 =>
  .ret [0] _)
def F86 (K:Nat) (a0:Bytes) (a1:Bool):Option ((Bytes) ⊕ (Bytes)) :=
 (if a1=true then (bY [room (a0.length+([62,105]:Bytes).length)] (some (.inl ((a0++([62,105]:Bytes)))))) else (bY [room (a0.length+([62]:Bytes).length)] (some (.inl ((a0++([62]:Bytes)))))))
theorem aXK (K:Nat) (a0:Bytes) (a1:Bool):bV Tryz.prog 86 [.c (.str a0),.c (.val (.bool a1))] [] (bX (F86 K a0 a1)) (fun r=>.c (.str r)) (fun r=>[]):=by
 refine bV.it Tryz.f86 (fun r=>⟨[sS 4 r],[],[],0⟩) ?_
 unfold F86
 exact Ref.pt (
  .ite _ (
   .ck _ <|
   .ret [] _) (
   .ck _ <|
   .ret [] _))
def F22 (K:Nat) (a0:cK) (a1:Int):Option ((Int) ⊕ (Int)) :=
 ((bX (F47 K a0 a1 1)).bind (fun r1=>(some (.inl (r1)))))
theorem aO2 (K:Nat) (a0:cK) (a1:Int):bV Tryz.prog 22 [.agg (c9.cs a0),.c (.val (.int .i64 a1))] [] (bX (F22 K a0 a1)) (fun r=>.c (.val (.int .i64 r))) (fun r=>[]):=by
 refine bV.it Tryz.f22 (fun r=>⟨[sI 4 r],[],[],0⟩) ?_
 unfold F22
 exact Ref.pt (
  .call [] (aOT _ _ _ _) fun r1 =>
  .ret [] _)
def F51 (K:Nat) (a0:(List eZ)) (a1:Bytes):Option ((Int) ⊕ (Int)) :=
 (bT (bQ ((iter K (fun (jG:Int × Int)=>(bR (decide ((jG.2:Int)<(Int.ofNat a0.length))) (fun (x38:Bool)=>(if x38=true then (bT (bQ (bY [cP jG.2 a0.length] ((bX (F84 K ((a0.getD (jG.2:Int).toNat default).cB))).bind (fun oJ=>(bR ((((a0.getD (jG.2:Int).toNat default).cD) == a1) && (decide (((sJ oJ 10000):Int) > 0))) (fun (x44:Bool)=>(if x44=true then (some (.inl (Sum.inr (Sum.inr (jG.1))))) else (bR (IntKind.i64.wrap (jG.1+(sJ oJ 10000))) (fun (x45:Int)=>(some (.inr (x45)))))))))))) (fun (u42:Int)=>(some (.inr (u42,(IntKind.i64.wrap (jG.2+1))))))) else (some (.inl (Sum.inl ()))))))) (0,0)).map .inl)) (fun (gT:Unit)=>(some (.inl ((-1))))))
theorem aO3 (K:Nat) (a0:(List eZ)) (a1:Bytes):bV Tryz.prog 51 [.c (eX.tree a0),.c (.str a1)] [] (bX (F51 K a0 a1)) (fun r=>.c (.val (.int .i64 r))) (fun r=>[]):=by
 refine bV.it Tryz.f51 (fun r=>⟨[sI 4 r],[],[],0⟩) ?_
 unfold F51
 exact Ref.pt (
  .bk 0 (fun gT=>⟨[],[],[],0⟩) (
   .lp [] (fun jG=>⟨[sS 1 a1,sI 5 jG.1,(9,.c (eX.tree a0)),sI 10 (Int.ofNat a0.length),sI 11 jG.2],[],[],0⟩) fun jG =>
   .lt _ fun x38 =>
   .ite _ (
    .bk 1 (fun u42=>⟨[sS 1 a1,sI 5 u42,(9,.c (eX.tree a0)),sI 10 (Int.ofNat a0.length),sI 11 jG.2],[],[],0⟩) (
     .ck _ <|
     .call [] (aFQ _ _) fun oJ =>
     .lt _ fun x44 =>
     .ite _ (
      .ret [] _) (
      .lt _ fun x45 =>
      .nil [] _)) fun u42 =>
    .nil [] _) (
    .ret [] _)) fun gT =>
  .ret [] _)
def F56 (K:Nat) (a0:cK) (a1:Int) (a2:Bytes) (a3:Int):Option ((Int) ⊕ (Int)) :=
 ((bX (F50 K a0 a1 3)).bind (fun r1=>(if (!r1)=true then (some (.inl ((-1)))) else ((bX (F55 K a0)).bind (fun r2=>(bT (bQ ((iter K (fun (sN:Int × Int)=>(bR (decide ((sN.2:Int)<(Int.ofNat r2.length))) (fun (a1H:Bool)=>(if a1H=true then (bT (bQ (bY [cP sN.2 r2.length] (bY [cP (r2.getD (sN.2:Int).toNat default) a0.bP.length] (bR ((a0.bP.getD ((r2.getD (sN.2:Int).toNat default):Int).toNat default).cA) (fun (aMr:(List eZ))=>(bR (Int.ofNat ((a0.bP.getD ((r2.getD (sN.2:Int).toNat default):Int).toNat default).cA).length) (fun (aTv:Int)=>(bT (bQ ((iter K (fun (yP:Int × Int)=>(if (decide ((yP.2:Int)<aTv))=true then (bT (bQ (bY [cP yP.2 aMr.length] (bR (((((aMr.getD (yP.2:Int).toNat default).cB).bU):Int) != a3) (fun (aOr:Bool)=>(if aOr=true then (some (.inl (Sum.inl (yP.1)))) else (bR ((((r2.getD (sN.2:Int).toNat default):Int) == a1) && (((aMr.getD (yP.2:Int).toNat default).cD) == a2)) (fun (a1I:Bool)=>(if a1I=true then (some (.inl (Sum.inr (Sum.inr (Sum.inr (Sum.inr (yP.1))))))) else (some (.inr ((IntKind.i64.wrap (yP.1+1))))))))))))) (fun (aTw:Int)=>(some (.inr (aTw,(IntKind.i64.wrap (yP.2+1))))))) else (some (.inl (Sum.inl (yP.1)))))) (sN.1,0)).map .inl)) (fun (aTx:Int)=>(some (.inr (aTx)))))))))))) (fun (aTy:Int)=>(some (.inr (aTy,(IntKind.i64.wrap (sN.2+1))))))) else (some (.inl (Sum.inl ()))))))) (0,0)).map .inl)) (fun (a1J:Unit)=>(some (.inl ((-1)))))))))))
theorem aO4 (K:Nat) (a0:cK) (a1:Int) (a2:Bytes) (a3:Int):bV Tryz.prog 56 [.agg (c9.cs a0),.c (.val (.int .i64 a1)),.c (.str a2),.c (.val (.int .i64 a3))] [] (bX (F56 K a0 a1 a2 a3)) (fun r=>.c (.val (.int .i64 r))) (fun r=>[]):=by
 refine bV.it Tryz.f56 (fun r=>⟨[sI 8 r],[],[],0⟩) ?_
 unfold F56
 exact Ref.pt (
  .call [] (aCZ _ _ _ _) fun r1 =>
  .ite _ (
   .ret [] _) (
   .call [] (aI8 _ _) fun r2 =>
   .bk 0 (fun a1J=>⟨[],[],[],0⟩) (
    .lp [0] (fun sN=>⟨[sI 1 a1,sS 2 a2,sI 3 a3,sP 4 0 0 0,sI 9 sN.1,(19,.c (E3.tree r2)),sI 20 (Int.ofNat r2.length),sI 21 sN.2],[.cells (c9.cs a0)],[],0⟩) fun sN =>
    .lt _ fun a1H =>
    .ite _ (
     .bk 1 (fun aTy=>⟨[sI 1 a1,sS 2 a2,sI 3 a3,sP 4 0 0 0,sI 9 aTy,(19,.c (E3.tree r2)),sI 20 (Int.ofNat r2.length),sI 21 sN.2],[.cells (c9.cs a0)],[],0⟩) (
      .ck _ <|
      .ck _ <|
      .lt _ fun aMr =>
      .lt _ fun aTv =>
      .bk 2 (fun aTx=>⟨[sI 1 a1,sS 2 a2,sI 3 a3,sP 4 0 0 0,sI 9 aTx,(19,.c (E3.tree r2)),sI 20 (Int.ofNat r2.length),sI 21 sN.2],[.cells (c9.cs a0)],[],0⟩) (
       .lp [0] (fun yP=>⟨[sI 1 a1,sS 2 a2,sI 3 a3,sP 4 0 0 0,sI 9 yP.1,sI 11 (gd r2 sN.2),(19,.c (E3.tree r2)),sI 20 (Int.ofNat r2.length),sI 21 sN.2,(30,.c (eX.tree aMr)),sI 31 aTv,sI 32 yP.2],[.cells (c9.cs a0)],[],0⟩) fun yP =>
       .ite _ (
        .bk 3 (fun aTw=>⟨[sI 1 a1,sS 2 a2,sI 3 a3,sP 4 0 0 0,sI 9 aTw,sI 11 (gd r2 sN.2),(19,.c (E3.tree r2)),sI 20 (Int.ofNat r2.length),sI 21 sN.2,(30,.c (eX.tree aMr)),sI 31 aTv,sI 32 yP.2],[.cells (c9.cs a0)],[],0⟩) (
         .ck _ <|
         .lt _ fun aOr =>
         .ite _ (
          .ret [0] _) (
          .lt _ fun a1I =>
          .ite _ (
           .ret [] _) (
           .nil [0] _))) fun aTw =>
        .nil [0] _) (
        .ret [0] _)) fun aTx =>
      .nil [0] _) fun aTy =>
     .nil [0] _) (
     .ret [] _)) fun a1J =>
   .ret [] _))
def F18 (K:Nat) (a0:cK) (a1:Int) (a2:Bytes):Option ((Int) ⊕ (Int)) :=
 ((bX (F56 K a0 a1 a2 7)).bind (fun r1=>(some (.inl (r1)))))
theorem aXM (K:Nat) (a0:cK) (a1:Int) (a2:Bytes):bV Tryz.prog 18 [.agg (c9.cs a0),.c (.val (.int .i64 a1)),.c (.str a2)] [] (bX (F18 K a0 a1 a2)) (fun r=>.c (.val (.int .i64 r))) (fun r=>[]):=by
 refine bV.it Tryz.f18 (fun r=>⟨[sI 6 r],[],[],0⟩) ?_
 unfold F18
 exact Ref.pt (
  .call [] (aO4 _ _ _ _ _) fun r1 =>
  .ret [] _)
def F27 (K:Nat) (a0:cK) (a1:Int) (a2:Bytes):Option ((Int) ⊕ (Int)) :=
 ((bX (F56 K a0 a1 a2 6)).bind (fun r1=>(if (decide ((r1:Int)<0))=true then (some (.inl ((-1)))) else (some (.inl ((IntKind.i64.wrap (r1+1))))))))
theorem aXN (K:Nat) (a0:cK) (a1:Int) (a2:Bytes):bV Tryz.prog 27 [.agg (c9.cs a0),.c (.val (.int .i64 a1)),.c (.str a2)] [] (bX (F27 K a0 a1 a2)) (fun r=>.c (.val (.int .i64 r))) (fun r=>[]):=by
 refine bV.it Tryz.f27 (fun r=>⟨[sI 6 r],[],[],0⟩) ?_
 unfold F27
 exact Ref.pt (
  .call [] (aO4 _ _ _ _ _) fun r1 =>
  .ite _ (
   .ret [] _) (
   .ret [] _))
end Go.Proofs.YtdbfbedholdjaaaGreat

namespace Go.Proofs.YtdbfbedholdjaaaGreat
open Go Go.Proofs Go.Dl
variable [dO]
set_option maxRecDepth 100000
set_option maxHeartbeats 4000000
def F92 (K:Nat) (a0:iR) (a1:Bytes):Option ((Bool) ⊕ (Bool)) :=
 (some (.inl ((a0.cD == a1))))
theorem aXO (K:Nat) (a0:iR) (a1:Bytes):bV Tryz.prog 92 [.agg (gW.cs a0),.c (E9.ep a1 0)] [] (bX (F92 K a0 a1)) (fun r=>.c (.val (.bool r))) (fun r=>[]):=by
 refine bV.it Tryz.f92 (fun r=>⟨[sB 3 r],[],[],0⟩) ?_
 unfold F92
 exact Ref.pt (
  .ret [] _)
def aC6 (K:Nat) (a0:(List iR)) (aAm:Bytes):Option ((Int) ⊕ (Int)) :=
 (bT (bQ ((iter K (fun (iA:Int)=>(bR (decide ((iA:Int)<(Int.ofNat a0.length))) (fun (uS:Bool)=>(if uS=true then (bT (bQ (bY [cP iA a0.length] ((bX (F92 K (a0.getD (iA:Int).toNat default) aAm)).bind (fun r29=>(if r29=true then (some (.inl (Sum.inr (Sum.inr (iA))))) else (some (.inr ()))))))) (fun (jG:Unit)=>(some (.inr ((IntKind.i64.wrap (iA+1))))))) else (some (.inl (Sum.inl ()))))))) (0)).map .inl)) (fun (tQ:Unit)=>(some (.inl ((-1))))))
theorem aMs (K:Nat) (a0:(List iR)) (aAm:Bytes):bV Tryz.prog 91 [.c (gW.tree a0),.c (.func (.func 92) 1 (fun i=>([E9.ep aAm 0]:List C).getD i .bot))] [] (bX (aC6 K a0 aAm)) (fun r=>.c (.val (.int .i64 r))) (fun r=>[]):=by
 refine bV.it Tryz.f91 (fun r=>⟨[sI 4 r],[],[],0⟩) ?_
 unfold aC6
 exact Ref.pt (
  .bk 0 (fun tQ=>⟨[],[],[],0⟩) (
   .lp [] (fun iA=>⟨[(0,.c (gW.tree a0)),(1,.c (.func (.func 92) 1 (fun i=>([E9.ep aAm 0]:List C).getD i .bot))),sI 7 (Int.ofNat a0.length),sI 8 iA],[],[],0⟩) fun iA =>
   .lt _ fun uS =>
   .ite _ (
    .bk 1 (fun jG=>⟨[(0,.c (gW.tree a0)),(1,.c (.func (.func 92) 1 (fun i=>([E9.ep aAm 0]:List C).getD i .bot))),sI 7 (Int.ofNat a0.length),sI 8 iA],[],[],0⟩) (
     .ck _ <|
     .call [] (aXO _ _ _) fun r29 =>
     .ite _ (
      .ret [] _) (
      .nil [] _)) fun jG =>
    .nil [] _) (
    .ret [] _)) fun tQ =>
  .ret [] _)
def F42 (K:Nat) (a0:cK) (a1:Bytes):Option ((Int) ⊕ (Int)) :=
 ((bX (aC6 K a0.bP a1)).bind (fun r1=>(some (.inl (r1)))))
theorem aFR (K:Nat) (a0:cK) (a1:Bytes):bV Tryz.prog 42 [.agg (c9.cs a0),.c (.str a1)] [] (bX (F42 K a0 a1)) (fun r=>.c (.val (.int .i64 r))) (fun r=>[]):=by
 refine bV.it Tryz.f42 (fun r=>⟨[sI 4 r],[],[],0⟩) ?_
 unfold F42
 exact Ref.pt (
  .fz 1 3 1 <|
  .call [] (aMs _ _ _) fun r1 =>
  .ret [] _)
def F93 (K:Nat) (a0:(List Int)) (a1:Int):Option ((Int) ⊕ (Int)) :=
 (bT (bQ ((iter K (fun (iA:Int)=>(bR (decide ((iA:Int)<(Int.ofNat a0.length))) (fun (uS:Bool)=>(if uS=true then (bT (bQ (bY [cP iA a0.length] (bR ((a1:Int) == (a0.getD (iA:Int).toNat default)) (fun (gY:Bool)=>(if gY=true then (some (.inl (Sum.inr (Sum.inr (iA))))) else (some (.inr ()))))))) (fun (jG:Unit)=>(some (.inr ((IntKind.i64.wrap (iA+1))))))) else (some (.inl (Sum.inl ()))))))) (0)).map .inl)) (fun (tQ:Unit)=>(some (.inl ((-1))))))
theorem aXP (K:Nat) (a0:(List Int)) (a1:Int):bV Tryz.prog 93 [.c (E3.tree a0),.c (.val (.int .i64 a1))] [] (bX (F93 K a0 a1)) (fun r=>.c (.val (.int .i64 r))) (fun r=>[]):=by
 refine bV.it Tryz.f93 (fun r=>⟨[sI 4 r],[],[],0⟩) ?_
 unfold F93
 exact Ref.pt (
  .bk 0 (fun tQ=>⟨[],[],[],0⟩) (
   .lp [] (fun iA=>⟨[(0,.c (E3.tree a0)),sI 1 a1,sI 7 (Int.ofNat a0.length),sI 8 iA],[],[],0⟩) fun iA =>
   .lt _ fun uS =>
   .ite _ (
    .bk 1 (fun jG=>⟨[(0,.c (E3.tree a0)),sI 1 a1,sI 7 (Int.ofNat a0.length),sI 8 iA],[],[],0⟩) (
     .ck _ <|
     .lt _ fun gY =>
     .ite _ (
      .ret [] _) (
      .nil [] _)) fun jG =>
    .nil [] _) (
    .ret [] _)) fun tQ =>
  .ret [] _)
def F46 (K:Nat) (a0:(List Int)) (a1:Int):Option ((Bool) ⊕ (Bool)) :=
 ((bX (F93 K a0 a1)).bind (fun r1=>(some (.inl ((decide ((r1:Int) ≥ 0)))))))
theorem aO5 (K:Nat) (a0:(List Int)) (a1:Int):bV Tryz.prog 46 [.c (E3.tree a0),.c (.val (.int .i64 a1))] [] (bX (F46 K a0 a1)) (fun r=>.c (.val (.bool r))) (fun r=>[]):=by
 refine bV.it Tryz.f46 (fun r=>⟨[sB 4 r],[],[],0⟩) ?_
 unfold F46
 exact Ref.pt (
  .call [] (aXP _ _ _) fun r1 =>
  .ret [] _)
def F10 (K:Nat) (a0:cK) (a1:Int):Option (((List Int)) ⊕ ((List Int))) :=
 (bT (bQ ((iter K (fun (kJ:Int × (List Int))=>((bX (F45 K a0 kJ.1)).bind (fun oJ=>((cE ((oJ:Int) == 2) (bX (F46 K kJ.2 kJ.1)) default).bind (fun r44=>(if (((oJ:Int) == 2) && (!r44))=true then (bT (bQ (bY [room ((kJ.2.length+([kJ.1].length)) * 8)] (bY [cP kJ.1 a0.bP.length] (bR ((a0.bP.getD (kJ.1:Int).toNat default).gF) (fun (x48:Bytes)=>((cE true (bX (F42 K a0 x48)) default).bind (fun r49=>(some (.inr (r49,(kJ.2++[kJ.1]))))))))))) (fun (u47:Int × (List Int))=>(some (.inr (u47.1,u47.2))))) else (some (.inl (Sum.inl (kJ.2)))))))))) (a1,[])).map .inl)) (fun (u25:(List Int))=>(some (.inl (u25)))))
theorem aBV (K:Nat) (a0:cK) (a1:Int):bV Tryz.prog 10 [.agg (c9.cs a0),.c (.val (.int .i64 a1))] [] (bX (F10 K a0 a1)) (fun r=>.c (E3.tree r)) (fun r=>[]):=by
 refine bV.it Tryz.f10 (fun r=>⟨[(4,.c (E3.tree r))],[],[],0⟩) ?_
 unfold F10
 exact Ref.pt (
  .bk 0 (fun u25=>⟨[(5,.c (.own 0 u25.length))],[E3.row u25],[],0⟩) (
   .ad 1 0 5 E3.ty E3.w (E3.at []) <|
   .lp [0,1] (fun kJ=>⟨[sI 1 kJ.1,sP 2 0 0 0,(5,.c (.own 1 kJ.2.length))],[.cells (c9.cs a0),E3.row kJ.2],[],0⟩) fun kJ =>
   .call [] (aEU _ _ _) fun oJ =>
   .look (default:Bool) _ [1] (aO5 K kJ.2 kJ.1) (fun _=>rfl) fun r44 =>
   .ite _ (
    .bk 1 (fun u47=>⟨[sI 1 u47.1,sP 2 0 0 0,(5,.c (.own 1 u47.2.length))],[.cells (c9.cs a0),E3.row u47.2],[],0⟩) (
     .ob 3 2 2 (El.b9 E3 [kJ.1] rfl rfl) <|
     .ck _ <|
     .ap 3 1 3 19 E3 kJ.2 [kJ.1] <|
     .ex [1,3] <|
     .tx [] <|
     .hO [0,2,4,5,6] _ <|
     .lt _ fun x48 =>
     .dQ 7 (default:Int) _ [] (aFR K a0 x48) (fun _=>rfl) fun r49 =>
     .ex [8] <|
     .nil [0,3] _) fun u47 =>
    .nil [0,1] _) (
    .ret [1] _)) fun u25 =>
  .fz 5 0 0 <|
  .ret [] _)
def aOa (K:Nat) (a0:cK) (a1:Int):Option (((List Int)) ⊕ ((List Int))) :=
 ((bX (F10 K a0 a1)).bind (fun r1=>(bT (bQ ((iter K (fun (oL:(List Int) × Int)=>(bR (decide ((oL.2:Int)<(Int.ofNat r1.length))) (fun (a1M:Bool)=>(if a1M=true then (bT (bQ (bY [cP oL.2 r1.length] (bY [cP (r1.getD (oL.2:Int).toNat default) a0.bP.length] (bR ((a0.bP.getD ((r1.getD (oL.2:Int).toNat default):Int).toNat default).cL) (fun (aO6:(List Bytes))=>(bR (Int.ofNat ((a0.bP.getD ((r1.getD (oL.2:Int).toNat default):Int).toNat default).cL).length) (fun (aTz:Int)=>(bT (bQ ((iter K (fun (tV:(List Int) × Int)=>(if (decide ((tV.2:Int)<aTz))=true then (bT (bQ (bY [cP tV.2 aO6.length] ((bX (F42 K a0 (aO6.getD (tV.2:Int).toNat default))).bind (fun aHj=>((bX (F45 K a0 aHj)).bind (fun aXQ=>((cE ((aXQ:Int) == 1) (bX (F46 K tV.1 aHj)) default).bind (fun a1N=>(if (((aXQ:Int) == 1) && (!a1N))=true then (bY [room ((tV.1.length+([aHj].length)) * 8)] (some (.inr ((tV.1++[aHj]))))) else (some (.inr (tV.1)))))))))))) (fun (aO7:(List Int))=>(some (.inr (aO7,(IntKind.i64.wrap (tV.2+1))))))) else (some (.inl (Sum.inl (tV.1)))))) (oL.1,0)).map .inl)) (fun (aO8:(List Int))=>(some (.inr (aO8)))))))))))) (fun (aO9:(List Int))=>(some (.inr (aO9,(IntKind.i64.wrap (oL.2+1))))))) else (some (.inl (Sum.inl (oL.1)))))))) ([],0)).map .inl)) (fun (aG5:(List Int))=>(some (.inl (aG5)))))))
theorem aTA (K:Nat) (a0:cK) (a1:Int):bV Tryz.prog 88 [.agg (c9.cs a0),.c (.val (.int .i64 a1))] [] (bX (aOa K a0 a1)) (fun r=>.c (.own 0 r.length)) (fun r=>[E3.row r]):=by
 refine bV.it Tryz.f88 (fun r=>⟨[(4,.c (.own 0 r.length))],[E3.row r],[],0⟩) ?_
 unfold aOa
 exact Ref.pt (
  .call [] (aBV _ _ _) fun r1 =>
  .bk 0 (fun aG5=>⟨[(5,.c (.own 0 aG5.length))],[E3.row aG5],[],0⟩) (
   .ad 2 0 5 E3.ty E3.w (E3.at []) <|
   .lp [0,1] (fun oL=>⟨[sP 2 0 0 0,(5,.c (.own 1 oL.1.length)),(13,.c (E3.tree r1)),sI 14 (Int.ofNat r1.length),sI 15 oL.2],[.cells (c9.cs a0),E3.row oL.1],[],0⟩) fun oL =>
   .lt _ fun a1M =>
   .ite _ (
    .bk 1 (fun aO9=>⟨[sP 2 0 0 0,(5,.c (.own 1 aO9.length)),(13,.c (E3.tree r1)),sI 14 (Int.ofNat r1.length),sI 15 oL.2],[.cells (c9.cs a0),E3.row aO9],[],0⟩) (
     .ck _ <|
     .ck _ <|
     .lt _ fun aO6 =>
     .lt _ fun aTz =>
     .bk 2 (fun aO8=>⟨[sP 2 0 0 0,(5,.c (.own 1 aO8.length)),(13,.c (E3.tree r1)),sI 14 (Int.ofNat r1.length),sI 15 oL.2],[.cells (c9.cs a0),E3.row aO8],[],0⟩) (
      .lp [0,1] (fun tV=>⟨[sP 2 0 0 0,(5,.c (.own 1 tV.1.length)),(13,.c (E3.tree r1)),sI 14 (Int.ofNat r1.length),sI 15 oL.2,(24,.c (E9.tree aO6)),sI 25 aTz,sI 26 tV.2],[.cells (c9.cs a0),E3.row tV.1],[],0⟩) fun tV =>
      .ite _ (
       .bk 3 (fun aO7=>⟨[sP 2 0 0 0,(5,.c (.own 1 aO7.length)),(13,.c (E3.tree r1)),sI 14 (Int.ofNat r1.length),sI 15 oL.2,(24,.c (E9.tree aO6)),sI 25 aTz,sI 26 tV.2],[.cells (c9.cs a0),E3.row aO7],[],0⟩) (
        .ck _ <|
        .call [] (aFR _ _ _) fun aHj =>
        .call [] (aEU _ _ _) fun aXQ =>
        .look (default:Bool) _ [1] (aO5 K tV.1 aHj) (fun _=>rfl) fun a1N =>
        .ite _ (
         .ob 10 2 2 (El.b9 E3 [aHj] rfl rfl) <|
         .ck _ <|
         .ap 10 1 3 46 E3 tV.1 [aHj] <|
         .nil [0,3] _) (
         .nil [0,1] _)) fun aO7 =>
       .nil [0,1] _) (
       .ret [0,1] _)) fun aO8 =>
     .nil [0,1] _) fun aO9 =>
    .nil [0,1] _) (
    .ret [1] _)) fun aG5 =>
  .ret [0] _)
def aTB (K:Nat) (a0:hU) (a1:Bytes):Option ((Bool) ⊕ (Bool)) :=
 (some (.inl ((a0.cD == a1))))
theorem aTC (K:Nat) (a0:hU) (a1:Bytes):bV Tryz.prog 129 [.agg (jO.cs a0),.c (E9.ep a1 0)] [] (bX (aTB K a0 a1)) (fun r=>.c (.val (.bool r))) (fun r=>[]):=by
 refine bV.it Tryz.f129 (fun r=>⟨[sB 3 r],[],[],0⟩) ?_
 unfold aTB
 exact Ref.pt (
  .ret [] _)
def tW (K:Nat) (a0:(List hU)) (aAm:Bytes):Option ((Int) ⊕ (Int)) :=
 (bT (bQ ((iter K (fun (iA:Int)=>(bR (decide ((iA:Int)<(Int.ofNat a0.length))) (fun (uS:Bool)=>(if uS=true then (bT (bQ (bY [cP iA a0.length] ((bX (aTB K (a0.getD (iA:Int).toNat default) aAm)).bind (fun r29=>(if r29=true then (some (.inl (Sum.inr (Sum.inr (iA))))) else (some (.inr ()))))))) (fun (jG:Unit)=>(some (.inr ((IntKind.i64.wrap (iA+1))))))) else (some (.inl (Sum.inl ()))))))) (0)).map .inl)) (fun (tQ:Unit)=>(some (.inl ((-1))))))
theorem aHk (K:Nat) (a0:(List hU)) (aAm:Bytes):bV Tryz.prog 128 [.c (jO.tree a0),.c (.func (.func 129) 1 (fun i=>([E9.ep aAm 0]:List C).getD i .bot))] [] (bX (tW K a0 aAm)) (fun r=>.c (.val (.int .i64 r))) (fun r=>[]):=by
 refine bV.it Tryz.f128 (fun r=>⟨[sI 4 r],[],[],0⟩) ?_
 unfold tW
 exact Ref.pt (
  .bk 0 (fun tQ=>⟨[],[],[],0⟩) (
   .lp [] (fun iA=>⟨[(0,.c (jO.tree a0)),(1,.c (.func (.func 129) 1 (fun i=>([E9.ep aAm 0]:List C).getD i .bot))),sI 7 (Int.ofNat a0.length),sI 8 iA],[],[],0⟩) fun iA =>
   .lt _ fun uS =>
   .ite _ (
    .bk 1 (fun jG=>⟨[(0,.c (jO.tree a0)),(1,.c (.func (.func 129) 1 (fun i=>([E9.ep aAm 0]:List C).getD i .bot))),sI 7 (Int.ofNat a0.length),sI 8 iA],[],[],0⟩) (
     .ck _ <|
     .call [] (aTC _ _ _) fun r29 =>
     .ite _ (
      .ret [] _) (
      .nil [] _)) fun jG =>
    .nil [] _) (
    .ret [] _)) fun tQ =>
  .ret [] _)
def F87 (K:Nat) (a0:cK) (a1:Int) (a2:Bytes):Option ((dS × Bool) ⊕ (dS × Bool)) :=
 ((bX (F10 K a0 a1)).bind (fun r1=>((bX (F45 K a0 a1)).bind (fun r2=>(bT (if ((r2:Int) == 1)=true then (some (.inr ([a1]))) else (some (.inr (r1)))) (fun (u3:(List Int))=>(bT (bQ ((iter K (fun (wK:Int)=>(bR (decide ((wK:Int)<(Int.ofNat u3.length))) (fun (x39:Bool)=>(if x39=true then (bT (bQ (bY [cP wK u3.length] (bY [cP (u3.getD (wK:Int).toNat default) a0.bP.length] (bR ((a0.bP.getD ((u3.getD (wK:Int).toNat default):Int).toNat default).bS) (fun (x43:(List hU))=>((bX (tW K x43 a2)).bind (fun r44=>(if (decide ((r44:Int) ≥ 0))=true then (some (.inl (Sum.inr (Sum.inr ((⟨(u3.getD (wK:Int).toNat default),r44⟩:dS),true))))) else (some (.inr ())))))))))) (fun (u42:Unit)=>(some (.inr ((IntKind.i64.wrap (wK+1))))))) else (some (.inl (Sum.inl ()))))))) (0)).map .inl)) (fun (u24:Unit)=>(some (.inl ((⟨0,0⟩:dS),false)))))))))))
theorem aPa (K:Nat) (a0:cK) (a1:Int) (a2:Bytes):bV Tryz.prog 87 [.agg (c9.cs a0),.c (.val (.int .i64 a1)),.c (.str a2)] [] (bX (F87 K a0 a1 a2)) (fun r=>.jW [.agg (dY.cs r.1),.c (.val (.bool r.2))]) (fun r=>[.cells (dY.cs r.1)]):=by
 refine bV.it Tryz.f87 (fun r=>⟨[sP 6 0 0 0,sB 7 r.2],[.cells (dY.cs r.1)],[],0⟩) ?_
 unfold F87
 exact Ref.pt (
  .call [] (aBV _ _ _) fun r1 =>
  .call [] (aEU _ _ _) fun r2 =>
  .jn (fun u3=>⟨[sP 3 0 0 0,sP 5 1 0 0,sP 6 2 0 0,(8,.c (E3.tree u3))],[.cells (c9.cs a0),.cells [.str a2],.cells [iC 0,iC 0]],[],0⟩) (
   .ite _ (
    .ob 3 1 3 (El.b9 E3 [a1] rfl rfl) <|
    .fz 3 0 3 <|
    .nil [0,1,2] _) (
    .nil [0,1,2] _)) fun u3 =>
  .bk 0 (fun u24=>⟨[sP 6 0 0 0],[.cells [iC 0,iC 0]],[],0⟩) (
   .fz 4 0 1 <|
   .lp [0,2] (fun wK=>⟨[sP 3 0 0 0,(5,.c (E9.ep a2 0)),sP 6 1 0 0,(21,.c (E3.tree u3)),sI 22 (Int.ofNat u3.length),sI 23 wK],[.cells (c9.cs a0),.cells [iC 0,iC 0]],[],0⟩) fun wK =>
   .lt _ fun x39 =>
   .ite _ (
    .bk 1 (fun u42=>⟨[sP 3 0 0 0,(5,.c (E9.ep a2 0)),sP 6 1 0 0,(21,.c (E3.tree u3)),sI 22 (Int.ofNat u3.length),sI 23 wK],[.cells (c9.cs a0),.cells [iC 0,iC 0]],[],0⟩) (
     .ck _ <|
     .ck _ <|
     .lt _ fun x43 =>
     .call [] (aHk _ _ _) fun r44 =>
     .ite _ (
      .ret [1] _) (
      .nil [0,1] _)) fun u42 =>
    .nil [0,1] _) (
    .ret [1] _)) fun u24 =>
  .ret [0] _)
def F90 (K:Nat) (a0:cK) (a1:Int) (a2:Bytes):Option ((Int) ⊕ (Int)) :=
 ((bX (F87 K a0 a1 a2)).bind (fun r1=>(if (!r1.2)=true then (some (.inl ((-1)))) else ((bX (F19 K a0 r1.1)).bind (fun r2=>(some (.inl (r2))))))))
theorem aXR (K:Nat) (a0:cK) (a1:Int) (a2:Bytes):bV Tryz.prog 90 [.agg (c9.cs a0),.c (.val (.int .i64 a1)),.c (.str a2)] [] (bX (F90 K a0 a1 a2)) (fun r=>.c (.val (.int .i64 r))) (fun r=>[]):=by
 refine bV.it Tryz.f90 (fun r=>⟨[sI 6 r],[],[],0⟩) ?_
 unfold F90
 exact Ref.pt (
  .call [] (aPa _ _ _ _) fun r1 =>
  .ite _ (
   .ret [] _) (
   .call [] (aC0 _ _ _) fun r2 =>
   .ret [] _))
end Go.Proofs.YtdbfbedholdjaaaGreat
