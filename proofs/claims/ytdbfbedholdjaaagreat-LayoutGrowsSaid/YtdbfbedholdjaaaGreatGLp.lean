/- No conditions. -/
import Derived.Test.YtdbfbedholdjaaaGreatGLx
import Derived.Test.YtdbfbedholdjaaaGreatProg
set_option linter.unusedVariables false
set_option linter.unusedSimpArgs false
set_option linter.unusedSectionVars false
namespace Go.Proofs.YtdbfbedholdjaaaGreat
open Go Go.Proofs Go.Dl
variable [dK]
set_option maxRecDepth 100000
set_option maxHeartbeats 4000000
def F73 (K:Nat) (a0:cC) (a1:Bytes):Option ((Bool) ⊕ (Bool)) :=
 (bO (((a0.iS:Int) != 0) || (decide ((a0.qJ:Int) ≥ (Int.ofNat a0.ft.length)))) (fun (x1:Bool)=>(if x1=true then (some (.inl (false))) else (bW [cY a0.qJ a0.ft.length] (bO ((((a0.ft.getD (a0.qJ:Int).toNat default).aCG) == a1) && (((((a0.ft.getD (a0.qJ:Int).toNat default).bR):Int) == 2) || ((((a0.ft.getD (a0.qJ:Int).toNat default).bR):Int) == 4))) (fun (x3:Bool)=>(some (.inl (x3)))))))))
theorem jZ (K:Nat) (a0:cC) (a1:Bytes):bS Tryz.prog 73 [.c (cV.ep a0 0),.c (.str a1)] [] (bV (F73 K a0 a1)) (fun r=>.c (.val (.bool r))) (fun r=>[]):=by
 refine bS.it Tryz.f73 (fun r=>⟨[sB 4 r],[],[],0⟩) ?_
 unfold F73
 exact Ref.pt (
  .ex [0,1,2] <|
  .tx [] <|
  .ex [3,4,5,6,7,8,9,10,11,12,13,14,15,16] <|
  .lt _ fun x1 =>
  .ite _ (
   .ret [] _) (
   .ex [0,1,2,4,5,6] <|
   .tx [11] <|
   .iU [3,7,8,9] _ <|
   .all [1,32,5] (rg (cd (bd Tryz.f73) [1,1,0])) [true,true,true,true,true,true,true,true,true,true,false,false] (hl []) ⟨[sS 1 a1,sP 5 0 0 0],[oK.o (a0.ft.getD (a0.qJ:Int).toNat default)],[],0⟩ [.s 5] <|
   .lt _ fun x3 =>
   .ret [] _))
def F75 (K:Nat) (a0:cC):Option ((Int × cC) ⊕ (Int × cC)) :=
 (bO (decide ((a0.qJ:Int)<(Int.ofNat a0.ft.length))) (fun (x1:Bool)=>(if x1=true then (bW [cY a0.qJ a0.ft.length] (bO ((a0.ft.getD (a0.qJ:Int).toNat default).fAt) (fun (x2:Int)=>(some (.inl (x2,a0)))))) else (some (.inl (a0.aGR,a0))))))
theorem aOC (K:Nat) (a0:cC):bS Tryz.prog 75 [.c (.ptr 0 0 0)] [cV.o a0] (bV (F75 K a0)) (fun r=>.c (.val (.int .i64 r.1))) (fun r=>[cV.o r.2]):=by
 refine bS.it Tryz.f75 (fun r=>⟨[sI 2 r.1],[cV.o r.2],[],1⟩) ?_
 unfold F75
 exact Ref.pt (
  .ex [0,1,2,4,5,6] <|
  .tx [] <|
  .ex [3,7,8,9] <|
  .lt _ fun x1 =>
  .ite _ (
   .ex [0,1,2,4,5,6] <|
   .tx [] <|
   .iU [3,7,8,9,10,11] _ <|
   .lt _ fun x2 =>
   .ret [0] _) (
   .ret [0] _))
def yB (K:Nat) (a0:cC) (a1:Int):Option ((cC) ⊕ (cC)) :=
 (if ((a0.iS:Int) == 0)=true then ((bV (F75 K a0)).bind (fun r1=>(some (.inr ((⟨r1.2.ft,(Int.ofNat r1.2.ft.length),r1.2.aGR,a1,r1.1⟩:cC)))))) else (some (.inr (a0))))
theorem mM (K:Nat) (a0:cC) (a1:Int):bS Tryz.prog 107 [.c (.ptr 0 0 0),.c (.val (.int .i64 a1))] [cV.o a0] (bV (yB K a0 a1)) (fun r=>.kC []) (fun r=>[cV.o r]):=by
 refine bS.it Tryz.f107 (fun r=>⟨[],[cV.o r],[],1⟩) ?_
 unfold yB
 exact Ref.pt (
  .ite _ (
   .call [0] (aOC _ _) fun r1 =>
   .nil [0] _) (
   .nil [0] _))
def F74 (K:Nat) (a0:cC) (a1:Int) (a2:Int):Option ((cC) ⊕ (cC)) :=
 (if (decide ((a1:Int) ≥ a2))=true then ((bV (yB K a0 5)).bind (fun r1=>(some (.inr (r1))))) else (some (.inr (a0))))
theorem oL (K:Nat) (a0:cC) (a1:Int) (a2:Int):bS Tryz.prog 74 [.c (.ptr 0 0 0),.c (.val (.int .i64 a1)),.c (.val (.int .i64 a2))] [cV.o a0] (bV (F74 K a0 a1 a2)) (fun r=>.kC []) (fun r=>[cV.o r]):=by
 refine bS.it Tryz.f74 (fun r=>⟨[],[cV.o r],[],1⟩) ?_
 unfold F74
 exact Ref.pt (
  .ite _ (
   .call [0] (mM _ _ _) fun r1 =>
   .nil [0] _) (
   .nil [0] _))
def fS (K:Nat) (a0:cC) (a1:Bytes):Option ((Bool × cC) ⊕ (Bool × cC)) :=
 ((cF true (bV (F73 K a0 a1)) default).bind (fun r1=>(if r1=true then (some (.inl (true,(⟨a0.ft,(IntKind.i64.wrap (a0.qJ+1)),a0.aGR,a0.iS,a0.aGS⟩:cC)))) else (some (.inl (false,a0))))))
theorem dG (K:Nat) (a0:cC) (a1:Bytes):bS Tryz.prog 108 [.c (.ptr 0 0 0),.c (.str a1)] [cV.o a0] (bV (fS K a0 a1)) (fun r=>.c (.val (.bool r.1))) (fun r=>[cV.o r.2]):=by
 refine bS.it Tryz.f108 (fun r=>⟨[sB 4 r.1],[cV.o r.2],[],1⟩) ?_
 unfold fS
 exact Ref.pt (
  .look (default:Bool) _ [0] (jZ K a0 a1) (fun _=>rfl) fun r1 =>
  .ite _ (
   .ret [0] _) (
   .ret [0] _))
def rW (K:Nat) (a0:cC) (a1:Int):Option ((Bool) ⊕ (Bool)) :=
 (bW [!(((a0.iS:Int) == 0) && (decide ((a0.qJ:Int)<(Int.ofNat a0.ft.length)))) || cY a0.qJ a0.ft.length] (bO ((((a0.iS:Int) == 0) && (decide ((a0.qJ:Int)<(Int.ofNat a0.ft.length)))) && ((((a0.ft.getD (a0.qJ:Int).toNat default).bR):Int) == a1)) (fun (x1:Bool)=>(some (.inl (x1))))))
theorem j8 (K:Nat) (a0:cC) (a1:Int):bS Tryz.prog 139 [.c (cV.ep a0 0),.c (.val (.int .i64 a1))] [] (bV (rW K a0 a1)) (fun r=>.c (.val (.bool r))) (fun r=>[]):=by
 refine bS.it Tryz.f139 (fun r=>⟨[sB 4 r],[],[],0⟩) ?_
 unfold rW
 exact Ref.pt (
  .ex [0,1,2] <|
  .tx [] <|
  .iU [3,4,5,6,7,8,9,10,11,12,13,14,15,16,17,18,19,20,21,22,23,24,25,26,27,28,29,30,31,32] _ <|
  .lt _ fun x1 =>
  .ret [] _)
def nJ (K:Nat) (a0:cC):Option ((Bytes × cC) ⊕ (Bytes × cC)) :=
 ((cF true (bV (rW K a0 1)) default).bind (fun r1=>(if (!r1)=true then ((bV (yB K a0 3)).bind (fun r2=>(some (.inl (([]:Bytes),r2))))) else (bW [cY (IntKind.i64.wrap ((IntKind.i64.wrap (a0.qJ+1)) - 1)) a0.ft.length] (bO ((a0.ft.getD ((IntKind.i64.wrap ((IntKind.i64.wrap (a0.qJ+1)) - 1)):Int).toNat default).aCG) (fun (x3:Bytes)=>(some (.inl (x3,(⟨a0.ft,(IntKind.i64.wrap (a0.qJ+1)),a0.aGR,a0.iS,a0.aGS⟩:cC))))))))))
theorem gP (K:Nat) (a0:cC):bS Tryz.prog 111 [.c (.ptr 0 0 0)] [cV.o a0] (bV (nJ K a0)) (fun r=>.c (.str r.1)) (fun r=>[cV.o r.2]):=by
 refine bS.it Tryz.f111 (fun r=>⟨[sS 2 r.1],[cV.o r.2],[],1⟩) ?_
 unfold nJ
 exact Ref.pt (
  .look (default:Bool) _ [0] (j8 K a0 1) (fun _=>rfl) fun r1 =>
  .ite _ (
   .call [0] (mM _ _ _) fun r2 =>
   .ret [0] _) (
   .ex [0,1,2,4,5,6] <|
   .tx [] <|
   .iU [3,7,8,9,10,11,12] _ <|
   .lt _ fun x3 =>
   .ret [0] _))
def fP (K:Nat) (a0:cC) (a1:Bytes):Option ((cC) ⊕ (cC)) :=
 ((bV (fS K a0 a1)).bind (fun r1=>(if (!r1.1)=true then ((bV (yB K r1.2 3)).bind (fun r2=>(some (.inr (r2))))) else (some (.inr (r1.2))))))
theorem dB (K:Nat) (a0:cC) (a1:Bytes):bS Tryz.prog 112 [.c (.ptr 0 0 0),.c (.str a1)] [cV.o a0] (bV (fP K a0 a1)) (fun r=>.kC []) (fun r=>[cV.o r]):=by
 refine bS.it Tryz.f112 (fun r=>⟨[],[cV.o r],[],1⟩) ?_
 unfold fP
 exact Ref.pt (
  .call [0] (dG _ _ _) fun r1 =>
  .ite _ (
   .call [0] (mM _ _ _) fun r2 =>
   .nil [0] _) (
   .nil [0] _))
def aCH (K:Nat) (a0:cC):Option ((Int × cC) ⊕ (Int × cC)) :=
 ((cF true (bV (rW K a0 3)) default).bind (fun r1=>(if (!r1)=true then ((bV (yB K a0 3)).bind (fun r2=>(some (.inl (0,r2))))) else (bW [cY (IntKind.i64.wrap ((IntKind.i64.wrap (a0.qJ+1)) - 1)) a0.ft.length] (bO ((a0.ft.getD ((IntKind.i64.wrap ((IntKind.i64.wrap (a0.qJ+1)) - 1)):Int).toNat default).fN) (fun (x3:Int)=>(some (.inl (x3,(⟨a0.ft,(IntKind.i64.wrap (a0.qJ+1)),a0.aGR,a0.iS,a0.aGS⟩:cC))))))))))
theorem rK (K:Nat) (a0:cC):bS Tryz.prog 115 [.c (.ptr 0 0 0)] [cV.o a0] (bV (aCH K a0)) (fun r=>.c (.val (.int .i64 r.1))) (fun r=>[cV.o r.2]):=by
 refine bS.it Tryz.f115 (fun r=>⟨[sI 2 r.1],[cV.o r.2],[],1⟩) ?_
 unfold aCH
 exact Ref.pt (
  .look (default:Bool) _ [0] (j8 K a0 3) (fun _=>rfl) fun r1 =>
  .ite _ (
   .call [0] (mM _ _ _) fun r2 =>
   .ret [0] _) (
   .ex [0,1,2,4,5,6] <|
   .tx [] <|
   .iU [3,7,8,9,10,11,12] _ <|
   .lt _ fun x3 =>
   .ret [0] _))
def aFp (K:Nat) (a0:cC):Option ((Int × cC) ⊕ (Int × cC)) :=
 ((bV (fS K a0 ([45]:Bytes))).bind (fun r1=>(if r1.1=true then ((bV (aCH K r1.2)).bind (fun r2=>(some (.inl ((IntKind.i64.wrap (0 - r2.1)),r2.2))))) else ((bV (aCH K r1.2)).bind (fun r3=>(some (.inl (r3.1,r3.2))))))))
theorem yC (K:Nat) (a0:cC):bS Tryz.prog 141 [.c (.ptr 0 0 0)] [cV.o a0] (bV (aFp K a0)) (fun r=>.c (.val (.int .i64 r.1))) (fun r=>[cV.o r.2]):=by
 refine bS.it Tryz.f141 (fun r=>⟨[sI 2 r.1],[cV.o r.2],[],1⟩) ?_
 unfold aFp
 exact Ref.pt (
  .call [0] (dG _ _ _) fun r1 =>
  .ite _ (
   .call [0] (rK _ _) fun r2 =>
   .ret [0] _) (
   .call [0] (rK _ _) fun r3 =>
   .ret [0] _))
def aOD (K:Nat) (a0:cC):Option ((Int × cC) ⊕ (Int × cC)) :=
 (bP (bN ((iter K (fun (eS:cC × Int)=>(bO (decide ((eS.2:Int)<(Int.ofNat ([([]:Bytes),([84,79,78]:Bytes),([84,79,70]:Bytes),([84,80]:Bytes),([67,84,85]:Bytes),([67,84,68]:Bytes),([82,95,84,82,73,71]:Bytes),([70,95,84,82,73,71]:Bytes)].length)))) (fun (x38:Bool)=>(if x38=true then (bP (bN (bW [cY eS.2 ([([]:Bytes),([84,79,78]:Bytes),([84,79,70]:Bytes),([84,80]:Bytes),([67,84,85]:Bytes),([67,84,68]:Bytes),([82,95,84,82,73,71]:Bytes),([70,95,84,82,73,71]:Bytes)].length)] (bO ([([]:Bytes),([84,79,78]:Bytes),([84,79,70]:Bytes),([84,80]:Bytes),([67,84,85]:Bytes),([67,84,68]:Bytes),([82,95,84,82,73,71]:Bytes),([70,95,84,82,73,71]:Bytes)].getD ((eS.2:Int).toNat) default) (fun (x42:Bytes)=>((bV (fS K eS.1 x42)).bind (fun oH=>(if oH.1=true then (some (.inl (Sum.inr (Sum.inr (eS.2,oH.2))))) else (some (.inr (oH.2)))))))))) (fun (u41:cC)=>(some (.inr (u41,(IntKind.i64.wrap (eS.2+1))))))) else (some (.inl (Sum.inl (eS.1)))))))) (a0,1)).map .inl)) (fun (dZ:cC)=>(some (.inl (0,dZ)))))
theorem aSi (K:Nat) (a0:cC):bS Tryz.prog 184 [.c (.ptr 0 0 0)] [cV.o a0] (bV (aOD K a0)) (fun r=>.c (.val (.int .i64 r.1))) (fun r=>[cV.o r.2]):=by
 refine bS.it Tryz.f184 (fun r=>⟨[sI 2 r.1],[cV.o r.2],[],1⟩) ?_
 unfold aOD
 exact Ref.pt (
  .ob 1 1 1 (El.cB E9 [([]:Bytes),aOE,aOF,wTP,aOG,aOH,yD,yE] rfl rfl) <|
  .bk 0 (fun dZ=>⟨[],[cV.o dZ],[],1⟩) (
   .lp [0,1] (fun eS=>⟨[sP 0 0 0 0,(3,.c (.own 1 ([([]:Bytes),aOE,aOF,wTP,aOG,aOH,yD,yE].length))),sI 4 eS.2],[cV.o eS.1,E9.row [([]:Bytes),aOE,aOF,wTP,aOG,aOH,yD,yE]],[],1⟩) fun eS =>
   .lt _ fun x38 =>
   .ite _ (
    .bk 1 (fun u41=>⟨[sP 0 0 0 0,(3,.c (.own 1 ([([]:Bytes),aOE,aOF,wTP,aOG,aOH,yD,yE].length))),sI 4 eS.2],[cV.o u41,E9.row [([]:Bytes),aOE,aOF,wTP,aOG,aOH,yD,yE]],[],1⟩) (
     .ck _ <|
     .lt _ fun x42 =>
     .call [0] (dG _ _ _) fun oH =>
     .ite _ (
      .ret [0] _) (
      .nil [0,1] _)) fun u41 =>
    .nil [0,1] _) (
    .ret [0] _)) fun dZ =>
  .ret [0] _)
def aIC (K:Nat) (a0:cC):Option ((fU × cC) ⊕ (fU × cC)) :=
 (bP (bN ((bV (fS K a0 ([73,78,84]:Bytes))).bind (fun r21=>(if r21.1=true then ((bV (fS K r21.2 ([40]:Bytes))).bind (fun r22=>(if r22.1=true then ((bV (aFp K r22.2)).bind (fun r23=>((bV (fP K r23.2 ([46,46]:Bytes))).bind (fun zT=>((bV (aFp K zT)).bind (fun r25=>((bV (fP K r25.2 ([41]:Bytes))).bind (fun r26=>(some (.inr (r26,3,r23.1,r25.1,([]:Bytes)))))))))))) else (some (.inr (r22.2,1,0,0,([]:Bytes))))))) else ((bV (fS K r21.2 ([66,79,79,76]:Bytes))).bind (fun r27=>(if r27.1=true then (some (.inr (r27.2,2,0,0,([]:Bytes)))) else ((bV (fS K r27.2 ([65,82,82,65,89]:Bytes))).bind (fun r28=>(if r28.1=true then ((bV (fP K r28.2 ([91]:Bytes))).bind (fun r29=>((bV (aCH K r29)).bind (fun r30=>((bV (fP K r30.2 ([93]:Bytes))).bind (fun r31=>((bV (fP K r31 ([79,70]:Bytes))).bind (fun r32=>((bV (fP K r32 ([73,78,84]:Bytes))).bind (fun r33=>(some (.inr (r33,4,0,r30.1,([]:Bytes)))))))))))))) else ((bV (fS K r28.2 ([82,69,70,95,84,79]:Bytes))).bind (fun r34=>(if r34.1=true then ((bV (nJ K r34.2)).bind (fun r35=>(some (.inr (r35.2,5,0,0,r35.1))))) else ((cF true (bV (rW K r34.2 1)) default).bind (fun r36=>(if r36=true then ((bV (nJ K r34.2)).bind (fun r37=>(some (.inr (r37.2,6,0,0,r37.1))))) else ((bV (aOD K r34.2)).bind (fun r38=>(if ((r38.1:Int) == 0)=true then ((bV (yB K r38.2 3)).bind (fun r39=>(some (.inr (r39,7,r38.1,0,([]:Bytes)))))) else (some (.inr (r38.2,7,r38.1,0,([]:Bytes))))))))))))))))))))))) (fun (hU:cC × Int × Int × Int × Bytes)=>(some (.inl ((⟨hU.2.1,hU.2.2.1,hU.2.2.2.1,hU.2.2.2.2⟩:fU),hU.1)))))
theorem aFq (K:Nat) (a0:cC):bS Tryz.prog 140 [.c (.ptr 0 0 0)] [cV.o a0] (bV (aIC K a0)) (fun r=>.agg (kD.cs r.1)) (fun r=>[cV.o r.2,.cells (kD.cs r.1)]):=by
 refine bS.it Tryz.f140 (fun r=>⟨[sP 2 1 0 0],[cV.o r.2,.cells (kD.cs r.1)],[],1⟩) ?_
 unfold aIC
 exact Ref.pt (
  .bk 0 (fun hU=>⟨[sP 2 1 0 0,sP 3 2 0 0],[cV.o hU.1,uI,.cells [iC hU.2.1,iC hU.2.2.1,iC hU.2.2.2.1,.str hU.2.2.2.2]],[],1⟩) (
   .call [0] (dG _ _ _) fun r21 =>
   .ite _ (
    .call [0] (dG _ _ _) fun r22 =>
    .ite _ (
     .call [0] (yC _ _) fun r23 =>
     .call [0] (dB _ _ _) fun zT =>
     .call [0] (yC _ _) fun r25 =>
     .call [0] (dB _ _ _) fun r26 =>
     .nil [0,1,2] _) (
     .nil [0,1,2] _)) (
    .call [0] (dG _ _ _) fun r27 =>
    .ite _ (
     .nil [0,1,2] _) (
     .call [0] (dG _ _ _) fun r28 =>
     .ite _ (
      .call [0] (dB _ _ _) fun r29 =>
      .call [0] (rK _ _) fun r30 =>
      .call [0] (dB _ _ _) fun r31 =>
      .call [0] (dB _ _ _) fun r32 =>
      .call [0] (dB _ _ _) fun r33 =>
      .nil [0,1,2] _) (
      .call [0] (dG _ _ _) fun r34 =>
      .ite _ (
       .call [0] (gP _ _) fun r35 =>
       .nil [0,1,2] _) (
       .look (default:Bool) _ [0] (j8 K r34.2 1) (fun _=>rfl) fun r36 =>
       .ite _ (
        .call [0] (gP _ _) fun r37 =>
        .nil [0,1,2] _) (
        .call [0] (aSi _ _) fun r38 =>
        .ite _ (
         .call [0] (mM _ _ _) fun r39 =>
         .nil [0,1,2] _) (
         .nil [0,1,2] _))))))) fun hU =>
  .ret [0,1] _)
def aLy (K:Nat) (a0:cC):Option (((List fE) × cC) ⊕ ((List fE) × cC)) :=
 ((bV (fP K a0 ([40]:Bytes))).bind (fun r1=>((bV (fS K r1 ([41]:Bytes))).bind (fun r2=>(if r2.1=true then (some (.inl ([],r2.2))) else (bP (bN ((iter K (fun (u84:cC × (List fE))=>(if ((u84.1.iS:Int) == 0)=true then (bP (bN ((cF true (bV (rW K u84.1 1)) default).bind (fun aZP=>(bP (if aZP=true then ((bV (F74 K u84.1 (Int.ofNat u84.2.length) 3)).bind (fun aZQ=>(some (.inr (aZQ))))) else (some (.inr (u84.1)))) (fun (aSj:cC)=>((bV (nJ K aSj)).bind (fun aIE=>((bV (fP K aIE.2 ([58]:Bytes))).bind (fun aGT=>((bV (aIC K aGT)).bind (fun aAU=>(bW [room ((u84.2.length+([(⟨aIE.1,aAU.1,0,0,0⟩:fE)].length)) * 80)] ((bV (fS K aAU.2 ([44]:Bytes))).bind (fun aGU=>(if (!aGU.1)=true then ((bV (fP K aGU.2 ([41]:Bytes))).bind (fun aOK=>(some (.inl (Sum.inr (Sum.inl (aOK,(u84.2++[(⟨aIE.1,aAU.1,0,0,0⟩:fE)])))))))) else (some (.inr (aGU.2,(u84.2++[(⟨aIE.1,aAU.1,0,0,0⟩:fE)]))))))))))))))))))) (fun (aIF:cC × (List fE))=>(some (.inr (aIF.1,aIF.2))))) else (some (.inl (Sum.inl (u84.1,u84.2)))))) (r2.2,[])).map .inl)) (fun (u63:cC × (List fE))=>(some (.inl (u63.2,u63.1))))))))))
theorem aJ4 (K:Nat) (a0:cC):bS Tryz.prog 137 [.c (.ptr 0 0 0)] [cV.o a0] (bV (aLy K a0)) (fun r=>.c (eX.tree r.1)) (fun r=>[cV.o r.2]):=by
 refine bS.it Tryz.f137 (fun r=>⟨[(2,.c (eX.tree r.1))],[cV.o r.2],[],1⟩) ?_
 unfold aLy
 exact Ref.pt (
  .call [0] (dB _ _ _) fun r1 =>
  .call [0] (dG _ _ _) fun r2 =>
  .ite _ (
   .sl 4 0 2 (x:=.c (.nil)) (y:=(.c (eX.tree []))) (jR.c (El.cE eX)) <|
   .ret [0] _) (
   .bk 0 (fun u63=>⟨[(3,.c (.own 1 u63.2.length))],[cV.o u63.1,eX.row u63.2],[],1⟩) (
    .ad 3 0 3 eX.ty eX.w (eX.at []) <|
    .lp [0,1] (fun u84=>⟨[sP 0 0 0 0,(3,.c (.own 1 u84.2.length))],[cV.o u84.1,eX.row u84.2],[],1⟩) fun u84 =>
    .ite _ (
     .bk 1 (fun aIF=>⟨[sP 0 0 0 0,(3,.c (.own 1 aIF.2.length))],[cV.o aIF.1,eX.row aIF.2],[],1⟩) (
      .look (default:Bool) _ [0] (j8 K u84.1 1) (fun _=>rfl) fun aZP =>
      .jn (fun aSj=>⟨[sP 0 0 0 0,(3,.c (.own 1 u84.2.length))],[cV.o aSj,eX.row u84.2],[],1⟩) (
       .ite _ (
        .call [0] (oL _ _ _ _) fun aZQ =>
        .nil [0,1] _) (
        .nil [0,1] _)) fun aSj =>
      .call [0] (gP _ _) fun aIE =>
      .call [0] (dB _ _ _) fun aGT =>
      .call [0] (aFq _ _) fun aAU =>
      .ob 11 2 4 (El.cB eX [(⟨aIE.1,aAU.1,0,0,0⟩:fE)] rfl rfl) <|
      .ck _ <|
      .ap 11 1 5 31 eX u84.2 [(⟨aIE.1,aAU.1,0,0,0⟩:fE)] <|
      .call [0] (dG _ _ _) fun aGU =>
      .ite _ (
       .call [0] (dB _ _ _) fun aOK =>
       .ret [0,5] _) (
       .nil [0,5] _)) fun aIF =>
     .nil [0,1] _) (
     .ret [0,1] _)) fun u63 =>
   .fz 14 0 1 <|
   .ret [0] _))
def aLz (K:Nat) (a0:cC):Option ((fU × cC) ⊕ (fU × cC)) :=
 ((bV (fS K a0 ([58]:Bytes))).bind (fun r1=>(if r1.1=true then ((bV (aIC K r1.2)).bind (fun r2=>(some (.inl (r2.1,r2.2))))) else (some (.inl ((⟨0,0,0,([]:Bytes)⟩:fU),r1.2))))))
theorem aJ5 (K:Nat) (a0:cC):bS Tryz.prog 138 [.c (.ptr 0 0 0)] [cV.o a0] (bV (aLz K a0)) (fun r=>.agg (kD.cs r.1)) (fun r=>[cV.o r.2,.cells (kD.cs r.1)]):=by
 refine bS.it Tryz.f138 (fun r=>⟨[sP 2 1 0 0],[cV.o r.2,.cells (kD.cs r.1)],[],1⟩) ?_
 unfold aLz
 exact Ref.pt (
  .call [0] (dG _ _ _) fun r1 =>
  .ite _ (
   .call [0] (aFq _ _) fun r2 =>
   .ret [0,1] _) (
   .ret [0,1] _))
def aOL (K:Nat) (a0:cC):Option ((gX × cC) ⊕ (gX × cC)) :=
 ((bV (nJ K a0)).bind (fun r1=>((bV (fP K r1.2 ([59]:Bytes))).bind (fun r2=>(bP (bN ((iter K (fun (u64:cC × (List iT))=>((cF true (bV (F73 K u64.1 ([77,69,84,72,79,68]:Bytes))) default).bind (fun r80=>(if r80=true then (bP (bN ((bV (F74 K u64.1 (Int.ofNat u64.2.length) 6)).bind (fun r88=>((bV (fP K r88 ([77,69,84,72,79,68]:Bytes))).bind (fun r89=>((bV (nJ K r89)).bind (fun r90=>((bV (aLy K r90.2)).bind (fun r91=>((bV (aLz K r91.2)).bind (fun r92=>((bV (fP K r92.2 ([59]:Bytes))).bind (fun r93=>(bW [room ((u64.2.length+([(⟨r90.1,false,false,false,r91.1,r92.1,[],[]⟩:iT)].length)) * 136)] (some (.inr (r93,(u64.2++[(⟨r90.1,false,false,false,r91.1,r92.1,[],[]⟩:iT)])))))))))))))))))) (fun (lY:cC × (List iT))=>(some (.inr (lY.1,lY.2))))) else (some (.inl (Sum.inl (u64.1,u64.2)))))))) (r2,[])).map .inl)) (fun (l6:cC × (List iT))=>((bV (fP K l6.1 ([69,78,68,95,73,78,84,69,82,70,65,67,69]:Bytes))).bind (fun r94=>(some (.inl ((⟨1,r1.1,([]:Bytes),[],false,false,[],l6.2,[],0,0⟩:gX),r94)))))))))))
theorem aSk (K:Nat) (a0:cC):bS Tryz.prog 109 [.c (.ptr 0 0 0)] [cV.o a0] (bV (aOL K a0)) (fun r=>.agg (gT.cs r.1)) (fun r=>[cV.o r.2,gT.o r.1]):=by
 refine bS.it Tryz.f109 (fun r=>⟨[sP 2 1 0 0],[cV.o r.2,gT.o r.1],[],1⟩) ?_
 unfold aOL
 exact Ref.pt (
  .call [0] (gP _ _) fun r1 =>
  .call [0] (dB _ _ _) fun r2 =>
  .bk 0 (fun l6=>⟨[sP 0 0 0 0,sP 2 1 0 0,sP 3 2 0 0],[cV.o l6.1,oX2,.cells [iC 1,.str r1.1,.str [],.nil,bC false,bC false,.nil,.own 3 l6.2.length,.nil,iC 0,iC 0],j3.row l6.2],[],1⟩) (
   .adc 2 0 2 7 j3.ty j3.w (j3.at []) <|
   .lp [0,1,2,3] (fun u64=>⟨[sP 0 0 0 0,sP 2 1 0 0,sP 3 2 0 0],[cV.o u64.1,oX2,.cells [iC 1,.str r1.1,.str [],.nil,bC false,bC false,.nil,.own 3 u64.2.length,.nil,iC 0,iC 0],j3.row u64.2],[],1⟩) fun u64 =>
   .look (default:Bool) _ [0] (jZ K u64.1 ([77,69,84,72,79,68]:Bytes)) (fun _=>rfl) fun r80 =>
   .ite _ (
    .bk 1 (fun lY=>⟨[sP 0 0 0 0,sP 2 1 0 0,sP 3 2 0 0],[cV.o lY.1,oX2,.cells [iC 1,.str r1.1,.str [],.nil,bC false,bC false,.nil,.own 3 lY.2.length,.nil,iC 0,iC 0],j3.row lY.2],[],1⟩) (
     .call [0] (oL _ _ _ _) fun r88 =>
     .call [0] (dB _ _ _) fun r89 =>
     .call [0] (gP _ _) fun r90 =>
     .call [0] (aJ4 _ _) fun r91 =>
     .call [0] (aJ5 _ _) fun r92 =>
     .call [0] (dB _ _ _) fun r93 =>
     .sk 10 4 32 9 (x:=.nil) (y:=eX.tree []) (El.cE eX) <|
     .sk 10 4 32 10 (x:=.nil) (y:=dO.tree []) (El.cE dO) <|
     .ob 10 3 6 (El.cB j3 [(⟨r90.1,false,false,false,r91.1,r92.1,[],[]⟩:iT)] rfl rfl) <|
     .ck _ <|
     .ap 10 2 7 34 j3 u64.2 [(⟨r90.1,false,false,false,r91.1,r92.1,[],[]⟩:iT)] <|
     .nil [0,1,2,7] _) fun lY =>
    .nil [0,1,2,3] _) (
    .ret [0,1,2,3] _)) fun l6 =>
  .call [0] (dB _ _ _) fun r94 =>
  .ok 12 0 1 3 (x:=.nil) (y:=E9.tree []) (El.cE E9) <|
  .ok 12 0 1 6 (x:=.nil) (y:=eX.tree []) (El.cE eX) <|
  .fz 12 0 3 <|
  .ok 12 0 1 8 (x:=.nil) (y:=dO.tree []) (El.cE dO) <|
  .ret [0,1] _)
def aIG (K:Nat) (a0:cC):Option (((List fE) × cC) ⊕ ((List fE) × cC)) :=
 (bP (bN ((iter K (fun (qK:cC × (List fE))=>((cF true (bV (F73 K qK.1 ([86,65,82]:Bytes))) default).bind (fun aLw=>(if aLw=true then (bP (bN ((bV (F74 K qK.1 (Int.ofNat qK.2.length) 8)).bind (fun aZR=>((bV (fP K aZR ([86,65,82]:Bytes))).bind (fun aZS=>((bV (nJ K aZS)).bind (fun aFs=>((bV (fP K aFs.2 ([58]:Bytes))).bind (fun aZT=>((bV (aIC K aZT)).bind (fun rX=>((bV (fS K rX.2 ([58,61]:Bytes))).bind (fun aSl=>(bP (if aSl.1=true then ((bV (aFp K aSl.2)).bind (fun aWq=>(some (.inr (aWq.2,aWq.1))))) else (some (.inr (aSl.2,0)))) (fun (aCI:cC × Int)=>((bV (fS K aCI.1 ([65,84]:Bytes))).bind (fun aSm=>(bP (if aSm.1=true then ((bV (fS K aSm.2 ([73,78]:Bytes))).bind (fun aSn=>(bP (if (!aSn.1)=true then ((bV (fP K aSn.2 ([79,85,84]:Bytes))).bind (fun aZU=>(some (.inr (aZU,2))))) else (some (.inr (aSn.2,1)))) (fun (aLA:cC × Int)=>((bV (aCH K aLA.1)).bind (fun aWr=>(some (.inr (aWr.2,aLA.2,aWr.1))))))))) else (some (.inr (aSm.2,0,0)))) (fun (yF:cC × Int × Int)=>((bV (fP K yF.1 ([59]:Bytes))).bind (fun aZV=>(bW [room ((qK.2.length+([(⟨aFs.1,rX.1,aCI.2,yF.2.1,yF.2.2⟩:fE)].length)) * 80)] (some (.inr (aZV,(qK.2++[(⟨aFs.1,rX.1,aCI.2,yF.2.1,yF.2.2⟩:fE)])))))))))))))))))))))))))) (fun (aIH:cC × (List fE))=>(some (.inr (aIH.1,aIH.2))))) else (some (.inl (Sum.inl (qK.1,qK.2)))))))) (a0,[])).map .inl)) (fun (aII:cC × (List fE))=>(some (.inl (aII.2,aII.1)))))
theorem aFt (K:Nat) (a0:cC):bS Tryz.prog 113 [.c (.ptr 0 0 0)] [cV.o a0] (bV (aIG K a0)) (fun r=>.c (eX.tree r.1)) (fun r=>[cV.o r.2]):=by
 refine bS.it Tryz.f113 (fun r=>⟨[(2,.c (eX.tree r.1))],[cV.o r.2],[],1⟩) ?_
 unfold aIG
 exact Ref.pt (
  .bk 0 (fun aII=>⟨[(3,.c (.own 1 aII.2.length))],[cV.o aII.1,eX.row aII.2],[],1⟩) (
   .ad 1 0 3 eX.ty eX.w (eX.at []) <|
   .lp [0,1] (fun qK=>⟨[sP 0 0 0 0,(3,.c (.own 1 qK.2.length))],[cV.o qK.1,eX.row qK.2],[],1⟩) fun qK =>
   .look (default:Bool) _ [0] (jZ K qK.1 ([86,65,82]:Bytes)) (fun _=>rfl) fun aLw =>
   .ite _ (
    .bk 1 (fun aIH=>⟨[sP 0 0 0 0,(3,.c (.own 1 aIH.2.length))],[cV.o aIH.1,eX.row aIH.2],[],1⟩) (
     .call [0] (oL _ _ _ _) fun aZR =>
     .call [0] (dB _ _ _) fun aZS =>
     .call [0] (gP _ _) fun aFs =>
     .call [0] (dB _ _ _) fun aZT =>
     .call [0] (aFq _ _) fun rX =>
     .call [0] (dG _ _ _) fun aSl =>
     .jn (fun aCI=>⟨[sP 0 0 0 0,(3,.c (.own 1 qK.2.length)),sP 4 2 0 0],[cV.o aCI.1,eX.row qK.2,.cells [.str aFs.1,iC rX.1.bR,iC rX.1.fLo,iC rX.1.fHi,.str rX.1.cD,iC aCI.2,iC 0,iC 0]],[],1⟩) (
      .ite _ (
       .call [0] (yC _ _) fun aWq =>
       .nil [0,1,2] _) (
       .nil [0,1,2] _)) fun aCI =>
     .call [0] (dG _ _ _) fun aSm =>
     .jn (fun yF=>⟨[sP 0 0 0 0,(3,.c (.own 1 qK.2.length)),sP 4 2 0 0],[cV.o yF.1,eX.row qK.2,.cells [.str aFs.1,iC rX.1.bR,iC rX.1.fLo,iC rX.1.fHi,.str rX.1.cD,iC aCI.2,iC yF.2.1,iC yF.2.2]],[],1⟩) (
      .ite _ (
       .call [0] (dG _ _ _) fun aSn =>
       .jn (fun aLA=>⟨[sP 0 0 0 0,(3,.c (.own 1 qK.2.length)),sP 4 2 0 0],[cV.o aLA.1,eX.row qK.2,.cells [.str aFs.1,iC rX.1.bR,iC rX.1.fLo,iC rX.1.fHi,.str rX.1.cD,iC aCI.2,iC aLA.2,iC 0]],[],1⟩) (
        .ite _ (
         .call [0] (dB _ _ _) fun aZU =>
         .nil [0,1,2] _) (
         .nil [0,1,2] _)) fun aLA =>
       .call [0] (rK _ _) fun aWr =>
       .nil [0,1,2] _) (
       .nil [0,1,2] _)) fun yF =>
     .call [0] (dB _ _ _) fun aZV =>
     .ob 17 2 3 (El.cB eX [(⟨aFs.1,rX.1,aCI.2,yF.2.1,yF.2.2⟩:fE)] rfl rfl) <|
     .ck _ <|
     .ap 17 1 4 43 eX qK.2 [(⟨aFs.1,rX.1,aCI.2,yF.2.1,yF.2.2⟩:fE)] <|
     .nil [0,4] _) fun aIH =>
    .nil [0,1] _) (
    .ret [0,1] _)) fun aII =>
  .fz 18 0 1 <|
  .ret [0] _)
def aLB (K:Nat) (a0:cC):Option ((Bool) ⊕ (Bool)) :=
 (bP (bN ((iter K (fun (eS:Int)=>(bO (decide ((eS:Int)<(Int.ofNat ([([84,72,73,83]:Bytes),([83,85,80,69,82]:Bytes),([73,70]:Bytes),([67,65,83,69]:Bytes),([87,72,73,76,69]:Bytes),([70,79,82]:Bytes),([82,69,84,85,82,78]:Bytes),([69,88,73,84]:Bytes),([83,84,69,80]:Bytes)].length)))) (fun (x38:Bool)=>(if x38=true then (bP (bN (bW [cY eS ([([84,72,73,83]:Bytes),([83,85,80,69,82]:Bytes),([73,70]:Bytes),([67,65,83,69]:Bytes),([87,72,73,76,69]:Bytes),([70,79,82]:Bytes),([82,69,84,85,82,78]:Bytes),([69,88,73,84]:Bytes),([83,84,69,80]:Bytes)].length)] (bO ([([84,72,73,83]:Bytes),([83,85,80,69,82]:Bytes),([73,70]:Bytes),([67,65,83,69]:Bytes),([87,72,73,76,69]:Bytes),([70,79,82]:Bytes),([82,69,84,85,82,78]:Bytes),([69,88,73,84]:Bytes),([83,84,69,80]:Bytes)].getD ((eS:Int).toNat) default) (fun (x42:Bytes)=>((bV (F73 K a0 x42)).bind (fun oH=>(if oH=true then (some (.inl (Sum.inr (Sum.inr (true))))) else (some (.inr ()))))))))) (fun (u41:Unit)=>(some (.inr ((IntKind.i64.wrap (eS+1))))))) else (some (.inl (Sum.inl ()))))))) (0)).map .inl)) (fun (dZ:Unit)=>((bV (rW K a0 1)).bind (fun r44=>(some (.inl (r44)))))))
theorem aJ6 (K:Nat) (a0:cC):bS Tryz.prog 142 [.c (cV.ep a0 0)] [] (bV (aLB K a0)) (fun r=>.c (.val (.bool r))) (fun r=>[]):=by
 refine bS.it Tryz.f142 (fun r=>⟨[sB 2 r],[],[],0⟩) ?_
 unfold aLB
 exact Ref.pt (
  .ob 1 1 0 (El.cB E9 [vA,pU,wIF,aGV,aCJ,aOM,yG,aGW,aGX] rfl rfl) <|
  .bk 0 (fun dZ=>⟨[(0,.c (cV.ep a0 0))],[],[],0⟩) (
   .lp [0] (fun eS=>⟨[(0,.c (cV.ep a0 0)),(3,.c (.own 0 ([vA,pU,wIF,aGV,aCJ,aOM,yG,aGW,aGX].length))),sI 4 eS],[E9.row [vA,pU,wIF,aGV,aCJ,aOM,yG,aGW,aGX]],[],0⟩) fun eS =>
   .lt _ fun x38 =>
   .ite _ (
    .bk 1 (fun u41=>⟨[(0,.c (cV.ep a0 0)),(3,.c (.own 0 ([vA,pU,wIF,aGV,aCJ,aOM,yG,aGW,aGX].length))),sI 4 eS],[E9.row [vA,pU,wIF,aGV,aCJ,aOM,yG,aGW,aGX]],[],0⟩) (
     .ck _ <|
     .lt _ fun x42 =>
     .call [] (jZ _ _ _) fun oH =>
     .ite _ (
      .ret [] _) (
      .nil [0] _)) fun u41 =>
    .nil [0] _) (
    .ret [] _)) fun dZ =>
  .call [] (j8 _ _ _) fun r44 =>
  .ret [] _)
def aIJ (K:Nat) (a0:cC):Option ((Bytes × cC) ⊕ (Bytes × cC)) :=
 ((bV (fP K a0 ([40]:Bytes))).bind (fun r1=>((bV (nJ K r1)).bind (fun r2=>((bV (fP K r2.2 ([41]:Bytes))).bind (fun r3=>(some (.inl (r2.1,r3)))))))))
theorem aFu (K:Nat) (a0:cC):bS Tryz.prog 217 [.c (.ptr 0 0 0)] [cV.o a0] (bV (aIJ K a0)) (fun r=>.c (.str r.1)) (fun r=>[cV.o r.2]):=by
 refine bS.it Tryz.f217 (fun r=>⟨[sS 2 r.1],[cV.o r.2],[],1⟩) ?_
 unfold aIJ
 exact Ref.pt (
  .call [0] (dB _ _ _) fun r1 =>
  .call [0] (gP _ _) fun r2 =>
  .call [0] (dB _ _ _) fun r3 =>
  .ret [0] _)
def aON (K:Nat) (a0:cC):Option ((Int × cC) ⊕ (Int × cC)) :=
 (bP (bN ((iter K (fun (eS:cC × Int)=>(bO (decide ((eS.2:Int)<(Int.ofNat ([([]:Bytes),([43]:Bytes),([45]:Bytes),([42]:Bytes),([47]:Bytes),([77,79,68]:Bytes),([61]:Bytes),([60,62]:Bytes),([60]:Bytes),([60,61]:Bytes),([62]:Bytes),([62,61]:Bytes),([65,78,68]:Bytes),([79,82]:Bytes),([88,79,82]:Bytes)].length)))) (fun (x38:Bool)=>(if x38=true then (bP (bN (bW [cY eS.2 ([([]:Bytes),([43]:Bytes),([45]:Bytes),([42]:Bytes),([47]:Bytes),([77,79,68]:Bytes),([61]:Bytes),([60,62]:Bytes),([60]:Bytes),([60,61]:Bytes),([62]:Bytes),([62,61]:Bytes),([65,78,68]:Bytes),([79,82]:Bytes),([88,79,82]:Bytes)].length)] (bO ([([]:Bytes),([43]:Bytes),([45]:Bytes),([42]:Bytes),([47]:Bytes),([77,79,68]:Bytes),([61]:Bytes),([60,62]:Bytes),([60]:Bytes),([60,61]:Bytes),([62]:Bytes),([62,61]:Bytes),([65,78,68]:Bytes),([79,82]:Bytes),([88,79,82]:Bytes)].getD ((eS.2:Int).toNat) default) (fun (x42:Bytes)=>((bV (fS K eS.1 x42)).bind (fun oH=>(if oH.1=true then (some (.inl (Sum.inr (Sum.inr (eS.2,oH.2))))) else (some (.inr (oH.2)))))))))) (fun (u41:cC)=>(some (.inr (u41,(IntKind.i64.wrap (eS.2+1))))))) else (some (.inl (Sum.inl (eS.1)))))))) (a0,1)).map .inl)) (fun (dZ:cC)=>(some (.inl (0,dZ)))))
theorem aSo (K:Nat) (a0:cC):bS Tryz.prog 214 [.c (.ptr 0 0 0)] [cV.o a0] (bV (aON K a0)) (fun r=>.c (.val (.int .i64 r.1))) (fun r=>[cV.o r.2]):=by
 refine bS.it Tryz.f214 (fun r=>⟨[sI 2 r.1],[cV.o r.2],[],1⟩) ?_
 unfold aON
 exact Ref.pt (
  .ob 1 1 1 (El.cB E9 [([]:Bytes),aOO,z6,aOP,aOQ,aOR,aOS,yH,aOT,yI,aOU,yJ,aOV,wOR,aOW] rfl rfl) <|
  .bk 0 (fun dZ=>⟨[],[cV.o dZ],[],1⟩) (
   .lp [0,1] (fun eS=>⟨[sP 0 0 0 0,(3,.c (.own 1 ([([]:Bytes),aOO,z6,aOP,aOQ,aOR,aOS,yH,aOT,yI,aOU,yJ,aOV,wOR,aOW].length))),sI 4 eS.2],[cV.o eS.1,E9.row [([]:Bytes),aOO,z6,aOP,aOQ,aOR,aOS,yH,aOT,yI,aOU,yJ,aOV,wOR,aOW]],[],1⟩) fun eS =>
   .lt _ fun x38 =>
   .ite _ (
    .bk 1 (fun u41=>⟨[sP 0 0 0 0,(3,.c (.own 1 ([([]:Bytes),aOO,z6,aOP,aOQ,aOR,aOS,yH,aOT,yI,aOU,yJ,aOV,wOR,aOW].length))),sI 4 eS.2],[cV.o u41,E9.row [([]:Bytes),aOO,z6,aOP,aOQ,aOR,aOS,yH,aOT,yI,aOU,yJ,aOV,wOR,aOW]],[],1⟩) (
     .ck _ <|
     .lt _ fun x42 =>
     .call [0] (dG _ _ _) fun oH =>
     .ite _ (
      .ret [0] _) (
      .nil [0,1] _)) fun u41 =>
    .nil [0,1] _) (
    .ret [0] _)) fun dZ =>
  .ret [0] _)
def aIK (K:Nat) (a0:cC):Option ((Bool) ⊕ (Bool)) :=
 ((bV (rW K a0 1)).bind (fun r1=>((cF (!r1) (bV (rW K a0 3)) default).bind (fun r2=>(if (r1 || r2)=true then (some (.inl (true))) else (bP (bN ((iter K (fun (u32:Int)=>(bO (decide ((u32:Int)<(Int.ofNat ([([45]:Bytes),([78,79,84]:Bytes),([84,82,85,69]:Bytes),([70,65,76,83,69]:Bytes),([78,85,76,76]:Bytes),([84,72,73,83]:Bytes),([83,85,80,69,82]:Bytes),([82,69,70]:Bytes),([68,79,78,69]:Bytes),([67,79,85,78,84]:Bytes),([65,83]:Bytes),([40]:Bytes)].length)))) (fun (x40:Bool)=>(if x40=true then (bP (bN (bW [cY u32 ([([45]:Bytes),([78,79,84]:Bytes),([84,82,85,69]:Bytes),([70,65,76,83,69]:Bytes),([78,85,76,76]:Bytes),([84,72,73,83]:Bytes),([83,85,80,69,82]:Bytes),([82,69,70]:Bytes),([68,79,78,69]:Bytes),([67,79,85,78,84]:Bytes),([65,83]:Bytes),([40]:Bytes)].length)] (bO ([([45]:Bytes),([78,79,84]:Bytes),([84,82,85,69]:Bytes),([70,65,76,83,69]:Bytes),([78,85,76,76]:Bytes),([84,72,73,83]:Bytes),([83,85,80,69,82]:Bytes),([82,69,70]:Bytes),([68,79,78,69]:Bytes),([67,79,85,78,84]:Bytes),([65,83]:Bytes),([40]:Bytes)].getD ((u32:Int).toNat) default) (fun (x44:Bytes)=>((bV (F73 K a0 x44)).bind (fun r45=>(if r45=true then (some (.inl (Sum.inr (Sum.inr (true))))) else (some (.inr ()))))))))) (fun (u43:Unit)=>(some (.inr ((IntKind.i64.wrap (u32+1))))))) else (some (.inl (Sum.inl ()))))))) (0)).map .inl)) (fun (u24:Unit)=>(some (.inl (false))))))))))
theorem aFv (K:Nat) (a0:cC):bS Tryz.prog 188 [.c (cV.ep a0 0)] [] (bV (aIK K a0)) (fun r=>.c (.val (.bool r))) (fun r=>[]):=by
 refine bS.it Tryz.f188 (fun r=>⟨[sB 2 r],[],[],0⟩) ?_
 unfold aIK
 exact Ref.pt (
  .call [] (j8 _ _ _) fun r1 =>
  .look (default:Bool) _ [] (j8 K a0 3) (fun _=>rfl) fun r2 =>
  .ite _ (
   .ret [] _) (
   .ob 3 1 0 (El.cB E9 [z6,aOX,aGY,aCK,aGZ,vA,pU,aOY,aG0,aCL,wAS,aOZ] rfl rfl) <|
   .bk 0 (fun u24=>⟨[],[],[],0⟩) (
    .lp [0] (fun u32=>⟨[(0,.c (cV.ep a0 0)),(3,.c (.own 0 ([z6,aOX,aGY,aCK,aGZ,vA,pU,aOY,aG0,aCL,wAS,aOZ].length))),sI 4 u32],[E9.row [z6,aOX,aGY,aCK,aGZ,vA,pU,aOY,aG0,aCL,wAS,aOZ]],[],0⟩) fun u32 =>
    .lt _ fun x40 =>
    .ite _ (
     .bk 1 (fun u43=>⟨[(0,.c (cV.ep a0 0)),(3,.c (.own 0 ([z6,aOX,aGY,aCK,aGZ,vA,pU,aOY,aG0,aCL,wAS,aOZ].length))),sI 4 u32],[E9.row [z6,aOX,aGY,aCK,aGZ,vA,pU,aOY,aG0,aCL,wAS,aOZ]],[],0⟩) (
      .ck _ <|
      .lt _ fun x44 =>
      .call [] (jZ _ _ _) fun r45 =>
      .ite _ (
       .ret [] _) (
       .nil [0] _)) fun u43 =>
     .nil [0] _) (
     .ret [] _)) fun u24 =>
   .ret [] _))
mutual
def oM:(K:Nat)→(cC)→(Int)→Option ((cI × cC) ⊕ (cI × cC))
 | 0,_,_=>none
 | K+1,a0,a1 =>
 ((cF (decide ((a1:Int) > 6)) (bV (aIK K a0)) default).bind (fun r1=>(bP (if ((decide ((a1:Int) > 6)) && r1)=true then ((bV (yB K a0 4)).bind (fun r4=>(some (.inr (r4))))) else (some (.inr (a0)))) (fun (u3:cC)=>((bV (fS K u3 ([45]:Bytes))).bind (fun r5=>(if r5.1=true then ((bV (aFw K r5.2 a1)).bind (fun r6=>(some (.inl ((⟨7,0,([]:Bytes),([]:Bytes),[r6.1]⟩:cI),r6.2))))) else ((bV (fS K r5.2 ([78,79,84]:Bytes))).bind (fun r7=>(if r7.1=true then ((bV (aFw K r7.2 a1)).bind (fun r8=>(some (.inl ((⟨8,0,([]:Bytes),([]:Bytes),[r8.1]⟩:cI),r8.2))))) else ((bV (aFw K r7.2 a1)).bind (fun r9=>((bV (aON K r9.2)).bind (fun jL=>(if ((jL.1:Int) == 0)=true then (some (.inl (r9.1,jL.2))) else ((bV (aFw K jL.2 a1)).bind (fun r11=>(some (.inl ((⟨9,jL.1,([]:Bytes),([]:Bytes),[r9.1,r11.1]⟩:cI),r11.2))))))))))))))))))))
def z7:(K:Nat)→(cC)→(cI)→(Int)→Option ((cI × cC) ⊕ (cI × cC))
 | 0,_,_,_=>none
 | K+1,a0,a1,a2 =>
 ((bV (fP K a0 ([46]:Bytes))).bind (fun r1=>((bV (nJ K r1)).bind (fun r2=>((bV (fP K r2.2 ([40]:Bytes))).bind (fun r3=>((bV (fS K r3 ([41]:Bytes))).bind (fun r4=>(if r4.1=true then (some (.inl ((⟨13,a1.fN,a1.cD,r2.1,[]⟩:cI),r4.2))) else (bP (bN ((iter K (fun (l7:cC × (List cI))=>(if ((l7.1.iS:Int) == 0)=true then (bP (bN ((cF true (bV (aIK K l7.1)) default).bind (fun qI=>(bP (if qI=true then ((bV (F74 K l7.1 (Int.ofNat l7.2.length) 3)).bind (fun uU=>(some (.inr (uU))))) else (some (.inr (l7.1)))) (fun (aSp:cC)=>((bV (oM K aSp (IntKind.i64.wrap (a2+1)))).bind (fun z8=>(bW [room ((l7.2.length+([z8.1].length)) * 72)] ((bV (fS K z8.2 ([44]:Bytes))).bind (fun aIL=>(if (!aIL.1)=true then ((bV (fP K aIL.2 ([41]:Bytes))).bind (fun aO0=>(some (.inl (Sum.inr (Sum.inl (aO0,(l7.2++[z8.1])))))))) else (some (.inr (aIL.2,(l7.2++[z8.1]))))))))))))))) (fun (rY:cC × (List cI))=>(some (.inr (rY.1,rY.2))))) else (some (.inl (Sum.inl (l7.1,l7.2)))))) (r4.2,[])).map .inl)) (fun (u59:cC × (List cI))=>(some (.inl ((⟨13,a1.fN,a1.cD,r2.1,u59.2⟩:cI),u59.1))))))))))))))
def aFw:(K:Nat)→(cC)→(Int)→Option ((cI × cC) ⊕ (cI × cC))
 | 0,_,_=>none
 | K+1,a0,a1 =>
 (bP (bN ((cF true (bV (rW K a0 3)) default).bind (fun r33=>(if r33=true then ((bV (aCH K a0)).bind (fun r34=>(some (.inr (r34.2,1,r34.1,([]:Bytes),([]:Bytes),[]))))) else ((bV (fS K a0 ([84,82,85,69]:Bytes))).bind (fun r35=>(if r35.1=true then (some (.inr (r35.2,2,0,([]:Bytes),([]:Bytes),[]))) else ((bV (fS K r35.2 ([70,65,76,83,69]:Bytes))).bind (fun r36=>(if r36.1=true then (some (.inr (r36.2,3,0,([]:Bytes),([]:Bytes),[]))) else ((bV (fS K r36.2 ([78,85,76,76]:Bytes))).bind (fun r37=>(if r37.1=true then (some (.inr (r37.2,4,0,([]:Bytes),([]:Bytes),[]))) else ((bV (fS K r37.2 ([82,69,70]:Bytes))).bind (fun r38=>(if r38.1=true then ((bV (aIJ K r38.2)).bind (fun r39=>(some (.inr (r39.2,10,0,r39.1,([]:Bytes),[]))))) else ((bV (fS K r38.2 ([68,79,78,69]:Bytes))).bind (fun r40=>(if r40.1=true then ((bV (aIJ K r40.2)).bind (fun r41=>(some (.inr (r41.2,11,0,r41.1,([]:Bytes),[]))))) else ((bV (fS K r40.2 ([67,79,85,78,84]:Bytes))).bind (fun r42=>(if r42.1=true then ((bV (aIJ K r42.2)).bind (fun oH=>(some (.inr (oH.2,12,0,oH.1,([]:Bytes),[]))))) else ((bV (fS K r42.2 ([65,83]:Bytes))).bind (fun r44=>(if r44.1=true then ((bV (nJ K r44.2)).bind (fun r45=>((bV (fP K r45.2 ([40]:Bytes))).bind (fun r46=>((bV (oM K r46 (IntKind.i64.wrap (a1+1)))).bind (fun r47=>((bV (fP K r47.2 ([41]:Bytes))).bind (fun r48=>(some (.inr (r48,14,0,r45.1,([]:Bytes),[r47.1]))))))))))) else ((bV (fS K r44.2 ([40]:Bytes))).bind (fun r49=>(if r49.1=true then ((bV (oM K r49.2 (IntKind.i64.wrap (a1+1)))).bind (fun r50=>((bV (fP K r50.2 ([41]:Bytes))).bind (fun r51=>(some (.inr (r51,r50.1.bR,r50.1.fN,r50.1.cD,r50.1.xS,r50.1.fM))))))) else ((bV (fS K r49.2 ([84,72,73,83]:Bytes))).bind (fun r52=>(if r52.1=true then ((bV (z7 K r52.2 (⟨0,1,([]:Bytes),([]:Bytes),[]⟩:cI) a1)).bind (fun r53=>(some (.inl (Sum.inr (r53.1,r53.2)))))) else ((bV (fS K r52.2 ([83,85,80,69,82]:Bytes))).bind (fun r54=>(if r54.1=true then ((bV (z7 K r54.2 (⟨0,2,([]:Bytes),([]:Bytes),[]⟩:cI) a1)).bind (fun r55=>(some (.inl (Sum.inr (r55.1,r55.2)))))) else ((cF true (bV (rW K r54.2 1)) default).bind (fun r56=>(if r56=true then ((bV (nJ K r54.2)).bind (fun r57=>((cF true (bV (F73 K r57.2 ([46]:Bytes))) default).bind (fun r58=>(if r58=true then ((bV (z7 K r57.2 (⟨5,0,r57.1,([]:Bytes),[]⟩:cI) a1)).bind (fun r59=>(some (.inl (Sum.inr (r59.1,r59.2)))))) else ((bV (fS K r57.2 ([91]:Bytes))).bind (fun r60=>(if r60.1=true then ((bV (oM K r60.2 (IntKind.i64.wrap (a1+1)))).bind (fun r61=>((bV (fP K r61.2 ([93]:Bytes))).bind (fun r62=>(some (.inr (r62,6,0,r57.1,([]:Bytes),[r61.1]))))))) else (some (.inr (r60.2,5,0,r57.1,([]:Bytes),[]))))))))))) else ((bV (yB K r54.2 3)).bind (fun r63=>(some (.inr (r63,0,0,([]:Bytes),([]:Bytes),[])))))))))))))))))))))))))))))))))))))))))) (fun (u32:cC × Int × Int × Bytes × Bytes × (List cI))=>(some (.inl ((⟨u32.2.1,u32.2.2.1,u32.2.2.2.1,u32.2.2.2.2.1,u32.2.2.2.2.2⟩:cI),u32.1)))))
end
theorem aJ7:∀ K:Nat,(∀ (a0:cC),∀ (a1:Int),bS Tryz.prog 187 [.c (.ptr 0 0 0),.c (.val (.int .i64 a1))] [cV.o a0] (bV (oM K a0 a1)) (fun r=>.agg (cL.cs r.1)) (fun r=>[cV.o r.2,cL.o r.1]))∧(∀ (a0:cC),∀ (a1:cI),∀ (a2:Int),bS Tryz.prog 189 [.c (.ptr 0 0 0),.agg [.val (.int .i64 a1.bR),.val (.int .i64 a1.fN),.str a1.cD,.str a1.xS,.nil],.c (.val (.int .i64 a2))] [cV.o a0] (bV (z7 K a0 a1 a2)) (fun r=>.agg (cL.cs r.1)) (fun r=>[cV.o r.2,cL.o r.1]))∧(∀ (a0:cC),∀ (a1:Int),bS Tryz.prog 213 [.c (.ptr 0 0 0),.c (.val (.int .i64 a1))] [cV.o a0] (bV (aFw K a0 a1)) (fun r=>.agg (cL.cs r.1)) (fun r=>[cV.o r.2,cL.o r.1])):=by
 intro K
 induction K with
 | zero=>exact ⟨fun a0 a1=>bS.none (by rw[oM];rfl),fun a0 a1 a2=>bS.none (by rw[z7];rfl),fun a0 a1=>bS.none (by rw[aFw];rfl)⟩
 | succ K ih =>
  obtain ⟨aJ8,aO1,aJ9⟩:=ih
  refine ⟨?_,?_,?_⟩
  ·
   intro a0 a1
   refine bS.it Tryz.f187 (fun r=>⟨[sP 4 1 0 0],[cV.o r.2,cL.o r.1],[],1⟩) ?_
   rw[oM]
   exact Ref.pt (
    .look (default:Bool) _ [0] (aFv K a0) (fun _=>rfl) fun r1 =>
    .jn (fun u3=>⟨[sP 0 0 0 0,sI 1 a1,sP 4 1 0 0],[cV.o u3,oX6],[],1⟩) (
     .ite _ (
      .call [0] (mM _ _ _) fun r4 =>
      .nil [0,1] _) (
      .nil [0,1] _)) fun u3 =>
    .call [0] (dG _ _ _) fun r5 =>
    .ite _ (
     .call [0] (aJ9 _ _) fun r6 =>
     .ob 4 2 3 (El.cB cL [r6.1] rfl rfl) <|
     .fz 4 0 3 <|
     .ok 4 0 1 4 (x:=cL.tree [r6.1]) (y:=qH [r6.1]) (qL _) <|
     .ret [0,1] _) (
     .call [0] (dG _ _ _) fun r7 =>
     .ite _ (
      .call [0] (aJ9 _ _) fun r8 =>
      .ob 6 2 3 (El.cB cL [r8.1] rfl rfl) <|
      .fz 6 0 3 <|
      .ok 6 0 1 4 (x:=cL.tree [r8.1]) (y:=qH [r8.1]) (qL _) <|
      .ret [0,1] _) (
      .call [0] (aJ9 _ _) fun r9 =>
      .call [0] (aSo _ _) fun jL =>
      .ite _ (
       .ret [0,1] _) (
       .ex [0,2,3] <|
       .tx [4,7] <|
       .kn fun r11 a2R =>
       .all [4,5,37,39,40,38,41,42,43] (rg (cd (bd Tryz.f187) [1,1,1,1,1,1,1,0])) [true,false,true,true,false,false,false,false] (hl [(4,.kc [.s 39] (bS.eq (aJ9 _ _) a2R) []),(5,.no [.bd 42 cL [r9.1,r11.1]])]) ⟨[sP 4 1 0 0],[cV.o r11.2,.cells [iC 9,iC jL.1,.str [],.str [],.own 2 ([r9.1,r11.1].length)],cL.row [r9.1,r11.1]],[],1⟩ [.k 0,.s 4,.o 1 4] <|
       .fz 1000000 0 2 <|
       .ok 1000000 0 1 4 (x:=cL.tree [r9.1,r11.1]) (y:=qH [r9.1,r11.1]) (qL _) <|
       .ret [0,1] _))))
  ·
   intro a0 a1 a2
   refine bS.it Tryz.f189 (fun r=>⟨[sP 6 1 0 0],[cV.o r.2,cL.o r.1],[],1⟩) ?_
   rw[z7]
   exact Ref.pt (
    .call [0] (dB _ _ _) fun r1 =>
    .call [0] (gP _ _) fun r2 =>
    .call [0] (dB _ _ _) fun r3 =>
    .call [0] (dG _ _ _) fun r4 =>
    .ite _ (
     .ok 6 0 2 4 (x:=.nil) (y:=cL.tree []) (El.cE cL) <|
     .ok 6 0 2 4 (x:=cL.tree []) (y:=qH []) (qL _) <|
     .ret [0,2] _) (
     .bk 0 (fun u59=>⟨[sP 4 1 0 0,sP 6 3 0 0],[cV.o u59.1,.cells [iC 13,iC a1.fN,.str a1.cD,.str r2.1,.own 2 u59.2.length],cL.row u59.2,oX6],[],1⟩) (
      .adc 5 0 1 4 cL.ty cL.w (cL.at []) <|
      .lp [0,1,3,2] (fun l7=>⟨[sP 0 0 0 0,sI 2 a2,sP 4 1 0 0,sP 6 3 0 0],[cV.o l7.1,.cells [iC 13,iC a1.fN,.str a1.cD,.str r2.1,.own 2 l7.2.length],cL.row l7.2,oX6],[],1⟩) fun l7 =>
      .ite _ (
       .bk 1 (fun rY=>⟨[sP 0 0 0 0,sI 2 a2,sP 4 1 0 0,sP 6 3 0 0],[cV.o rY.1,.cells [iC 13,iC a1.fN,.str a1.cD,.str r2.1,.own 2 rY.2.length],cL.row rY.2,oX6],[],1⟩) (
        .look (default:Bool) _ [0] (aFv K l7.1) (fun _=>rfl) fun qI =>
        .jn (fun aSp=>⟨[sP 0 0 0 0,sI 2 a2,sP 4 1 0 0,sP 6 3 0 0],[cV.o aSp,.cells [iC 13,iC a1.fN,.str a1.cD,.str r2.1,.own 2 l7.2.length],cL.row l7.2,oX6],[],1⟩) (
         .ite _ (
          .call [0] (oL _ _ _ _) fun uU =>
          .nil [0,1,2,3] _) (
          .nil [0,1,2,3] _)) fun aSp =>
        .ex [0,2,3,4] <|
        .tx [5,7,9] <|
        .kn fun z8 aZ1 =>
        .asm _ fun h1 =>
        .all [0,2,4,6,30,32,34,31,35,36,37,38] (rg (cd (bd Tryz.f189) [1,1,1,1,1,1,0,0,0,1,0,1,0])) [true,false,true,true,true,false,false,false,false,false] (hl [(5,.kc [.s 0] (bS.eq (aJ8 _ _) aZ1) []),(6,.no [.bd 36 cL [z8.1]]),(7,.ck _ h1 [.ap 37 cL l7.2 [z8.1]])]) ⟨[sP 0 0 0 0,sI 2 a2,sP 4 1 0 0,sP 6 2 0 0],[cV.o z8.2,.cells [iC 13,iC a1.fN,.str a1.cD,.str r2.1,.own 3 ((l7.2++[z8.1]).length)],oX6,cL.row (l7.2++[z8.1])],[],1⟩ [.k 0,.s 4,.s 6,.o 1 4] <|
        .call [0] (dG _ _ _) fun aIL =>
        .ite _ (
         .call [0] (dB _ _ _) fun aO0 =>
         .ret [0,1,3,2] _) (
         .nil [0,1,3,2] _)) fun rY =>
       .nil [0,1,2,3] _) (
       .ret [0,1,2,3] _)) fun u59 =>
     .fz 13 0 2 <|
     .ok 13 0 3 4 (x:=cL.tree u59.2) (y:=qH u59.2) (qL _) <|
     .ret [0,3] _))
  ·
   intro a0 a1
   refine bS.it Tryz.f213 (fun r=>⟨[sP 4 1 0 0],[cV.o r.2,cL.o r.1],[],1⟩) ?_
   rw[aFw]
   exact Ref.pt (
    .bk 0 (fun u32=>⟨[sP 4 1 0 0,sP 5 2 0 0],[cV.o u32.1,oX6,.cells [iC u32.2.1,iC u32.2.2.1,.str u32.2.2.2.1,.str u32.2.2.2.2.1,cL.tree u32.2.2.2.2.2]],[],1⟩) (
     .look (default:Bool) _ [0] (j8 K a0 3) (fun _=>rfl) fun r33 =>
     .ite _ (
      .call [0] (rK _ _) fun r34 =>
      .ok 4 0 2 4 (x:=.nil) (y:=cL.tree []) (El.cE cL) <|
      .nil [0,1,2] _) (
      .call [0] (dG _ _ _) fun r35 =>
      .ite _ (
       .ok 6 0 2 4 (x:=.nil) (y:=cL.tree []) (El.cE cL) <|
       .nil [0,1,2] _) (
       .call [0] (dG _ _ _) fun r36 =>
       .ite _ (
        .ok 8 0 2 4 (x:=.nil) (y:=cL.tree []) (El.cE cL) <|
        .nil [0,1,2] _) (
        .call [0] (dG _ _ _) fun r37 =>
        .ite _ (
         .ok 10 0 2 4 (x:=.nil) (y:=cL.tree []) (El.cE cL) <|
         .nil [0,1,2] _) (
         .call [0] (dG _ _ _) fun r38 =>
         .ite _ (
          .call [0] (aFu _ _) fun r39 =>
          .ok 12 0 2 4 (x:=.nil) (y:=cL.tree []) (El.cE cL) <|
          .nil [0,1,2] _) (
          .call [0] (dG _ _ _) fun r40 =>
          .ite _ (
           .call [0] (aFu _ _) fun r41 =>
           .ok 14 0 2 4 (x:=.nil) (y:=cL.tree []) (El.cE cL) <|
           .nil [0,1,2] _) (
           .call [0] (dG _ _ _) fun r42 =>
           .ite _ (
            .call [0] (aFu _ _) fun oH =>
            .ok 16 0 2 4 (x:=.nil) (y:=cL.tree []) (El.cE cL) <|
            .nil [0,1,2] _) (
            .call [0] (dG _ _ _) fun r44 =>
            .ite _ (
             .call [0] (gP _ _) fun r45 =>
             .call [0] (dB _ _ _) fun r46 =>
             .call [0] (aJ8 _ _) fun r47 =>
             .ob 20 2 4 (El.cB cL [r47.1] rfl rfl) <|
             .call [0] (dB _ _ _) fun r48 =>
             .fz 21 0 4 <|
             .nil [0,1,2] _) (
             .call [0] (dG _ _ _) fun r49 =>
             .ite _ (
              .call [0] (aJ8 _ _) fun r50 =>
              .call [0] (dB _ _ _) fun r51 =>
              .ob 24 0 2 (x:=cL.o r50.1) (y:=(.cells [iC r50.1.bR,iC r50.1.fN,.str r50.1.cD,.str r50.1.xS,cL.tree r50.1.fM])) (OLe.cells (gE.cons (hO.refl _) (gE.cons (hO.refl _) (gE.cons (hO.refl _) (gE.cons (hO.refl _) (gE.cons (tF _) (gE.nil))))))) <|
              .nil [0,1,2] _) (
              .call [0] (dG _ _ _) fun r52 =>
              .ite _ (
               .call [0] (aO1 _ _ _) fun r53 =>
               .ret [0,1] _) (
               .call [0] (dG _ _ _) fun r54 =>
               .ite _ (
                .call [0] (aO1 _ _ _) fun r55 =>
                .ret [0,1] _) (
                .look (default:Bool) _ [0] (j8 K r54.2 1) (fun _=>rfl) fun r56 =>
                .ite _ (
                 .call [0] (gP _ _) fun r57 =>
                 .look (default:Bool) _ [0] (jZ K r57.2 ([46]:Bytes)) (fun _=>rfl) fun r58 =>
                 .ite _ (
                  .call [0] (aO1 _ _ _) fun r59 =>
                  .ret [0,1] _) (
                  .call [0] (dG _ _ _) fun r60 =>
                  .ite _ (
                   .call [0] (aJ8 _ _) fun r61 =>
                   .ob 35 2 4 (El.cB cL [r61.1] rfl rfl) <|
                   .call [0] (dB _ _ _) fun r62 =>
                   .fz 36 0 4 <|
                   .nil [0,1,2] _) (
                   .ok 33 0 2 4 (x:=.nil) (y:=cL.tree []) (El.cE cL) <|
                   .nil [0,1,2] _))) (
                 .call [0] (mM _ _ _) fun r63 =>
                 .ok 2 0 2 4 (x:=.nil) (y:=cL.tree []) (El.cE cL) <|
                 .nil [0,1,2] _))))))))))))) fun u32 =>
    .ok 37 0 1 4 (x:=cL.tree u32.2.2.2.2.2) (y:=qH u32.2.2.2.2.2) (qL _) <|
    .ret [0,1] _)
theorem kZ (K:Nat) (a0:cC) (a1:Int):bS Tryz.prog 187 [.c (.ptr 0 0 0),.c (.val (.int .i64 a1))] [cV.o a0] (bV (oM K a0 a1)) (fun r=>.agg (cL.cs r.1)) (fun r=>[cV.o r.2,cL.o r.1]):=(aJ7 K).1 a0 a1
theorem aFy (K:Nat) (a0:cC) (a1:cI) (a2:Int):bS Tryz.prog 189 [.c (.ptr 0 0 0),.agg [.val (.int .i64 a1.bR),.val (.int .i64 a1.fN),.str a1.cD,.str a1.xS,.nil],.c (.val (.int .i64 a2))] [cV.o a0] (bV (z7 K a0 a1 a2)) (fun r=>.agg (cL.cs r.1)) (fun r=>[cV.o r.2,cL.o r.1]):=(aJ7 K).2.1 a0 a1 a2
def aO2 (K:Nat) (a0:cC):Option ((cG × cC) ⊕ (cG × cC)) :=
 ((bV (nJ K a0)).bind (fun r1=>(bP (bN ((bV (fS K r1.2 ([58,61]:Bytes))).bind (fun lZ=>(if lZ.1=true then ((bV (oM K lZ.2 1)).bind (fun r17=>(some (.inr (r17.2,1,r1.1,[r17.1]))))) else ((bV (fS K lZ.2 ([63,61]:Bytes))).bind (fun r18=>(if r18.1=true then ((bV (oM K r18.2 1)).bind (fun r19=>(some (.inr (r19.2,3,r1.1,[r19.1]))))) else ((bV (fS K r18.2 ([91]:Bytes))).bind (fun r20=>(if r20.1=true then ((bV (oM K r20.2 1)).bind (fun r21=>((bV (fP K r21.2 ([93]:Bytes))).bind (fun r22=>((bV (fP K r22 ([58,61]:Bytes))).bind (fun r23=>((bV (oM K r23 1)).bind (fun zT=>(some (.inr (zT.2,2,r1.1,[r21.1,zT.1]))))))))))) else ((cF true (bV (F73 K r20.2 ([46]:Bytes))) default).bind (fun r26=>(if r26=true then ((bV (z7 K r20.2 (⟨0,0,r1.1,([]:Bytes),[]⟩:cI) 1)).bind (fun r27=>(some (.inr (r27.2,4,([]:Bytes),[r27.1]))))) else ((bV (yB K r20.2 3)).bind (fun r28=>(some (.inr (r28,0,r1.1,[])))))))))))))))))) (fun (tD:cC × Int × Bytes × (List cI))=>(some (.inl ((⟨tD.2.1,0,tD.2.2.1,tD.2.2.2,[],[]⟩:cG),tD.1)))))))
theorem aSs (K:Nat) (a0:cC):bS Tryz.prog 190 [.c (.ptr 0 0 0)] [cV.o a0] (bV (aO2 K a0)) (fun r=>.agg (dO.cs r.1)) (fun r=>[cV.o r.2,dO.o r.1]):=by
 refine bS.it Tryz.f190 (fun r=>⟨[sP 2 1 0 0],[cV.o r.2,dO.o r.1],[],1⟩) ?_
 unfold aO2
 exact Ref.pt (
  .call [0] (gP _ _) fun r1 =>
  .bk 0 (fun tD=>⟨[sP 2 1 0 0,sP 4 2 0 0],[cV.o tD.1,wK,.cells [iC tD.2.1,iC 0,.str tD.2.2.1,.own 3 tD.2.2.2.length,.nil,.nil],cL.row tD.2.2.2],[],1⟩) (
   .call [0] (dG _ _ _) fun lZ =>
   .ite _ (
    .call [0] (kZ _ _ _) fun r17 =>
    .ob 5 4 4 (El.cB cL [r17.1] rfl rfl) <|
    .nil [0,1,2,4] _) (
    .call [0] (dG _ _ _) fun r18 =>
    .ite _ (
     .call [0] (kZ _ _ _) fun r19 =>
     .ob 7 4 4 (El.cB cL [r19.1] rfl rfl) <|
     .nil [0,1,2,4] _) (
     .call [0] (dG _ _ _) fun r20 =>
     .ite _ (
      .call [0] (kZ _ _ _) fun r21 =>
      .call [0] (dB _ _ _) fun r22 =>
      .call [0] (dB _ _ _) fun r23 =>
      .ex [1] <|
      .tx [2,5] <|
      .kn fun zT aVK =>
      .all [2,4,5,39,38,40,41,42] (rg (cd (bd Tryz.f190) [1,1,1,0,0,1,1,1,1,1,0,1,1,1,1])) [false,true,false,false,false,false] (hl [(2,.kc [.s 39] (bS.eq (kZ _ _ _) aVK) []),(3,.no [.bd 41 cL [r21.1,zT.1]])]) ⟨[sP 2 1 0 0,sP 4 2 0 0],[cV.o zT.2,wK,.cells [iC 2,iC 0,.str r1.1,.own 3 ([r21.1,zT.1].length),.nil,.nil],cL.row [r21.1,zT.1]],[],1⟩ [.k 0,.s 2,.s 4,.o 2 3] <|
      .nil [0,1,2,3] _) (
      .look (default:Bool) _ [0] (jZ K r20.2 ([46]:Bytes)) (fun _=>rfl) fun r26 =>
      .ite _ (
       .call [0] (aFy _ _ _ _) fun r27 =>
       .ob 15 2 4 (El.cB cL [r27.1] rfl rfl) <|
       .nil [0,1,2,4] _) (
       .call [0] (mM _ _ _) fun r28 =>
       .adc 3 0 2 3 cL.ty cL.w (cL.at []) <|
       .nil [0,1,2,3] _))))) fun tD =>
  .fz 16 0 3 <|
  .ok 16 0 1 4 (x:=.nil) (y:=kJ.tree []) (El.cE kJ) <|
  .ok 16 0 1 5 (x:=.nil) (y:=jQ.tree []) (El.cE jQ) <|
  .ok 16 0 1 5 (x:=jQ.tree []) (y:=lX []) (uK _) <|
  .ret [0,1] _)
mutual
def yK:(K:Nat)→(cC)→(Int)→((List Bytes))→Option (((List cG) × cC) ⊕ ((List cG) × cC))
 | 0,_,_,_=>none
 | K+1,a0,a1,a2 =>
 (bP (if (decide ((a1:Int) > 6))=true then ((cF true (bV (aLB K a0)) default).bind (fun r69=>(bP (bN ((iter K (fun (pV:Bool × Int)=>(bO (decide ((pV.2:Int)<(Int.ofNat a2.length))) (fun (aZ2:Bool)=>(if aZ2=true then (bP (bN (bW [!(!pV.1) || cY pV.2 a2.length] ((cF (!pV.1) (bV (F73 K a0 (a2.getD (pV.2:Int).toNat default))) default).bind (fun aCr=>(bW [!(!(pV.1 || aCr)) || cY pV.2 a2.length] ((cF (((a2.getD (pV.2:Int).toNat default) == ([48]:Bytes)) && (!(pV.1 || aCr))) (bV (rW K a0 3)) default).bind (fun aLq=>((cF ((!aLq) && (((a2.getD (pV.2:Int).toNat default) == ([48]:Bytes)) && (!(pV.1 || aCr)))) (bV (F73 K a0 ([45]:Bytes))) default).bind (fun aZ3=>(bO ((pV.1 || aCr) || (((a2.getD (pV.2:Int).toNat default) == ([48]:Bytes)) && (aLq || aZ3))) (fun (aZ4:Bool)=>(some (.inr (aZ4)))))))))))))) (fun (aSt:Bool)=>(some (.inr (aSt,(IntKind.i64.wrap (pV.2+1))))))) else (some (.inl (Sum.inl (pV.1)))))))) (r69,0)).map .inl)) (fun (aIx:Bool)=>(if aIx=true then ((bV (yB K a0 4)).bind (fun aZ5=>(some (.inr (aZ5))))) else (some (.inr (a0)))))))) else (some (.inr (a0)))) (fun (u68:cC)=>(bP (bN ((iter K (fun (wD:cC × (List cG))=>((cF true (bV (aLB K wD.1)) default).bind (fun aZ6=>(if aZ6=true then (bP (bN ((bV (F74 K wD.1 (Int.ofNat wD.2.length) 24)).bind (fun aSu=>(if ((aSu.iS:Int) == 0)=true then ((bV (aLD K aSu a1)).bind (fun aLE=>(bW [room ((wD.2.length+([aLE.1].length)) * 104)] (some (.inr (aLE.2,(wD.2++[aLE.1]))))))) else (some (.inr (aSu,wD.2))))))) (fun (aIM:cC × (List cG))=>(some (.inr (aIM.1,aIM.2))))) else (some (.inl (Sum.inl (wD.1,wD.2)))))))) (u68,[])).map .inl)) (fun (aIN:cC × (List cG))=>(some (.inl (aIN.2,aIN.1)))))))
def aLD:(K:Nat)→(cC)→(Int)→Option ((cG × cC) ⊕ (cG × cC))
 | 0,_,_=>none
 | K+1,a0,a1 =>
 (bP (bN ((bV (fS K a0 ([73,70]:Bytes))).bind (fun r40=>(if r40.1=true then ((bV (aLF K r40.2 a1)).bind (fun r41=>(some (.inr (r41.2,r41.1.bR,r41.1.fN,r41.1.cD,r41.1.cT,r41.1.eT,r41.1.bY))))) else ((bV (fS K r40.2 ([67,65,83,69]:Bytes))).bind (fun r42=>(if r42.1=true then ((bV (aLG K r42.2 a1)).bind (fun oH=>(some (.inr (oH.2,oH.1.bR,oH.1.fN,oH.1.cD,oH.1.cT,oH.1.eT,oH.1.bY))))) else ((bV (fS K r42.2 ([87,72,73,76,69]:Bytes))).bind (fun r44=>(if r44.1=true then ((bV (oM K r44.2 1)).bind (fun r45=>((bV (fP K r45.2 ([68,79]:Bytes))).bind (fun r46=>((bV (yK K r46 (IntKind.i64.wrap (a1+1)) ([[69,78,68,95,87,72,73,76,69]]:List Bytes))).bind (fun r47=>((bV (fP K r47.2 ([69,78,68,95,87,72,73,76,69]:Bytes))).bind (fun r48=>(some (.inr (r48,7,0,([]:Bytes),[r45.1],[],[r47.1]))))))))))) else ((bV (fS K r44.2 ([70,79,82]:Bytes))).bind (fun r49=>(if r49.1=true then ((bV (nJ K r49.2)).bind (fun r50=>((bV (fP K r50.2 ([58,61]:Bytes))).bind (fun r51=>((bV (oM K r51 1)).bind (fun r52=>((bV (fP K r52.2 ([84,79]:Bytes))).bind (fun r53=>((bV (oM K r53 1)).bind (fun r54=>((bV (fP K r54.2 ([66,89]:Bytes))).bind (fun r56=>((bV (aFp K r56)).bind (fun r57=>((bV (fP K r57.2 ([68,79]:Bytes))).bind (fun r58=>((bV (yK K r58 (IntKind.i64.wrap (a1+1)) ([[69,78,68,95,70,79,82]]:List Bytes))).bind (fun r59=>((bV (fP K r59.2 ([69,78,68,95,70,79,82]:Bytes))).bind (fun r60=>(some (.inr (r60,8,r57.1,r50.1,[r52.1,r54.1],[],[r59.1]))))))))))))))))))))))) else ((bV (fS K r49.2 ([82,69,84,85,82,78]:Bytes))).bind (fun r61=>(if r61.1=true then ((cF true (bV (aIK K r61.2)) default).bind (fun r62=>(if r62=true then ((bV (oM K r61.2 1)).bind (fun r63=>(some (.inr (r63.2,9,0,([]:Bytes),[r63.1],[],[]))))) else (some (.inr (r61.2,9,0,([]:Bytes),[],[],[])))))) else ((bV (fS K r61.2 ([69,88,73,84]:Bytes))).bind (fun r64=>(if r64.1=true then (some (.inr (r64.2,10,0,([]:Bytes),[],[],[]))) else ((bV (fS K r64.2 ([83,84,69,80]:Bytes))).bind (fun r65=>(if r65.1=true then ((bV (nJ K r65.2)).bind (fun r66=>((bV (fP K r66.2 ([40]:Bytes))).bind (fun nS=>((bV (oM K nS 1)).bind (fun r68=>((bV (fP K r68.2 ([44]:Bytes))).bind (fun r69=>((bV (oM K r69 1)).bind (fun r70=>((bV (fP K r70.2 ([41]:Bytes))).bind (fun r72=>(some (.inr (r72,11,0,r66.1,[r68.1,r70.1],[],[]))))))))))))))) else ((bV (fS K r65.2 ([84,72,73,83]:Bytes))).bind (fun r73=>(if r73.1=true then ((bV (z7 K r73.2 (⟨0,1,([]:Bytes),([]:Bytes),[]⟩:cI) 1)).bind (fun r74=>(some (.inr (r74.2,4,0,([]:Bytes),[r74.1],[],[]))))) else ((bV (fS K r73.2 ([83,85,80,69,82]:Bytes))).bind (fun r75=>(if r75.1=true then ((bV (z7 K r75.2 (⟨0,2,([]:Bytes),([]:Bytes),[]⟩:cI) 1)).bind (fun r76=>(some (.inr (r76.2,4,0,([]:Bytes),[r76.1],[],[]))))) else ((bV (aO2 K r75.2)).bind (fun r77=>(some (.inr (r77.2,r77.1.bR,r77.1.fN,r77.1.cD,r77.1.cT,r77.1.eT,r77.1.bY))))))))))))))))))))))))))))))))) (fun (u39:cC × Int × Int × Bytes × (List cI) × (List (List Int)) × (List (List cG)))=>((bV (fP K u39.1 ([59]:Bytes))).bind (fun r78=>(some (.inl ((⟨u39.2.1,u39.2.2.1,u39.2.2.2.1,u39.2.2.2.2.1,u39.2.2.2.2.2.1,u39.2.2.2.2.2.2⟩:cG),r78)))))))
def aLF:(K:Nat)→(cC)→(Int)→Option ((cG × cC) ⊕ (cG × cC))
 | 0,_,_=>none
 | K+1,a0,a1 =>
 (bP (bN ((iter K (fun (l7:cC × (List cI) × (List (List cG)) × (List Bytes))=>(if ((l7.1.iS:Int) == 0)=true then (bP (bN ((bV (oM K l7.1 1)).bind (fun qI=>(bW [room ((l7.2.1.length+([qI.1].length)) * 72)] ((bV (fP K qI.2 ([84,72,69,78]:Bytes))).bind (fun aNO=>((bV (yK K aNO (IntKind.i64.wrap (a1+1)) l7.2.2.2)).bind (fun uU=>(bW [room ((l7.2.2.1.length+([uU.1].length)) * 24)] ((cF true (bV (F73 K uU.2 ([69,76,83,73,70]:Bytes))) default).bind (fun aZ7=>(if (!aZ7)=true then (some (.inl (Sum.inr (Sum.inl (uU.2,(l7.2.1++[qI.1]),(l7.2.2.1++[uU.1])))))) else ((bV (F74 K uU.2 (Int.ofNat ((l7.2.1++[qI.1]).length)) 6)).bind (fun aIL=>((bV (fP K aIL ([69,76,83,73,70]:Bytes))).bind (fun aO0=>(some (.inr (aO0,(l7.2.1++[qI.1]),(l7.2.2.1++[uU.1])))))))))))))))))))) (fun (rY:cC × (List cI) × (List (List cG)))=>(some (.inr (rY.1,rY.2.1,rY.2.2,l7.2.2.2))))) else (some (.inl (Sum.inl (l7.1,l7.2.1,l7.2.2.1)))))) (a0,[],[],[([69,76,83,73,70]:Bytes),([69,76,83,69]:Bytes),([69,78,68,95,73,70]:Bytes)])).map .inl)) (fun (u57:cC × (List cI) × (List (List cG)))=>((bV (aIP K u57.1 a1 ([69,78,68,95,73,70]:Bytes))).bind (fun aCN=>(bW [room ((u57.2.2.length+([aCN.1].length)) * 24)] ((bV (fP K aCN.2 ([69,78,68,95,73,70]:Bytes))).bind (fun aZ8=>(some (.inl ((⟨5,0,([]:Bytes),u57.2.1,[],(u57.2.2++[aCN.1])⟩:cG),aZ8))))))))))
def aLG:(K:Nat)→(cC)→(Int)→Option ((cG × cC) ⊕ (cG × cC))
 | 0,_,_=>none
 | K+1,a0,a1 =>
 ((bV (oM K a0 1)).bind (fun r1=>((bV (fP K r1.2 ([79,70]:Bytes))).bind (fun r2=>(bP (bN ((iter K (fun (eO:cC × (List (List Int)) × (List (List cG)))=>((cF true (bV (rW K eO.1 3)) default).bind (fun aO3=>((cF (!aO3) (bV (F73 K eO.1 ([45]:Bytes))) default).bind (fun aT5=>(if (aO3 || aT5)=true then (bP (bN ((bV (F74 K eO.1 (Int.ofNat eO.2.1.length) 6)).bind (fun aT6=>(bP (bN ((iter K (fun (kR:cC × (List Int))=>(if ((kR.1.iS:Int) == 0)=true then (bP (bN ((cF true (bV (rW K kR.1 3)) default).bind (fun aO4=>((cF (!aO4) (bV (F73 K kR.1 ([45]:Bytes))) default).bind (fun aT7=>(bP (if (aO4 || aT7)=true then ((bV (F74 K kR.1 (Int.ofNat kR.2.length) 8)).bind (fun aT8=>(some (.inr (aT8))))) else (some (.inr (kR.1)))) (fun (aKa:cC)=>((bV (aFp K aKa)).bind (fun aCO=>(bW [room ((kR.2.length+([aCO.1].length)) * 8)] ((bV (fS K aCO.2 ([44]:Bytes))).bind (fun aKb=>(if (!aKb.1)=true then (some (.inl (Sum.inr (Sum.inl (aKb.2,(kR.2++[aCO.1])))))) else (some (.inr (aKb.2,(kR.2++[aCO.1]))))))))))))))))) (fun (aCP:cC × (List Int))=>(some (.inr (aCP.1,aCP.2))))) else (some (.inl (Sum.inl (kR.1,kR.2)))))) (aT6,[])).map .inl)) (fun (iM:cC × (List Int))=>((bV (fP K iM.1 ([58]:Bytes))).bind (fun aAE=>(bW [room ((eO.2.1.length+([iM.2].length)) * 24)] ((bV (yK K aAE (IntKind.i64.wrap (a1+1)) [([48]:Bytes),([69,76,83,69]:Bytes),([69,78,68,95,67,65,83,69]:Bytes)])).bind (fun iN=>(bW [room ((eO.2.2.length+([iN.1].length)) * 24)] (some (.inr (iN.2,(eO.2.1++[iM.2]),(eO.2.2++[iN.1]))))))))))))))) (fun (vB:cC × (List (List Int)) × (List (List cG)))=>(some (.inr (vB.1,vB.2.1,vB.2.2))))) else (some (.inl (Sum.inl (eO.1,eO.2.1,eO.2.2)))))))))) (r2,[],[])).map .inl)) (fun (rZ:cC × (List (List Int)) × (List (List cG)))=>((bV (aIP K rZ.1 a1 ([69,78,68,95,67,65,83,69]:Bytes))).bind (fun tM=>(bW [room ((rZ.2.2.length+([tM.1].length)) * 24)] ((bV (fP K tM.2 ([69,78,68,95,67,65,83,69]:Bytes))).bind (fun aT9=>(some (.inl ((⟨6,0,([]:Bytes),[r1.1],rZ.2.1,(rZ.2.2++[tM.1])⟩:cG),aT9))))))))))))))
def aIP:(K:Nat)→(cC)→(Int)→(Bytes)→Option (((List cG) × cC) ⊕ ((List cG) × cC))
 | 0,_,_,_=>none
 | K+1,a0,a1,a2 =>
 ((bV (fS K a0 ([69,76,83,69]:Bytes))).bind (fun r1=>(if (!r1.1)=true then (some (.inl ([],r1.2))) else ((bV (yK K r1.2 (IntKind.i64.wrap (a1+1)) [a2])).bind (fun r2=>(some (.inl (r2.1,r2.2))))))))
end
abbrev iD (v0:Int):List (Nat × D):=[sP 0 0 0 0,sI 1 v0,sP 4 1 0 0,sP 5 2 0 0]
abbrev aAa:List (Nat × D):=[sP 0 0 0 0,sP 4 1 0 0,sP 5 2 0 0]
theorem aSv:∀ K:Nat,(∀ (a0:cC),∀ (a1:Int),∀ (a2:(List Bytes)),bS Tryz.prog 114 [.c (.ptr 0 0 0),.c (.val (.int .i64 a1)),.c (E9.tree a2)] [cV.o a0] (bV (yK K a0 a1 a2)) (fun r=>.c (dO.tree r.1)) (fun r=>[cV.o r.2]))∧(∀ (a0:cC),∀ (a1:Int),bS Tryz.prog 143 [.c (.ptr 0 0 0),.c (.val (.int .i64 a1))] [cV.o a0] (bV (aLD K a0 a1)) (fun r=>.agg (dO.cs r.1)) (fun r=>[cV.o r.2,dO.o r.1]))∧(∀ (a0:cC),∀ (a1:Int),bS Tryz.prog 185 [.c (.ptr 0 0 0),.c (.val (.int .i64 a1))] [cV.o a0] (bV (aLF K a0 a1)) (fun r=>.agg (dO.cs r.1)) (fun r=>[cV.o r.2,dO.o r.1]))∧(∀ (a0:cC),∀ (a1:Int),bS Tryz.prog 186 [.c (.ptr 0 0 0),.c (.val (.int .i64 a1))] [cV.o a0] (bV (aLG K a0 a1)) (fun r=>.agg (dO.cs r.1)) (fun r=>[cV.o r.2,dO.o r.1]))∧(∀ (a0:cC),∀ (a1:Int),∀ (a2:Bytes),bS Tryz.prog 212 [.c (.ptr 0 0 0),.c (.val (.int .i64 a1)),.c (.str a2)] [cV.o a0] (bV (aIP K a0 a1 a2)) (fun r=>.c (dO.tree r.1)) (fun r=>[cV.o r.2])):=by
 intro K
 induction K with
 | zero=>exact ⟨fun a0 a1 a2=>bS.none (by rw[yK];rfl),fun a0 a1=>bS.none (by rw[aLD];rfl),fun a0 a1=>bS.none (by rw[aLF];rfl),fun a0 a1=>bS.none (by rw[aLG];rfl),fun a0 a1 a2=>bS.none (by rw[aIP];rfl)⟩
 | succ K ih =>
  obtain ⟨aG2,aZ9,a0a,a0b,aUa⟩:=ih
  refine ⟨?_,?_,?_,?_,?_⟩
  ·
   intro a0 a1 a2
   refine bS.it Tryz.f114 (fun r=>⟨[(6,.c (dO.tree r.1))],[cV.o r.2],[],1⟩) ?_
   rw[yK]
   exact Ref.pt (
    .jn (fun u68=>⟨[sP 0 0 0 0,sI 1 a1],[cV.o u68],[],1⟩) (
     .ite _ (
      .look (default:Bool) _ [0] (aJ6 K a0) (fun _=>rfl) fun r69 =>
      .bk 0 (fun aIx=>⟨[sP 0 0 0 0,sI 1 a1,sB 7 aIx],[cV.o a0],[],1⟩) (
       .lp [0] (fun pV=>⟨[sP 0 0 0 0,sI 1 a1,(2,.c (E9.tree a2)),sB 7 pV.1,sI 8 pV.2],[cV.o a0],[],1⟩) fun pV =>
       .lt _ fun aZ2 =>
       .ite _ (
        .bk 1 (fun aSt=>⟨[sP 0 0 0 0,sI 1 a1,(2,.c (E9.tree a2)),sB 7 aSt,sI 8 pV.2],[cV.o a0],[],1⟩) (
         .ck _ <|
         .look (default:Bool) _ [0] (jZ K a0 (a2.getD (pV.2:Int).toNat default)) (fun _=>rfl) fun aCr =>
         .ck _ <|
         .look (default:Bool) _ [0] (j8 K a0 3) (fun _=>rfl) fun aLq =>
         .look (default:Bool) _ [0] (jZ K a0 z6) (fun _=>rfl) fun aZ3 =>
         .lt _ fun aZ4 =>
         .nil [0] _) fun aSt =>
        .nil [0] _) (
        .ret [0] _)) fun aIx =>
      .ite _ (
       .call [0] (mM _ _ _) fun aZ5 =>
       .nil [0] _) (
       .nil [0] _)) (
      .nil [0] _)) fun u68 =>
    .bk 2 (fun aIN=>⟨[(9,.c (.own 1 aIN.2.length))],[cV.o aIN.1,dO.row aIN.2],[],1⟩) (
     .ad 9 0 9 dO.ty dO.w (dO.at []) <|
     .lp [0,1] (fun wD=>⟨[sP 0 0 0 0,sI 1 a1,(9,.c (.own 1 wD.2.length))],[cV.o wD.1,dO.row wD.2],[],1⟩) fun wD =>
     .look (default:Bool) _ [0] (aJ6 K wD.1) (fun _=>rfl) fun aZ6 =>
     .ite _ (
      .bk 3 (fun aIM=>⟨[sP 0 0 0 0,sI 1 a1,(9,.c (.own 1 aIM.2.length))],[cV.o aIM.1,dO.row aIM.2],[],1⟩) (
       .call [0] (oL _ _ _ _) fun aSu =>
       .ite _ (
        .call [0] (aZ9 _ _) fun aLE =>
        .ob 13 2 3 (El.cB dO [aLE.1] rfl rfl) <|
        .ck _ <|
        .ap 13 1 4 63 dO wD.2 [aLE.1] <|
        .nil [0,4] _) (
        .nil [0,1] _)) fun aIM =>
      .nil [0,1] _) (
      .ret [0,1] _)) fun aIN =>
    .fz 14 0 1 <|
    .ret [0] _)
  ·
   intro a0 a1
   refine bS.it Tryz.f143 (fun r=>⟨[sP 4 1 0 0],[cV.o r.2,dO.o r.1],[],1⟩) ?_
   rw[aLD]
   exact Ref.pt (
    .bk 0 (fun u39=>⟨aAa,[cV.o u39.1,wK,.cells [iC u39.2.1,iC u39.2.2.1,.str u39.2.2.2.1,cL.tree u39.2.2.2.2.1,kJ.tree u39.2.2.2.2.2.1,jQ.tree u39.2.2.2.2.2.2]],[],1⟩) (
     .call [0] (dG _ _ _) fun r40 =>
     .ite _ (
      .call [0] (a0a _ _) fun r41 =>
      .ob 4 0 2 (x:=dO.o r41.1) (y:=(.cells [iC r41.1.bR,iC r41.1.fN,.str r41.1.cD,cL.tree r41.1.cT,kJ.tree r41.1.eT,jQ.tree r41.1.bY])) (OLe.cells (gE.cons (hO.refl _) (gE.cons (hO.refl _) (gE.cons (hO.refl _) (gE.cons (hO.refl _) (gE.cons (hO.refl _) (gE.cons (jM _) (gE.nil)))))))) <|
      .nil [0,1,2] _) (
      .call [0] (dG _ _ _) fun r42 =>
      .ite _ (
       .call [0] (a0b _ _) fun oH =>
       .ob 6 0 2 (x:=dO.o oH.1) (y:=(.cells [iC oH.1.bR,iC oH.1.fN,.str oH.1.cD,cL.tree oH.1.cT,kJ.tree oH.1.eT,jQ.tree oH.1.bY])) (OLe.cells (gE.cons (hO.refl _) (gE.cons (hO.refl _) (gE.cons (hO.refl _) (gE.cons (hO.refl _) (gE.cons (hO.refl _) (gE.cons (jM _) (gE.nil)))))))) <|
       .nil [0,1,2] _) (
       .call [0] (dG _ _ _) fun r44 =>
       .ite _ (
        .call [0] (kZ _ _ _) fun r45 =>
        .ob 9 2 4 (El.cB cL [r45.1] rfl rfl) <|
        .call [0] (dB _ _ _) fun r46 =>
        .aDx [0,1,2,4] 11 (rg (cd (bd Tryz.f143) [1,1,0,0,1,1,1,1,1,0,1,1,1,0])) ((rg (cd (bd Tryz.f143) [1,1,0,0,1,1,1,1,1,0,1,1,1,0])).toList.drop 3) [(cd (bd Tryz.f143) [1,1,0,0,1,1,1,1,1,0,1,1,1,1])] ⟨aAa++[sP 33 0 0 0,sI 35 (IntKind.i64.wrap (a1+1))],[cV.o r46,wK,.cells [iC 7,iC 0,.str [],.own 3 ([r45.1].length),.nil,.nil],cL.row [r45.1]],[],1⟩ (by
         refine eF.li 36 [] E9 ([[69,78,68,95,87,72,73,76,69]]:List Bytes) 3 4 ?_
         exact eF.pt (id:=11) (
          .call [0] (aG2 _ _ _) fun r47 =>
          .ob 11 2 5 (El.cB jQ [r47.1] rfl rfl) <|
          .call [0] (dB _ _ _) fun r48 =>
          .fz 12 0 3 <|
          .ok 12 0 2 4 (x:=.nil) (y:=kJ.tree []) (El.cE kJ) <|
          .fz 12 0 5 <|
          .nil [0,1,2] _))) (
        .call [0] (dG _ _ _) fun r49 =>
        .ite _ (
         .call [0] (gP _ _) fun r50 =>
         .call [0] (dB _ _ _) fun r51 =>
         .call [0] (kZ _ _ _) fun r52 =>
         .call [0] (dB _ _ _) fun r53 =>
         .ex [1] <|
         .tx [2,5] <|
         .kn fun r54 a2S =>
         .all [0,1,4,5,6,56,55,57,58,59] (rg (cd (bd Tryz.f143) [1,1,0,0,1,1,1,1,1,1,1,0,1,1,1,1,0])) [false,true,false,false,false,false] (hl [(2,.kc [.s 0] (bS.eq (kZ _ _ _) a2S) []),(3,.no [.bd 58 cL [r52.1,r54.1]])]) ⟨iD a1,[cV.o r54.2,wK,.cells [iC 8,iC 0,.str r50.1,.own 3 ([r52.1,r54.1].length),.nil,.nil],cL.row [r52.1,r54.1]],[],1⟩ [.k 0,.s 4,.s 5,.o 2 3] <|
         .call [0] (dB _ _ _) fun r56 =>
         .call [0] (yC _ _) fun r57 =>
         .call [0] (dB _ _ _) fun r58 =>
         .aDx [0,1,2,3] 22 (rg (cd (bd Tryz.f143) [1,1,0,0,1,1,1,1,1,1,1,0,1,1,1,1,1,1,1,1,0])) ((rg (cd (bd Tryz.f143) [1,1,0,0,1,1,1,1,1,1,1,0,1,1,1,1,1,1,1,1,0])).toList.drop 3) [(cd (bd Tryz.f143) [1,1,0,0,1,1,1,1,1,1,1,0,1,1,1,1,1,1,1,1,1])] ⟨aAa++[sP 67 0 0 0,sI 69 (IntKind.i64.wrap (a1+1))],[cV.o r58,wK,.cells [iC 8,iC r57.1,.str r50.1,.own 3 ([r52.1,r54.1].length),.nil,.nil],cL.row [r52.1,r54.1]],[],1⟩ (by
          refine eF.li 70 [] E9 ([[69,78,68,95,70,79,82]]:List Bytes) 3 4 ?_
          exact eF.pt (id:=22) (
           .call [0] (aG2 _ _ _) fun r59 =>
           .ob 22 2 5 (El.cB jQ [r59.1] rfl rfl) <|
           .call [0] (dB _ _ _) fun r60 =>
           .fz 23 0 3 <|
           .ok 23 0 2 4 (x:=.nil) (y:=kJ.tree []) (El.cE kJ) <|
           .fz 23 0 5 <|
           .nil [0,1,2] _))) (
         .call [0] (dG _ _ _) fun r61 =>
         .ite _ (
          .look (default:Bool) _ [0] (aFv K r61.2) (fun _=>rfl) fun r62 =>
          .ite _ (
           .call [0] (kZ _ _ _) fun r63 =>
           .ob 27 2 4 (El.cB cL [r63.1] rfl rfl) <|
           .fz 27 0 4 <|
           .ok 27 0 2 4 (x:=.nil) (y:=kJ.tree []) (El.cE kJ) <|
           .ok 27 0 2 5 (x:=.nil) (y:=jQ.tree []) (El.cE jQ) <|
           .nil [0,1,2] _) (
           .ok 26 0 2 3 (x:=.nil) (y:=cL.tree []) (El.cE cL) <|
           .ok 26 0 2 4 (x:=.nil) (y:=kJ.tree []) (El.cE kJ) <|
           .ok 26 0 2 5 (x:=.nil) (y:=jQ.tree []) (El.cE jQ) <|
           .nil [0,1,2] _)) (
          .call [0] (dG _ _ _) fun r64 =>
          .ite _ (
           .ok 29 0 2 3 (x:=.nil) (y:=cL.tree []) (El.cE cL) <|
           .ok 29 0 2 4 (x:=.nil) (y:=kJ.tree []) (El.cE kJ) <|
           .ok 29 0 2 5 (x:=.nil) (y:=jQ.tree []) (El.cE jQ) <|
           .nil [0,1,2] _) (
           .call [0] (dG _ _ _) fun r65 =>
           .ite _ (
            .call [0] (gP _ _) fun r66 =>
            .call [0] (dB _ _ _) fun nS =>
            .call [0] (kZ _ _ _) fun r68 =>
            .call [0] (dB _ _ _) fun r69 =>
            .ex [1] <|
            .tx [2,5] <|
            .kn fun r70 a2T =>
            .all [0,4,5,7,104,103,105,106,107] (rg (cd (bd Tryz.f143) [1,1,0,0,1,1,1,1,1,1,1,1,1,1,1,1,1,0,1,1,1,1,0])) [false,true,false,false,false,false] (hl [(2,.kc [.s 0] (bS.eq (kZ _ _ _) a2T) []),(3,.no [.bd 106 cL [r68.1,r70.1]])]) ⟨aAa,[cV.o r70.2,wK,.cells [iC 11,iC 0,.str r66.1,.own 3 ([r68.1,r70.1].length),.nil,.nil],cL.row [r68.1,r70.1]],[],1⟩ [.k 0,.s 4,.s 5,.o 2 3] <|
            .call [0] (dB _ _ _) fun r72 =>
            .fz 36 0 3 <|
            .ok 36 0 2 4 (x:=.nil) (y:=kJ.tree []) (El.cE kJ) <|
            .ok 36 0 2 5 (x:=.nil) (y:=jQ.tree []) (El.cE jQ) <|
            .nil [0,1,2] _) (
            .call [0] (dG _ _ _) fun r73 =>
            .ite _ (
             .call [0] (aFy _ _ _ _) fun r74 =>
             .ob 38 4 4 (El.cB cL [r74.1] rfl rfl) <|
             .fz 38 0 4 <|
             .ok 38 0 2 4 (x:=.nil) (y:=kJ.tree []) (El.cE kJ) <|
             .ok 38 0 2 5 (x:=.nil) (y:=jQ.tree []) (El.cE jQ) <|
             .nil [0,1,2] _) (
             .call [0] (dG _ _ _) fun r75 =>
             .ite _ (
              .call [0] (aFy _ _ _ _) fun r76 =>
              .ob 40 4 4 (El.cB cL [r76.1] rfl rfl) <|
              .fz 40 0 4 <|
              .ok 40 0 2 4 (x:=.nil) (y:=kJ.tree []) (El.cE kJ) <|
              .ok 40 0 2 5 (x:=.nil) (y:=jQ.tree []) (El.cE jQ) <|
              .nil [0,1,2] _) (
              .call [0] (aSs _ _) fun r77 =>
              .ob 2 0 2 (x:=dO.o r77.1) (y:=(.cells [iC r77.1.bR,iC r77.1.fN,.str r77.1.cD,cL.tree r77.1.cT,kJ.tree r77.1.eT,jQ.tree r77.1.bY])) (OLe.cells (gE.cons (hO.refl _) (gE.cons (hO.refl _) (gE.cons (hO.refl _) (gE.cons (hO.refl _) (gE.cons (hO.refl _) (gE.cons (jM _) (gE.nil)))))))) <|
              .nil [0,1,2] _)))))))))) fun u39 =>
    .call [0] (dB _ _ _) fun r78 =>
    .ok 42 0 1 5 (x:=jQ.tree u39.2.2.2.2.2.2) (y:=lX u39.2.2.2.2.2.2) (uK _) <|
    .ret [0,1] _)
  ·
   intro a0 a1
   refine bS.it Tryz.f185 (fun r=>⟨[sP 4 1 0 0],[cV.o r.2,dO.o r.1],[],1⟩) ?_
   rw[aLF]
   exact Ref.pt (
    .ob 2 1 3 (El.cB E9 [aO5,aCQ,aSw] rfl rfl) <|
    .bk 0 (fun u57=>⟨iD a1,[cV.o u57.1,wK,.cells [iC 5,iC 0,.str [],.own 3 u57.2.1.length,.nil,.own 4 u57.2.2.length],cL.row u57.2.1,jQ.row u57.2.2],[],1⟩) (
     .fz 2 0 3 <|
     .adc 2 0 2 3 cL.ty cL.w (cL.at []) <|
     .adc 2 0 2 5 jQ.ty jQ.w (jQ.at []) <|
     .lp [0,1,2,4,5] (fun l7=>⟨iD a1++[(6,.c (E9.tree l7.2.2.2))],[cV.o l7.1,wK,.cells [iC 5,iC 0,.str [],.own 3 l7.2.1.length,.nil,.own 4 l7.2.2.1.length],cL.row l7.2.1,jQ.row l7.2.2.1],[],1⟩) fun l7 =>
     .ite _ (
      .bk 1 (fun rY=>⟨iD a1++[(6,.c (E9.tree l7.2.2.2))],[cV.o rY.1,wK,.cells [iC 5,iC 0,.str [],.own 3 rY.2.1.length,.nil,.own 4 rY.2.2.length],cL.row rY.2.1,jQ.row rY.2.2],[],1⟩) (
       .ex [0,2] <|
       .tx [3,5,7] <|
       .kn fun qI a0c =>
       .asm _ fun h1 =>
       .all [0,1,4,5,6,14,16,15,17,18,19,20] (rg (cd (bd Tryz.f185) [1,1,1,0,0,0,1,0,0])) [true,false,true,false,false,false,false,false] (hl [(3,.kc [.s 0] (bS.eq (kZ _ _ _) a0c) []),(4,.no [.bd 18 cL [qI.1]]),(5,.ck _ h1 [.ap 19 cL l7.2.1 [qI.1]])]) ⟨iD a1++[(6,.c (E9.tree l7.2.2.2))],[cV.o qI.2,wK,.cells [iC 5,iC 0,.str [],.own 3 ((l7.2.1++[qI.1]).length),.nil,.own 4 l7.2.2.1.length],cL.row (l7.2.1++[qI.1]),jQ.row l7.2.2.1],[],1⟩ [.k 0,.s 4,.s 5,.o 2 3,.o 2 5] <|
       .call [0] (dB _ _ _) fun aNO =>
       .ex [0,2,3,4,5] <|
       .tx [6,8,10] <|
       .kn fun uU a0d =>
       .asm _ fun h1 =>
       .all [0,1,4,5,6,23,25,27,28,24,29,30,31,32] (rg (cd (bd Tryz.f185) [1,1,1,0,0,0,1,0,1,1,0])) [true,false,true,true,true,true,false,false,false,false,false] (hl [(6,.kc [.s 0] (bS.eq (aG2 _ _ _) a0d) []),(7,.no [.bd 30 jQ [uU.1]]),(8,.ck _ h1 [.ap 31 jQ l7.2.2.1 [uU.1]])]) ⟨iD a1++[(6,.c (E9.tree l7.2.2.2))],[cV.o uU.2,wK,.cells [iC 5,iC 0,.str [],.own 3 ((l7.2.1++[qI.1]).length),.nil,.own 4 ((l7.2.2.1++[uU.1]).length)],cL.row (l7.2.1++[qI.1]),jQ.row (l7.2.2.1++[uU.1])],[],1⟩ [.k 0,.s 4,.s 5,.o 2 3,.o 2 5] <|
       .look (default:Bool) _ [0] (jZ K uU.2 aO5) (fun _=>rfl) fun aZ7 =>
       .ite _ (
        .ret [0,1,2,3,4] _) (
        .call [0] (oL _ _ _ _) fun aIL =>
        .call [0] (dB _ _ _) fun aO0 =>
        .nil [0,1,2,3,4] _)) fun rY =>
      .nil [0,1,2,3,4] _) (
      .ret [0,1,2,3,4] _)) fun u57 =>
    .ex [0,2,3] <|
    .tx [4,6,8] <|
    .kn fun aCN a0e =>
    .asm _ fun h1 =>
    .all [0,4,5,43,45,46,44,47,48,49,50] (rg (cd (bd Tryz.f185) [1,1,1,1,0])) [true,false,true,true,false,false,false,false,false] (hl [(4,.kc [.s 0] (bS.eq (aUa _ _ _) a0e) []),(5,.no [.bd 48 jQ [aCN.1]]),(6,.ck _ h1 [.ap 49 jQ u57.2.2 [aCN.1]])]) ⟨aAa,[cV.o aCN.2,wK,.cells [iC 5,iC 0,.str [],.own 3 u57.2.1.length,.nil,.own 4 ((u57.2.2++[aCN.1]).length)],cL.row u57.2.1,jQ.row (u57.2.2++[aCN.1])],[],1⟩ [.k 0,.s 4,.s 5,.o 2 3,.o 2 5] <|
    .call [0] (dB _ _ _) fun aZ8 =>
    .fz 12 0 3 <|
    .ok 12 0 1 4 (x:=.nil) (y:=kJ.tree []) (El.cE kJ) <|
    .fz 12 0 4 <|
    .ok 12 0 1 5 (x:=jQ.tree (u57.2.2++[aCN.1])) (y:=lX (u57.2.2++[aCN.1])) (uK _) <|
    .ret [0,1] _)
  ·
   intro a0 a1
   refine bS.it Tryz.f186 (fun r=>⟨[sP 4 1 0 0],[cV.o r.2,dO.o r.1],[],1⟩) ?_
   rw[aLG]
   exact Ref.pt (
    .call [0] (kZ _ _ _) fun r1 =>
    .ob 1 3 3 (El.cB cL [r1.1] rfl rfl) <|
    .call [0] (dB _ _ _) fun r2 =>
    .bk 0 (fun rZ=>⟨iD a1,[cV.o rZ.1,wK,.cells [iC 6,iC 0,.str [],.own 3 ([r1.1].length),.own 4 rZ.2.1.length,.own 5 rZ.2.2.length],cL.row [r1.1],kJ.row rZ.2.1,jQ.row rZ.2.2],[],1⟩) (
     .adc 2 0 4 4 kJ.ty kJ.w (kJ.at []) <|
     .adc 2 0 4 5 jQ.ty jQ.w (jQ.at []) <|
     .lp [0,1,4,3,5,6] (fun eO=>⟨iD a1,[cV.o eO.1,wK,.cells [iC 6,iC 0,.str [],.own 3 ([r1.1].length),.own 4 eO.2.1.length,.own 5 eO.2.2.length],cL.row [r1.1],kJ.row eO.2.1,jQ.row eO.2.2],[],1⟩) fun eO =>
     .look (default:Bool) _ [0] (j8 K eO.1 3) (fun _=>rfl) fun aO3 =>
     .look (default:Bool) _ [0] (jZ K eO.1 z6) (fun _=>rfl) fun aT5 =>
     .ite _ (
      .bk 1 (fun vB=>⟨iD a1,[cV.o vB.1,wK,.cells [iC 6,iC 0,.str [],.own 3 ([r1.1].length),.own 4 vB.2.1.length,.own 5 vB.2.2.length],cL.row [r1.1],kJ.row vB.2.1,jQ.row vB.2.2],[],1⟩) (
       .call [0] (oL _ _ _ _) fun aT6 =>
       .bk 2 (fun iM=>⟨iD a1++[(6,.c (.own 6 iM.2.length))],[cV.o iM.1,wK,.cells [iC 6,iC 0,.str [],.own 3 ([r1.1].length),.own 4 eO.2.1.length,.own 5 eO.2.2.length],cL.row [r1.1],kJ.row eO.2.1,jQ.row eO.2.2,E3.row iM.2],[],1⟩) (
        .ad 5 0 6 E3.ty E3.w (E3.at []) <|
        .lp [0,1,2,3,4,5,6] (fun kR=>⟨iD a1++[(6,.c (.own 6 kR.2.length))],[cV.o kR.1,wK,.cells [iC 6,iC 0,.str [],.own 3 ([r1.1].length),.own 4 eO.2.1.length,.own 5 eO.2.2.length],cL.row [r1.1],kJ.row eO.2.1,jQ.row eO.2.2,E3.row kR.2],[],1⟩) fun kR =>
        .ite _ (
         .bk 3 (fun aCP=>⟨iD a1++[(6,.c (.own 6 aCP.2.length))],[cV.o aCP.1,wK,.cells [iC 6,iC 0,.str [],.own 3 ([r1.1].length),.own 4 eO.2.1.length,.own 5 eO.2.2.length],cL.row [r1.1],kJ.row eO.2.1,jQ.row eO.2.2,E3.row aCP.2],[],1⟩) (
          .look (default:Bool) _ [0] (j8 K kR.1 3) (fun _=>rfl) fun aO4 =>
          .look (default:Bool) _ [0] (jZ K kR.1 z6) (fun _=>rfl) fun aT7 =>
          .jn (fun aKa=>⟨iD a1++[(6,.c (.own 6 kR.2.length))],[cV.o aKa,wK,.cells [iC 6,iC 0,.str [],.own 3 ([r1.1].length),.own 4 eO.2.1.length,.own 5 eO.2.2.length],cL.row [r1.1],kJ.row eO.2.1,jQ.row eO.2.2,E3.row kR.2],[],1⟩) (
           .ite _ (
            .call [0] (oL _ _ _ _) fun aT8 =>
            .nil [0,1,2,3,4,5,6] _) (
            .nil [0,1,2,3,4,5,6] _)) fun aKa =>
          .call [0] (yC _ _) fun aCO =>
          .ob 9 2 7 (El.cB E3 [aCO.1] rfl rfl) <|
          .ck _ <|
          .ap 9 1 8 43 E3 kR.2 [aCO.1] <|
          .call [0] (dG _ _ _) fun aKb =>
          .ite _ (
           .ret [0,1,2,3,4,5,8] _) (
           .nil [0,1,2,3,4,5,8] _)) fun aCP =>
         .nil [0,1,2,3,4,5,6] _) (
         .ret [0,1,2,3,4,5,6] _)) fun iM =>
       .call [0] (dB _ _ _) fun aAE =>
       .fz 12 4 6 <|
       .ob 12 3 7 (El.cB kJ [iM.2] rfl rfl) <|
       .ck _ <|
       .ap 12 2 8 53 kJ eO.2.1 [iM.2] <|
       .esc [0,1,2,3,5,8] [(cd (bd Tryz.f186) [1,1,1,0,0,0,1,0,1,1,1,1,1])] ⟨iD a1,[cV.o aAE,wK,.cells [iC 6,iC 0,.str [],.own 3 ([r1.1].length),.own 5 ((eO.2.1++[iM.2]).length),.own 4 eO.2.2.length],cL.row [r1.1],jQ.row eO.2.2,kJ.row (eO.2.1++[iM.2])],[],1⟩ (by
        refine Ref.vM 13 (by kernel_rfl) (by kernel_rfl) ?_
        refine gH.zH (dD:=⟨iD a1++[sP 55 2 0 5,sP 57 0 0 0,sI 59 (IntKind.i64.wrap (a1+1))],[cV.o aAE,wK,.cells [iC 6,iC 0,.str [],.own 3 ([r1.1].length),.own 5 ((eO.2.1++[iM.2]).length),.own 4 eO.2.2.length],cL.row [r1.1],jQ.row eO.2.2,kJ.row (eO.2.1++[iM.2])],[],1⟩) (fuel':=7) [0,2,3,4] [0,1,4,5,55,57,59] [0,1,2,3,4,5] rfl (by kernel_rfl) (by kernel_rfl) ?_
        refine gH.toX [6,8,10] ?_
        refine cW.aEM (fun (iN:(List cG) × cC)=>⟨iD a1,[cV.o iN.2,wK,.cells [iC 6,iC 0,.str [],.own 3 ([r1.1].length),.own 4 ((eO.2.1++[iM.2]).length),.own 5 ((eO.2.2++[iN.1]).length)],cL.row [r1.1],kJ.row (eO.2.1++[iM.2]),jQ.row (eO.2.2++[iN.1])],[],1⟩) (fun (iN:(List cG) × cC)=>(some (.inr (iN.2,(eO.2.1++[iM.2]),(eO.2.2++[iN.1]))))) (fun iN=>?_) (fun hk=>?_)
        ·
         exact Ref.pt (
          .nil [0,1,2,3,4,5] _)
        ·
         refine cW.aMN (fuel':=6) [[],[(1,56)]] [(1,56)] [0,1,4,5,55,57,59] [0,1,2,3,4,5] ⟨iD a1++[sP 55 2 0 5,(56,.c (.own 4 eO.2.2.length)),sP 57 0 0 0,sI 59 (IntKind.i64.wrap (a1+1))],[cV.o aAE,wK,.cells [iC 6,iC 0,.str [],.own 3 ([r1.1].length),.own 5 ((eO.2.1++[iM.2]).length),.own 4 eO.2.2.length],cL.row [r1.1],jQ.row eO.2.2,kJ.row (eO.2.1++[iM.2])],[],1⟩ ?_
         refine gN.mS (fuel':=5) 5 ?_
         refine gS.aD0 (dD:=⟨iD a1++[sP 55 2 0 5,(56,.c (.own 4 eO.2.2.length)),sP 57 0 0 0,sI 59 (IntKind.i64.wrap (a1+1)),(60,.c (.own 6 3))],[cV.o aAE,wK,.cells [iC 6,iC 0,.str [],.own 3 ([r1.1].length),.own 5 ((eO.2.1++[iM.2]).length),.own 4 eO.2.2.length],cL.row [r1.1],jQ.row eO.2.2,kJ.row (eO.2.1++[iM.2]),.row 9 1 3 (wN [[.str aLH],[.str aCQ],[.str nX]])],[],1⟩) 5 [0,1,4,5,55,56,57,59,60] [0,1,2,3,4,5,6] (by kernel_rfl) (by kernel_rfl) ?_
         refine gN.conv (qB.obj 6 (E9.row [aLH,aCQ,nX]) (El.cB E9 [aLH,aCQ,nX] rfl (by kernel_rfl)) (by kernel_rfl)) ?_
         refine gN.conv (qB.slot 60 (.c (.own 6 ([aLH,aCQ,nX].length))) (jR.c (hO.own (by first | (simp;done) | (simp;omega) | omega))) (by kernel_rfl)) ?_
         refine gN.mS (fuel':=4) 6 ?_
         refine gS.conv (qB.freeze (dD:=⟨(60,.c (E9.tree [aLH,aCQ,nX]))::(iD a1++[sP 55 2 0 5,(56,.c (.own 4 eO.2.2.length)),sP 57 0 0 0,sI 59 (IntKind.i64.wrap (a1+1))]),[cV.o aAE,wK,.cells [iC 6,iC 0,.str [],.own 3 ([r1.1].length),.own 5 ((eO.2.1++[iM.2]).length),.own 4 eO.2.2.length],cL.row [r1.1],jQ.row eO.2.2,kJ.row (eO.2.1++[iM.2]),.dead],[],1⟩) 6 (by kernel_rfl)) ?_
         refine gS.dA (t:=61) 6 [0] rfl (by kernel_rfl) (aG2 aAE (IntKind.i64.wrap (a1+1)) [aLH,aCQ,nX]) (fun iN=>?_)
         refine gN.mS (fuel':=3) 7 ?_
         refine gS.aD0 (dD:=⟨iD a1++[sP 55 2 0 5,(56,.c (.own 4 eO.2.2.length)),(62,.c (.own 6 1))],[cV.o iN.2,wK,.cells [iC 6,iC 0,.str [],.own 3 ([r1.1].length),.own 5 ((eO.2.1++[iM.2]).length),.own 4 eO.2.2.length],cL.row [r1.1],jQ.row eO.2.2,kJ.row (eO.2.1++[iM.2]),.row 33 1 1 (wN [[dO.tree iN.1]])],[],1⟩) 7 [0,1,4,5,55,56,62] [0,1,2,3,4,5,7] (by kernel_rfl) (by kernel_rfl) ?_
         refine gN.conv (qB.obj 6 (jQ.row [iN.1]) (El.cB jQ [iN.1] rfl (by kernel_rfl)) (by kernel_rfl)) ?_
         refine gN.conv (qB.slot 62 (.c (.own 6 ([iN.1].length))) (jR.c (hO.own (by first | (simp;done) | (simp;omega) | omega))) (by kernel_rfl)) ?_
         refine gN.close ?_
         refine cW.mS (fuel':=2) 8 (by kernel_rfl) ?_
         refine eG.writes (vs:=[room ((eO.2.2.length+([iN.1].length)) * 24)]) (dD:=⟨iD a1++[(63,.c (.own 6 (eO.2.2.length+([iN.1].length))))],[cV.o iN.2,wK,.cells [iC 6,iC 0,.str [],.own 3 ([r1.1].length),.own 5 ((eO.2.1++[iM.2]).length),.own 4 eO.2.2.length],cL.row [r1.1],.dead,kJ.row (eO.2.1++[iM.2]),.row 33 1 (eO.2.2.length+([iN.1].length)) fun i j=>bif Nat.blt i eO.2.2.length then jQ.at eO.2.2 i j else (jQ.at [iN.1]) (i - eO.2.2.length) j],[],1⟩) 8 [0,1,4,5,63] [0,1,2,3,4,5,7] (by kernel_rfl) (by kernel_rfl) ?_
         refine cW.conv (Conv.ob 6 (jQ.row (eO.2.2++[iN.1])) (El.jE jQ eO.2.2 [iN.1] rfl rfl)) ?_
         refine cW.conv (Conv.sl 63 (.c (.own 6 ((eO.2.2++[iN.1]).length))) (jR.c (hO.own (by first | (simp;done) | (simp;omega) | omega)))) ?_
         refine cW.v0 (fuel':=1) [9] [0,1,4,5,63,64] [0,1,2,3,4,5,6] ?_
         refine cW.mS (fuel':=0) 10 (by kernel_rfl) ?_
         refine eG.w0 10 [0,1,4,5] [0,1,2,3,5,6] ?_
         refine cW.done (by kernel_rfl) ?_
         refine Ref.ck ⟨iD a1,[cV.o iN.2,wK,.cells [iC 6,iC 0,.str [],.own 3 ([r1.1].length),.own 4 ((eO.2.1++[iM.2]).length),.own 5 ((eO.2.2++[iN.1]).length)],cL.row [r1.1],kJ.row (eO.2.1++[iM.2]),jQ.row (eO.2.2++[iN.1])],[],1⟩ [0,1,4,5] [0,1,2,3,4,5] ?_
         exact hk iN)) fun vB =>
      .nil [0,1,2,3,4,5] _) (
      .ret [0,1,2,3,4,5] _)) fun rZ =>
    .ex [0,2,3] <|
    .tx [4,6,8] <|
    .kn fun tM aWw =>
    .asm _ fun h1 =>
    .all [0,4,5,65,67,68,66,69,70,71,72] (rg (cd (bd Tryz.f186) [1,1,1,1,0])) [true,false,true,true,false,false,false,false,false] (hl [(4,.kc [.s 0] (bS.eq (aUa _ _ _) aWw) []),(5,.no [.bd 70 jQ [tM.1]]),(6,.ck _ h1 [.ap 71 jQ rZ.2.2 [tM.1]])]) ⟨aAa,[cV.o tM.2,wK,.cells [iC 6,iC 0,.str [],.own 3 ([r1.1].length),.own 4 rZ.2.1.length,.own 5 ((rZ.2.2++[tM.1]).length)],cL.row [r1.1],kJ.row rZ.2.1,jQ.row (rZ.2.2++[tM.1])],[],1⟩ [.k 0,.s 4,.s 5,.o 2 3,.o 2 4,.o 2 5] <|
    .call [0] (dB _ _ _) fun aT9 =>
    .fz 16 0 3 <|
    .fz 16 0 4 <|
    .fz 16 0 5 <|
    .ok 16 0 1 5 (x:=jQ.tree (rZ.2.2++[tM.1])) (y:=lX (rZ.2.2++[tM.1])) (uK _) <|
    .ret [0,1] _)
  ·
   intro a0 a1 a2
   refine bS.it Tryz.f212 (fun r=>⟨[(6,.c (dO.tree r.1))],[cV.o r.2],[],1⟩) ?_
   rw[aIP]
   exact Ref.pt (
    .call [0] (dG _ _ _) fun r1 =>
    .ite _ (
     .sl 2 0 6 (x:=.c (.nil)) (y:=(.c (dO.tree []))) (jR.c (El.cE dO)) <|
     .ret [0] _) (
     .ob 3 2 1 (El.cB E9 [a2] rfl rfl) <|
     .fz 3 2 1 <|
     .call [0] (aG2 _ _ _) fun r2 =>
     .ret [0] _))
theorem aKc (K:Nat) (a0:cC) (a1:Int) (a2:(List Bytes)):bS Tryz.prog 114 [.c (.ptr 0 0 0),.c (.val (.int .i64 a1)),.c (E9.tree a2)] [cV.o a0] (bV (yK K a0 a1 a2)) (fun r=>.c (dO.tree r.1)) (fun r=>[cV.o r.2]):=(aSv K).1 a0 a1 a2
def aO6 (K:Nat) (a0:cC):Option ((gX × cC) ⊕ (gX × cC)) :=
 ((bV (fS K a0 ([65,66,83,84,82,65,67,84]:Bytes))).bind (fun r1=>((bV (fS K r1.2 ([70,73,78,65,76]:Bytes))).bind (fun r2=>((bV (nJ K r2.2)).bind (fun r3=>((bV (fS K r3.2 ([69,88,84,69,78,68,83]:Bytes))).bind (fun r4=>(bP (if r4.1=true then ((bV (nJ K r4.2)).bind (fun r7=>(some (.inr (r7.2,r7.1))))) else (some (.inr (r4.2,([]:Bytes))))) (fun (u6:cC × Bytes)=>((bV (fS K u6.1 ([73,77,80,76,69,77,69,78,84,83]:Bytes))).bind (fun r8=>(bP (if r8.1=true then (bP (bN ((iter K (fun (rL:cC × (List Bytes))=>(if ((rL.1.iS:Int) == 0)=true then (bP (bN ((cF true (bV (rW K rL.1 1)) default).bind (fun a0f=>(bP (if a0f=true then ((bV (F74 K rL.1 (Int.ofNat rL.2.length) 4)).bind (fun a0g=>(some (.inr (a0g))))) else (some (.inr (rL.1)))) (fun (aDG:cC)=>((bV (nJ K aDG)).bind (fun aDJ=>(bW [room ((rL.2.length+([aDJ.1].length)) * 16)] ((bV (fS K aDJ.2 ([44]:Bytes))).bind (fun aSx=>(if (!aSx.1)=true then (some (.inl (Sum.inr (Sum.inl (aSx.2,(rL.2++[aDJ.1])))))) else (some (.inr (aSx.2,(rL.2++[aDJ.1]))))))))))))))) (fun (aLI:cC × (List Bytes))=>(some (.inr (aLI.1,aLI.2))))) else (some (.inl (Sum.inl (rL.1,rL.2)))))) (r8.2,[])).map .inl)) (fun (aLJ:cC × (List Bytes))=>(some (.inr (aLJ.1,aLJ.2))))) else (some (.inr (r8.2,[])))) (fun (aAV:cC × (List Bytes))=>((bV (fP K aAV.1 ([59]:Bytes))).bind (fun a0h=>((bV (aIG K a0h)).bind (fun aLK=>(bP (bN ((iter K (fun (yL:cC × (List iT))=>((cF true (bV (F73 K yL.1 ([77,69,84,72,79,68]:Bytes))) default).bind (fun a0i=>(if a0i=true then (bP (bN ((bV (F74 K yL.1 (Int.ofNat yL.2.length) 6)).bind (fun a0j=>((bV (fP K a0j ([77,69,84,72,79,68]:Bytes))).bind (fun a0k=>((bV (fS K a0k ([79,86,69,82,82,73,68,69]:Bytes))).bind (fun aLL=>((bV (fS K aLL.2 ([65,66,83,84,82,65,67,84]:Bytes))).bind (fun aLM=>((bV (fS K aLM.2 ([70,73,78,65,76]:Bytes))).bind (fun aLN=>((bV (nJ K aLN.2)).bind (fun aLO=>((bV (aLy K aLO.2)).bind (fun aLP=>((bV (aLz K aLP.2)).bind (fun aLQ=>((bV (fP K aLQ.2 ([59]:Bytes))).bind (fun a0l=>((bV (aIG K a0l)).bind (fun aLR=>((bV (yK K aLR.2 1 [])).bind (fun aLS=>((bV (fP K aLS.2 ([69,78,68,95,77,69,84,72,79,68]:Bytes))).bind (fun aFm=>(bW [room ((yL.2.length+([(⟨aLO.1,aLL.1,aLM.1,aLN.1,aLP.1,aLQ.1,aLR.1,aLS.1⟩:iT)].length)) * 136)] (some (.inr (aFm,(yL.2++[(⟨aLO.1,aLL.1,aLM.1,aLN.1,aLP.1,aLQ.1,aLR.1,aLS.1⟩:iT)])))))))))))))))))))))))))))))) (fun (aIQ:cC × (List iT))=>(some (.inr (aIQ.1,aIQ.2))))) else (some (.inl (Sum.inl (yL.1,yL.2)))))))) (aLK.2,[])).map .inl)) (fun (aIR:cC × (List iT))=>((bV (fP K aIR.1 ([69,78,68,95,67,76,65,83,83]:Bytes))).bind (fun a0m=>(some (.inl ((⟨2,r3.1,u6.2,aAV.2,r1.1,r2.1,aLK.1,aIR.2,[],0,0⟩:gX),a0m)))))))))))))))))))))))))
abbrev aCR (v0:Bytes × cC) (v1:cC × Bytes) (v2:cC × (List Bytes)) (v3:Bool × cC) (v4:Bool × cC):List Go.Dl.Obj:=[oX2,.cells [iC 2,.str v0.1,.str v1.2,.own 3 v2.2.length,bC v3.1,bC v4.1,.nil,.nil,.nil,iC 0,iC 0],E9.row v2.2]
abbrev pW:List (Nat × D):=[sP 0 0 0 0,sP 2 1 0 0,sP 3 2 0 0]
theorem aSy (K:Nat) (a0:cC):bS Tryz.prog 110 [.c (.ptr 0 0 0)] [cV.o a0] (bV (aO6 K a0)) (fun r=>.agg (gT.cs r.1)) (fun r=>[cV.o r.2,gT.o r.1]):=by
 refine bS.it Tryz.f110 (fun r=>⟨[sP 2 1 0 0],[cV.o r.2,gT.o r.1],[],1⟩) ?_
 unfold aO6
 exact Ref.pt (
  .call [0] (dG _ _ _) fun r1 =>
  .call [0] (dG _ _ _) fun r2 =>
  .call [0] (gP _ _) fun r3 =>
  .call [0] (dG _ _ _) fun r4 =>
  .jn (fun u6=>⟨pW,[cV.o u6.1,oX2,.cells [iC 2,.str r3.1,.str u6.2,.nil,bC r1.1,bC r2.1,.nil,.nil,.nil,iC 0,iC 0]],[],1⟩) (
   .ite _ (
    .call [0] (gP _ _) fun r7 =>
    .nil [0,1,2] _) (
    .nil [0,1,2] _)) fun u6 =>
  .call [0] (dG _ _ _) fun r8 =>
  .jn (fun aAV=>⟨pW,cV.o aAV.1::aCR r3 u6 aAV r1 r2,[],1⟩) (
   .ite _ (
    .bk 0 (fun aLJ=>⟨pW,cV.o aLJ.1::aCR r3 u6 aLJ r1 r2,[],1⟩) (
     .adc 7 0 2 3 E9.ty E9.w (E9.at []) <|
     .lp [0,1,2,3] (fun rL=>⟨pW,cV.o rL.1::aCR r3 u6 rL r1 r2,[],1⟩) fun rL =>
     .ite _ (
      .bk 1 (fun aLI=>⟨pW,cV.o aLI.1::aCR r3 u6 aLI r1 r2,[],1⟩) (
       .look (default:Bool) _ [0] (j8 K rL.1 1) (fun _=>rfl) fun a0f =>
       .jn (fun aDG=>⟨pW,cV.o aDG::aCR r3 u6 rL r1 r2,[],1⟩) (
        .ite _ (
         .call [0] (oL _ _ _ _) fun a0g =>
         .nil [0,1,2,3] _) (
         .nil [0,1,2,3] _)) fun aDG =>
       .ex [0,2] <|
       .tx [3,5,7] <|
       .kn fun aDJ a0n =>
       .asm _ fun h1 =>
       .all [0,2,3,34,36,35,37,38,39,40] (rg (cd (bd Tryz.f110) [1,1,1,1,1,1,0,1,0,0,0,1,0,1,0])) [true,false,true,false,false,false,false,false] (hl [(3,.kc [.s 0] (bS.eq (gP _ _) a0n) []),(4,.no [.bd 38 E9 [aDJ.1]]),(5,.ck _ h1 [.ap 39 E9 rL.2 [aDJ.1]])]) ⟨pW,[cV.o aDJ.2,oX2,.cells [iC 2,.str r3.1,.str u6.2,.own 3 ((rL.2++[aDJ.1]).length),bC r1.1,bC r2.1,.nil,.nil,.nil,iC 0,iC 0],E9.row (rL.2++[aDJ.1])],[],1⟩ [.k 0,.s 2,.s 3,.o 2 3] <|
       .call [0] (dG _ _ _) fun aSx =>
       .ite _ (
        .ret [0,1,2,3] _) (
        .nil [0,1,2,3] _)) fun aLI =>
      .nil [0,1,2,3] _) (
      .ret [0,1,2,3] _)) fun aLJ =>
    .nil [0,1,2,3] _) (
    .adc 7 0 2 3 E9.ty E9.w (E9.at []) <|
    .nil [0,1,2,3] _)) fun aAV =>
  .call [0] (dB _ _ _) fun a0h =>
  .call [0] (aFt _ _) fun aLK =>
  .bk 2 (fun aIR=>⟨pW,[cV.o aIR.1,oX2,.cells [iC 2,.str r3.1,.str u6.2,.own 3 aAV.2.length,bC r1.1,bC r2.1,eX.tree aLK.1,.own 4 aIR.2.length,.nil,iC 0,iC 0],E9.row aAV.2,j3.row aIR.2],[],1⟩) (
   .adc 14 0 2 7 j3.ty j3.w (j3.at []) <|
   .lp [0,1,2,3,4] (fun yL=>⟨pW,[cV.o yL.1,oX2,.cells [iC 2,.str r3.1,.str u6.2,.own 3 aAV.2.length,bC r1.1,bC r2.1,eX.tree aLK.1,.own 4 yL.2.length,.nil,iC 0,iC 0],E9.row aAV.2,j3.row yL.2],[],1⟩) fun yL =>
   .look (default:Bool) _ [0] (jZ K yL.1 ([77,69,84,72,79,68]:Bytes)) (fun _=>rfl) fun a0i =>
   .ite _ (
    .bk 3 (fun aIQ=>⟨pW,[cV.o aIQ.1,oX2,.cells [iC 2,.str r3.1,.str u6.2,.own 3 aAV.2.length,bC r1.1,bC r2.1,eX.tree aLK.1,.own 4 aIQ.2.length,.nil,iC 0,iC 0],E9.row aAV.2,j3.row aIQ.2],[],1⟩) (
     .call [0] (oL _ _ _ _) fun a0j =>
     .call [0] (dB _ _ _) fun a0k =>
     .call [0] (dG _ _ _) fun aLL =>
     .call [0] (dG _ _ _) fun aLM =>
     .call [0] (dG _ _ _) fun aLN =>
     .call [0] (gP _ _) fun aLO =>
     .call [0] (aJ4 _ _) fun aLP =>
     .call [0] (aJ5 _ _) fun aLQ =>
     .call [0] (dB _ _ _) fun a0l =>
     .call [0] (aFt _ _) fun aLR =>
     .call [0] (bS.le (aKc _ _ _ _) (gE.cons (jR.refl _) (gE.cons (jR.refl _) (gE.cons (jR.c (El.cE _)) gE.nil)))) fun aLS =>
     .call [0] (dB _ _ _) fun aFm =>
     .ob 29 3 7 (El.cB j3 [(⟨aLO.1,aLL.1,aLM.1,aLN.1,aLP.1,aLQ.1,aLR.1,aLS.1⟩:iT)] rfl rfl) <|
     .ck _ <|
     .ap 29 2 8 91 j3 yL.2 [(⟨aLO.1,aLL.1,aLM.1,aLN.1,aLP.1,aLQ.1,aLR.1,aLS.1⟩:iT)] <|
     .nil [0,1,2,3,8] _) fun aIQ =>
    .nil [0,1,2,3,4] _) (
    .ret [0,1,2,3,4] _)) fun aIR =>
  .call [0] (dB _ _ _) fun a0m =>
  .fz 31 0 3 <|
  .fz 31 0 4 <|
  .ok 31 0 1 8 (x:=.nil) (y:=dO.tree []) (El.cE dO) <|
  .ret [0,1] _)
def F76 (K:Nat) (a0:cC):Option ((gX × cC) ⊕ (gX × cC)) :=
 (bP (bN ((bV (fS K a0 ([73,78,84,69,82,70,65,67,69]:Bytes))).bind (fun zT=>(if zT.1=true then ((bV (aOL K zT.2)).bind (fun r25=>(some (.inl (Sum.inr (r25.1,r25.2)))))) else ((bV (fS K zT.2 ([67,76,65,83,83]:Bytes))).bind (fun r26=>(if r26.1=true then ((bV (aO6 K r26.2)).bind (fun r27=>(some (.inl (Sum.inr (r27.1,r27.2)))))) else ((bV (fS K r26.2 ([80,82,79,71,82,65,77]:Bytes))).bind (fun r28=>(if r28.1=true then ((bV (nJ K r28.2)).bind (fun r29=>((bV (fP K r29.2 ([59]:Bytes))).bind (fun r30=>((bV (aIG K r30)).bind (fun r31=>((bV (yK K r31.2 1 [])).bind (fun r32=>((bV (fP K r32.2 ([69,78,68,95,80,82,79,71,82,65,77]:Bytes))).bind (fun r33=>(some (.inl (Sum.inr ((⟨3,r29.1,([]:Bytes),[],false,false,r31.1,[],r32.1,0,0⟩:gX),r33)))))))))))))) else ((bV (fS K r28.2 ([84,65,83,75]:Bytes))).bind (fun r34=>(if r34.1=true then ((bV (nJ K r34.2)).bind (fun r35=>((bV (fP K r35.2 ([40]:Bytes))).bind (fun r36=>((bV (fP K r36 ([73,78,84,69,82,86,65,76]:Bytes))).bind (fun r37=>((bV (aCH K r37)).bind (fun r38=>((bV (fP K r38.2 ([44]:Bytes))).bind (fun r39=>((bV (fP K r39 ([80,82,73,79,82,73,84,89]:Bytes))).bind (fun r40=>((bV (aCH K r40)).bind (fun r41=>((bV (fP K r41.2 ([41]:Bytes))).bind (fun r42=>((bV (fP K r42 ([58]:Bytes))).bind (fun oH=>((bV (nJ K oH)).bind (fun r44=>((bV (fP K r44.2 ([59]:Bytes))).bind (fun r45=>(some (.inl (Sum.inr ((⟨4,r35.1,r44.1,[],false,false,[],[],[],r38.1,r41.1⟩:gX),r45)))))))))))))))))))))))))) else (some (.inr (r34.2)))))))))))))))) (fun (iX:cC)=>((bV (yB K iX 3)).bind (fun r46=>(some (.inl ((⟨0,([]:Bytes),([]:Bytes),[],false,false,[],[],[],0,0⟩:gX),r46)))))))
theorem aWx (K:Nat) (a0:cC):bS Tryz.prog 76 [.c (.ptr 0 0 0)] [cV.o a0] (bV (F76 K a0)) (fun r=>.agg (gT.cs r.1)) (fun r=>[cV.o r.2,gT.o r.1]):=by
 refine bS.it Tryz.f76 (fun r=>⟨[sP 2 1 0 0],[cV.o r.2,gT.o r.1],[],1⟩) ?_
 unfold F76
 exact Ref.pt (
  .bk 0 (fun iX=>⟨[sP 0 0 0 0,sP 2 1 0 0],[cV.o iX,oX2],[],1⟩) (
   .call [0] (dG _ _ _) fun zT =>
   .ite _ (
    .call [0] (aSk _ _) fun r25 =>
    .ret [0,1] _) (
    .call [0] (dG _ _ _) fun r26 =>
    .ite _ (
     .call [0] (aSy _ _) fun r27 =>
     .ret [0,1] _) (
     .call [0] (dG _ _ _) fun r28 =>
     .ite _ (
      .call [0] (gP _ _) fun r29 =>
      .call [0] (dB _ _ _) fun r30 =>
      .call [0] (aFt _ _) fun r31 =>
      .call [0] (bS.le (aKc _ _ _ _) (gE.cons (jR.refl _) (gE.cons (jR.refl _) (gE.cons (jR.c (El.cE _)) gE.nil)))) fun r32 =>
      .call [0] (dB _ _ _) fun r33 =>
      .ok 11 0 1 3 (x:=.nil) (y:=E9.tree []) (El.cE E9) <|
      .ok 11 0 1 7 (x:=.nil) (y:=j3.tree []) (El.cE j3) <|
      .ret [0,1] _) (
      .call [0] (dG _ _ _) fun r34 =>
      .ite _ (
       .call [0] (gP _ _) fun r35 =>
       .call [0] (dB _ _ _) fun r36 =>
       .call [0] (dB _ _ _) fun r37 =>
       .call [0] (rK _ _) fun r38 =>
       .call [0] (dB _ _ _) fun r39 =>
       .call [0] (dB _ _ _) fun r40 =>
       .call [0] (rK _ _) fun r41 =>
       .call [0] (dB _ _ _) fun r42 =>
       .call [0] (dB _ _ _) fun oH =>
       .call [0] (gP _ _) fun r44 =>
       .call [0] (dB _ _ _) fun r45 =>
       .ok 24 0 1 3 (x:=.nil) (y:=E9.tree []) (El.cE E9) <|
       .ok 24 0 1 6 (x:=.nil) (y:=eX.tree []) (El.cE eX) <|
       .ok 24 0 1 7 (x:=.nil) (y:=j3.tree []) (El.cE j3) <|
       .ok 24 0 1 8 (x:=.nil) (y:=dO.tree []) (El.cE dO) <|
       .ret [0,1] _) (
       .nil [0,1] _))))) fun iX =>
  .call [0] (mM _ _ _) fun r46 =>
  .ok 26 0 1 3 (x:=.nil) (y:=E9.tree []) (El.cE E9) <|
  .ok 26 0 1 6 (x:=.nil) (y:=eX.tree []) (El.cE eX) <|
  .ok 26 0 1 7 (x:=.nil) (y:=j3.tree []) (El.cE j3) <|
  .ok 26 0 1 8 (x:=.nil) (y:=dO.tree []) (El.cE dO) <|
  .ret [0,1] _)
end Go.Proofs.YtdbfbedholdjaaaGreat
