/- No conditions. -/
import Derived.Test.YtdbfbedholdjaaaGreatHLx
import Derived.Test.YtdbfbedholdjaaaGreatProg
set_option linter.unusedVariables false
set_option linter.unusedSimpArgs false
set_option linter.unusedSectionVars false
namespace Go.Proofs.YtdbfbedholdjaaaGreat
open Go Go.Proofs Go.Dl
variable [dO]
set_option maxRecDepth 100000
set_option maxHeartbeats 4000000
def F73 (K:Nat) (a0:cF) (a1:Bytes):Option ((Bool) ⊕ (Bool)) :=
 (bR (((a0.iQ:Int) != 0) || (decide ((a0.qT:Int) ≥ (Int.ofNat a0.ft.length)))) (fun (x1:Bool)=>(if x1=true then (some (.inl (false))) else (bY [cP a0.qT a0.ft.length] (bR ((((a0.ft.getD (a0.qT:Int).toNat default).aDb) == a1) && (((((a0.ft.getD (a0.qT:Int).toNat default).bU):Int) == 2) || ((((a0.ft.getD (a0.qT:Int).toNat default).bU):Int) == 4))) (fun (x3:Bool)=>(some (.inl (x3)))))))))
theorem j5 (K:Nat) (a0:cF) (a1:Bytes):bV Tryz.prog 73 [.c (cW.ep a0 0),.c (.str a1)] [] (bX (F73 K a0 a1)) (fun r=>.c (.val (.bool r))) (fun r=>[]):=by
 refine bV.it Tryz.f73 (fun r=>⟨[sB 4 r],[],[],0⟩) ?_
 unfold F73
 exact Ref.pt (
  .ex [0,1,2] <|
  .tx [] <|
  .ex [3,4,5,6,7,8,9,10,11,12,13,14,15,16] <|
  .lt _ fun x1 =>
  .ite _ (
   .ret [] _) (
   .ex [0,1,2,4,5,6] <|
   .tx [11] <|
   .hO [3,7,8,9] _ <|
   .all [1,32,5] (rg (cd (bd Tryz.f73) [1,1,0])) [true,true,true,true,true,true,true,true,true,true,false,false] (hl []) ⟨[sS 1 a1,sP 5 0 0 0],[oN.o (a0.ft.getD (a0.qT:Int).toNat default)],[],0⟩ [.s 5] <|
   .lt _ fun x3 =>
   .ret [] _))
def F75 (K:Nat) (a0:cF):Option ((Int × cF) ⊕ (Int × cF)) :=
 (bR (decide ((a0.qT:Int)<(Int.ofNat a0.ft.length))) (fun (x1:Bool)=>(if x1=true then (bY [cP a0.qT a0.ft.length] (bR ((a0.ft.getD (a0.qT:Int).toNat default).fAt) (fun (x2:Int)=>(some (.inl (x2,a0)))))) else (some (.inl (a0.aHw,a0))))))
theorem aPW (K:Nat) (a0:cF):bV Tryz.prog 75 [.c (.ptr 0 0 0)] [cW.o a0] (bX (F75 K a0)) (fun r=>.c (.val (.int .i64 r.1))) (fun r=>[cW.o r.2]):=by
 refine bV.it Tryz.f75 (fun r=>⟨[sI 2 r.1],[cW.o r.2],[],1⟩) ?_
 unfold F75
 exact Ref.pt (
  .ex [0,1,2,4,5,6] <|
  .tx [] <|
  .ex [3,7,8,9] <|
  .lt _ fun x1 =>
  .ite _ (
   .ex [0,1,2,4,5,6] <|
   .tx [] <|
   .hO [3,7,8,9,10,11] _ <|
   .lt _ fun x2 =>
   .ret [0] _) (
   .ret [0] _))
def yV (K:Nat) (a0:cF) (a1:Int):Option ((cF) ⊕ (cF)) :=
 (if ((a0.iQ:Int) == 0)=true then ((bX (F75 K a0)).bind (fun r1=>(some (.inr ((⟨r1.2.ft,(Int.ofNat r1.2.ft.length),r1.2.aHw,a1,r1.1⟩:cF)))))) else (some (.inr (a0))))
theorem mP (K:Nat) (a0:cF) (a1:Int):bV Tryz.prog 107 [.c (.ptr 0 0 0),.c (.val (.int .i64 a1))] [cW.o a0] (bX (yV K a0 a1)) (fun r=>.jW []) (fun r=>[cW.o r]):=by
 refine bV.it Tryz.f107 (fun r=>⟨[],[cW.o r],[],1⟩) ?_
 unfold yV
 exact Ref.pt (
  .ite _ (
   .call [0] (aPW _ _) fun r1 =>
   .nil [0] _) (
   .nil [0] _))
def F74 (K:Nat) (a0:cF) (a1:Int) (a2:Int):Option ((cF) ⊕ (cF)) :=
 (if (decide ((a1:Int) ≥ a2))=true then ((bX (yV K a0 5)).bind (fun r1=>(some (.inr (r1))))) else (some (.inr (a0))))
theorem oO (K:Nat) (a0:cF) (a1:Int) (a2:Int):bV Tryz.prog 74 [.c (.ptr 0 0 0),.c (.val (.int .i64 a1)),.c (.val (.int .i64 a2))] [cW.o a0] (bX (F74 K a0 a1 a2)) (fun r=>.jW []) (fun r=>[cW.o r]):=by
 refine bV.it Tryz.f74 (fun r=>⟨[],[cW.o r],[],1⟩) ?_
 unfold F74
 exact Ref.pt (
  .ite _ (
   .call [0] (mP _ _ _) fun r1 =>
   .nil [0] _) (
   .nil [0] _))
def fV (K:Nat) (a0:cF) (a1:Bytes):Option ((Bool × cF) ⊕ (Bool × cF)) :=
 ((cE true (bX (F73 K a0 a1)) default).bind (fun r1=>(if r1=true then (some (.inl (true,(⟨a0.ft,(IntKind.i64.wrap (a0.qT+1)),a0.aHw,a0.iQ,a0.aHx⟩:cF)))) else (some (.inl (false,a0))))))
theorem dH (K:Nat) (a0:cF) (a1:Bytes):bV Tryz.prog 108 [.c (.ptr 0 0 0),.c (.str a1)] [cW.o a0] (bX (fV K a0 a1)) (fun r=>.c (.val (.bool r.1))) (fun r=>[cW.o r.2]):=by
 refine bV.it Tryz.f108 (fun r=>⟨[sB 4 r.1],[cW.o r.2],[],1⟩) ?_
 unfold fV
 exact Ref.pt (
  .look (default:Bool) _ [0] (j5 K a0 a1) (fun _=>rfl) fun r1 =>
  .ite _ (
   .ret [0] _) (
   .ret [0] _))
def sQ (K:Nat) (a0:cF) (a1:Int):Option ((Bool) ⊕ (Bool)) :=
 (bY [!(((a0.iQ:Int) == 0) && (decide ((a0.qT:Int)<(Int.ofNat a0.ft.length)))) || cP a0.qT a0.ft.length] (bR ((((a0.iQ:Int) == 0) && (decide ((a0.qT:Int)<(Int.ofNat a0.ft.length)))) && ((((a0.ft.getD (a0.qT:Int).toNat default).bU):Int) == a1)) (fun (x1:Bool)=>(some (.inl (x1))))))
theorem kG (K:Nat) (a0:cF) (a1:Int):bV Tryz.prog 139 [.c (cW.ep a0 0),.c (.val (.int .i64 a1))] [] (bX (sQ K a0 a1)) (fun r=>.c (.val (.bool r))) (fun r=>[]):=by
 refine bV.it Tryz.f139 (fun r=>⟨[sB 4 r],[],[],0⟩) ?_
 unfold sQ
 exact Ref.pt (
  .ex [0,1,2] <|
  .tx [] <|
  .hO [3,4,5,6,7,8,9,10,11,12,13,14,15,16,17,18,19,20,21,22,23,24,25,26,27,28,29,30,31,32] _ <|
  .lt _ fun x1 =>
  .ret [] _)
def nL (K:Nat) (a0:cF):Option ((Bytes × cF) ⊕ (Bytes × cF)) :=
 ((cE true (bX (sQ K a0 1)) default).bind (fun r1=>(if (!r1)=true then ((bX (yV K a0 3)).bind (fun r2=>(some (.inl (([]:Bytes),r2))))) else (bY [cP (IntKind.i64.wrap ((IntKind.i64.wrap (a0.qT+1)) - 1)) a0.ft.length] (bR ((a0.ft.getD ((IntKind.i64.wrap ((IntKind.i64.wrap (a0.qT+1)) - 1)):Int).toNat default).aDb) (fun (x3:Bytes)=>(some (.inl (x3,(⟨a0.ft,(IntKind.i64.wrap (a0.qT+1)),a0.aHw,a0.iQ,a0.aHx⟩:cF))))))))))
theorem gQ (K:Nat) (a0:cF):bV Tryz.prog 111 [.c (.ptr 0 0 0)] [cW.o a0] (bX (nL K a0)) (fun r=>.c (.str r.1)) (fun r=>[cW.o r.2]):=by
 refine bV.it Tryz.f111 (fun r=>⟨[sS 2 r.1],[cW.o r.2],[],1⟩) ?_
 unfold nL
 exact Ref.pt (
  .look (default:Bool) _ [0] (kG K a0 1) (fun _=>rfl) fun r1 =>
  .ite _ (
   .call [0] (mP _ _ _) fun r2 =>
   .ret [0] _) (
   .ex [0,1,2,4,5,6] <|
   .tx [] <|
   .hO [3,7,8,9,10,11,12] _ <|
   .lt _ fun x3 =>
   .ret [0] _))
def fR (K:Nat) (a0:cF) (a1:Bytes):Option ((cF) ⊕ (cF)) :=
 ((bX (fV K a0 a1)).bind (fun r1=>(if (!r1.1)=true then ((bX (yV K r1.2 3)).bind (fun r2=>(some (.inr (r2))))) else (some (.inr (r1.2))))))
theorem dB (K:Nat) (a0:cF) (a1:Bytes):bV Tryz.prog 112 [.c (.ptr 0 0 0),.c (.str a1)] [cW.o a0] (bX (fR K a0 a1)) (fun r=>.jW []) (fun r=>[cW.o r]):=by
 refine bV.it Tryz.f112 (fun r=>⟨[],[cW.o r],[],1⟩) ?_
 unfold fR
 exact Ref.pt (
  .call [0] (dH _ _ _) fun r1 =>
  .ite _ (
   .call [0] (mP _ _ _) fun r2 =>
   .nil [0] _) (
   .nil [0] _))
def aDc (K:Nat) (a0:cF):Option ((Int × cF) ⊕ (Int × cF)) :=
 ((cE true (bX (sQ K a0 3)) default).bind (fun r1=>(if (!r1)=true then ((bX (yV K a0 3)).bind (fun r2=>(some (.inl (0,r2))))) else (bY [cP (IntKind.i64.wrap ((IntKind.i64.wrap (a0.qT+1)) - 1)) a0.ft.length] (bR ((a0.ft.getD ((IntKind.i64.wrap ((IntKind.i64.wrap (a0.qT+1)) - 1)):Int).toNat default).fN) (fun (x3:Int)=>(some (.inl (x3,(⟨a0.ft,(IntKind.i64.wrap (a0.qT+1)),a0.aHw,a0.iQ,a0.aHx⟩:cF))))))))))
theorem rS (K:Nat) (a0:cF):bV Tryz.prog 115 [.c (.ptr 0 0 0)] [cW.o a0] (bX (aDc K a0)) (fun r=>.c (.val (.int .i64 r.1))) (fun r=>[cW.o r.2]):=by
 refine bV.it Tryz.f115 (fun r=>⟨[sI 2 r.1],[cW.o r.2],[],1⟩) ?_
 unfold aDc
 exact Ref.pt (
  .look (default:Bool) _ [0] (kG K a0 3) (fun _=>rfl) fun r1 =>
  .ite _ (
   .call [0] (mP _ _ _) fun r2 =>
   .ret [0] _) (
   .ex [0,1,2,4,5,6] <|
   .tx [] <|
   .hO [3,7,8,9,10,11,12] _ <|
   .lt _ fun x3 =>
   .ret [0] _))
def aFX (K:Nat) (a0:cF):Option ((Int × cF) ⊕ (Int × cF)) :=
 ((bX (fV K a0 ([45]:Bytes))).bind (fun r1=>(if r1.1=true then ((bX (aDc K r1.2)).bind (fun r2=>(some (.inl ((IntKind.i64.wrap (0 - r2.1)),r2.2))))) else ((bX (aDc K r1.2)).bind (fun r3=>(some (.inl (r3.1,r3.2))))))))
theorem yW (K:Nat) (a0:cF):bV Tryz.prog 141 [.c (.ptr 0 0 0)] [cW.o a0] (bX (aFX K a0)) (fun r=>.c (.val (.int .i64 r.1))) (fun r=>[cW.o r.2]):=by
 refine bV.it Tryz.f141 (fun r=>⟨[sI 2 r.1],[cW.o r.2],[],1⟩) ?_
 unfold aFX
 exact Ref.pt (
  .call [0] (dH _ _ _) fun r1 =>
  .ite _ (
   .call [0] (rS _ _) fun r2 =>
   .ret [0] _) (
   .call [0] (rS _ _) fun r3 =>
   .ret [0] _))
def aPX (K:Nat) (a0:cF):Option ((Int × cF) ⊕ (Int × cF)) :=
 (bT (bQ ((iter K (fun (eW:cF × Int)=>(bR (decide ((eW.2:Int)<(Int.ofNat ([([]:Bytes),([84,79,78]:Bytes),([84,79,70]:Bytes),([84,80]:Bytes),([67,84,85]:Bytes),([67,84,68]:Bytes),([82,95,84,82,73,71]:Bytes),([70,95,84,82,73,71]:Bytes)].length)))) (fun (x38:Bool)=>(if x38=true then (bT (bQ (bY [cP eW.2 ([([]:Bytes),([84,79,78]:Bytes),([84,79,70]:Bytes),([84,80]:Bytes),([67,84,85]:Bytes),([67,84,68]:Bytes),([82,95,84,82,73,71]:Bytes),([70,95,84,82,73,71]:Bytes)].length)] (bR ([([]:Bytes),([84,79,78]:Bytes),([84,79,70]:Bytes),([84,80]:Bytes),([67,84,85]:Bytes),([67,84,68]:Bytes),([82,95,84,82,73,71]:Bytes),([70,95,84,82,73,71]:Bytes)].getD ((eW.2:Int).toNat) default) (fun (x42:Bytes)=>((bX (fV K eW.1 x42)).bind (fun oJ=>(if oJ.1=true then (some (.inl (Sum.inr (Sum.inr (eW.2,oJ.2))))) else (some (.inr (oJ.2)))))))))) (fun (u41:cF)=>(some (.inr (u41,(IntKind.i64.wrap (eW.2+1))))))) else (some (.inl (Sum.inl (eW.1)))))))) (a0,1)).map .inl)) (fun (eA:cF)=>(some (.inl (0,eA)))))
theorem aTR (K:Nat) (a0:cF):bV Tryz.prog 184 [.c (.ptr 0 0 0)] [cW.o a0] (bX (aPX K a0)) (fun r=>.c (.val (.int .i64 r.1))) (fun r=>[cW.o r.2]):=by
 refine bV.it Tryz.f184 (fun r=>⟨[sI 2 r.1],[cW.o r.2],[],1⟩) ?_
 unfold aPX
 exact Ref.pt (
  .ob 1 1 1 (El.b9 E9 [([]:Bytes),aPY,aPZ,wTP,aP0,aP1,yX,yY] rfl rfl) <|
  .bk 0 (fun eA=>⟨[],[cW.o eA],[],1⟩) (
   .lp [0,1] (fun eW=>⟨[sP 0 0 0 0,(3,.c (.own 1 ([([]:Bytes),aPY,aPZ,wTP,aP0,aP1,yX,yY].length))),sI 4 eW.2],[cW.o eW.1,E9.row [([]:Bytes),aPY,aPZ,wTP,aP0,aP1,yX,yY]],[],1⟩) fun eW =>
   .lt _ fun x38 =>
   .ite _ (
    .bk 1 (fun u41=>⟨[sP 0 0 0 0,(3,.c (.own 1 ([([]:Bytes),aPY,aPZ,wTP,aP0,aP1,yX,yY].length))),sI 4 eW.2],[cW.o u41,E9.row [([]:Bytes),aPY,aPZ,wTP,aP0,aP1,yX,yY]],[],1⟩) (
     .ck _ <|
     .lt _ fun x42 =>
     .call [0] (dH _ _ _) fun oJ =>
     .ite _ (
      .ret [0] _) (
      .nil [0,1] _)) fun u41 =>
    .nil [0,1] _) (
    .ret [0] _)) fun eA =>
  .ret [0] _)
def aJh (K:Nat) (a0:cF):Option ((fS × cF) ⊕ (fS × cF)) :=
 (bT (bQ ((bX (fV K a0 ([73,78,84]:Bytes))).bind (fun r21=>(if r21.1=true then ((bX (fV K r21.2 ([40]:Bytes))).bind (fun r22=>(if r22.1=true then ((bX (aFX K r22.2)).bind (fun r23=>((bX (fR K r23.2 ([46,46]:Bytes))).bind (fun r24=>((bX (aFX K r24)).bind (fun r25=>((bX (fR K r25.2 ([41]:Bytes))).bind (fun r26=>(some (.inr (r26,3,r23.1,r25.1,([]:Bytes)))))))))))) else (some (.inr (r22.2,1,0,0,([]:Bytes))))))) else ((bX (fV K r21.2 ([66,79,79,76]:Bytes))).bind (fun r27=>(if r27.1=true then (some (.inr (r27.2,2,0,0,([]:Bytes)))) else ((bX (fV K r27.2 ([65,82,82,65,89]:Bytes))).bind (fun r28=>(if r28.1=true then ((bX (fR K r28.2 ([91]:Bytes))).bind (fun r29=>((bX (aDc K r29)).bind (fun r30=>((bX (fR K r30.2 ([93]:Bytes))).bind (fun w9=>((bX (fR K w9 ([79,70]:Bytes))).bind (fun r32=>((bX (fR K r32 ([73,78,84]:Bytes))).bind (fun r33=>(some (.inr (r33,4,0,r30.1,([]:Bytes)))))))))))))) else ((bX (fV K r28.2 ([82,69,70,95,84,79]:Bytes))).bind (fun r34=>(if r34.1=true then ((bX (nL K r34.2)).bind (fun r35=>(some (.inr (r35.2,5,0,0,r35.1))))) else ((cE true (bX (sQ K r34.2 1)) default).bind (fun r36=>(if r36=true then ((bX (nL K r34.2)).bind (fun r37=>(some (.inr (r37.2,6,0,0,r37.1))))) else ((bX (aPX K r34.2)).bind (fun r38=>(if ((r38.1:Int) == 0)=true then ((bX (yV K r38.2 3)).bind (fun r39=>(some (.inr (r39,7,r38.1,0,([]:Bytes)))))) else (some (.inr (r38.2,7,r38.1,0,([]:Bytes))))))))))))))))))))))) (fun (iA:cF × Int × Int × Int × Bytes)=>(some (.inl ((⟨iA.2.1,iA.2.2.1,iA.2.2.2.1,iA.2.2.2.2⟩:fS),iA.1)))))
theorem aFY (K:Nat) (a0:cF):bV Tryz.prog 140 [.c (.ptr 0 0 0)] [cW.o a0] (bX (aJh K a0)) (fun r=>.agg (jV.cs r.1)) (fun r=>[cW.o r.2,.cells (jV.cs r.1)]):=by
 refine bV.it Tryz.f140 (fun r=>⟨[sP 2 1 0 0],[cW.o r.2,.cells (jV.cs r.1)],[],1⟩) ?_
 unfold aJh
 exact Ref.pt (
  .bk 0 (fun iA=>⟨[sP 2 1 0 0,sP 3 2 0 0],[cW.o iA.1,uU,.cells [iC iA.2.1,iC iA.2.2.1,iC iA.2.2.2.1,.str iA.2.2.2.2]],[],1⟩) (
   .call [0] (dH _ _ _) fun r21 =>
   .ite _ (
    .call [0] (dH _ _ _) fun r22 =>
    .ite _ (
     .call [0] (yW _ _) fun r23 =>
     .call [0] (dB _ _ _) fun r24 =>
     .call [0] (yW _ _) fun r25 =>
     .call [0] (dB _ _ _) fun r26 =>
     .nil [0,1,2] _) (
     .nil [0,1,2] _)) (
    .call [0] (dH _ _ _) fun r27 =>
    .ite _ (
     .nil [0,1,2] _) (
     .call [0] (dH _ _ _) fun r28 =>
     .ite _ (
      .call [0] (dB _ _ _) fun r29 =>
      .call [0] (rS _ _) fun r30 =>
      .call [0] (dB _ _ _) fun w9 =>
      .call [0] (dB _ _ _) fun r32 =>
      .call [0] (dB _ _ _) fun r33 =>
      .nil [0,1,2] _) (
      .call [0] (dH _ _ _) fun r34 =>
      .ite _ (
       .call [0] (gQ _ _) fun r35 =>
       .nil [0,1,2] _) (
       .look (default:Bool) _ [0] (kG K r34.2 1) (fun _=>rfl) fun r36 =>
       .ite _ (
        .call [0] (gQ _ _) fun r37 =>
        .nil [0,1,2] _) (
        .call [0] (aTR _ _) fun r38 =>
        .ite _ (
         .call [0] (mP _ _ _) fun r39 =>
         .nil [0,1,2] _) (
         .nil [0,1,2] _))))))) fun iA =>
  .ret [0,1] _)
def aMA (K:Nat) (a0:cF):Option (((List eZ) × cF) ⊕ ((List eZ) × cF)) :=
 ((bX (fR K a0 ([40]:Bytes))).bind (fun r1=>((bX (fV K r1 ([41]:Bytes))).bind (fun r2=>(if r2.1=true then (some (.inl ([],r2.2))) else (bT (bQ ((iter K (fun (u84:cF × (List eZ))=>(if ((u84.1.iQ:Int) == 0)=true then (bT (bQ ((cE true (bX (sQ K u84.1 1)) default).bind (fun a2S=>(bT (if a2S=true then ((bX (F74 K u84.1 (Int.ofNat u84.2.length) 3)).bind (fun a2T=>(some (.inr (a2T))))) else (some (.inr (u84.1)))) (fun (aTS:cF)=>((bX (nL K aTS)).bind (fun aJj=>((bX (fR K aJj.2 ([58]:Bytes))).bind (fun aHy=>((bX (aJh K aHy)).bind (fun aBk=>(bY [room ((u84.2.length+([(⟨aJj.1,aBk.1,0,0,0⟩:eZ)].length)) * 80)] ((bX (fV K aBk.2 ([44]:Bytes))).bind (fun aHz=>(if (!aHz.1)=true then ((bX (fR K aHz.2 ([41]:Bytes))).bind (fun aP4=>(some (.inl (Sum.inr (Sum.inl (aP4,(u84.2++[(⟨aJj.1,aBk.1,0,0,0⟩:eZ)])))))))) else (some (.inr (aHz.2,(u84.2++[(⟨aJj.1,aBk.1,0,0,0⟩:eZ)]))))))))))))))))))) (fun (aJk:cF × (List eZ))=>(some (.inr (aJk.1,aJk.2))))) else (some (.inl (Sum.inl (u84.1,u84.2)))))) (r2.2,[])).map .inl)) (fun (u63:cF × (List eZ))=>(some (.inl (u63.2,u63.1))))))))))
theorem aKM (K:Nat) (a0:cF):bV Tryz.prog 137 [.c (.ptr 0 0 0)] [cW.o a0] (bX (aMA K a0)) (fun r=>.c (eX.tree r.1)) (fun r=>[cW.o r.2]):=by
 refine bV.it Tryz.f137 (fun r=>⟨[(2,.c (eX.tree r.1))],[cW.o r.2],[],1⟩) ?_
 unfold aMA
 exact Ref.pt (
  .call [0] (dB _ _ _) fun r1 =>
  .call [0] (dH _ _ _) fun r2 =>
  .ite _ (
   .sl 4 0 2 (x:=.c (.nil)) (y:=(.c (eX.tree []))) (jS.c (El.cJ eX)) <|
   .ret [0] _) (
   .bk 0 (fun u63=>⟨[(3,.c (.own 1 u63.2.length))],[cW.o u63.1,eX.row u63.2],[],1⟩) (
    .ad 3 0 3 eX.ty eX.w (eX.at []) <|
    .lp [0,1] (fun u84=>⟨[sP 0 0 0 0,(3,.c (.own 1 u84.2.length))],[cW.o u84.1,eX.row u84.2],[],1⟩) fun u84 =>
    .ite _ (
     .bk 1 (fun aJk=>⟨[sP 0 0 0 0,(3,.c (.own 1 aJk.2.length))],[cW.o aJk.1,eX.row aJk.2],[],1⟩) (
      .look (default:Bool) _ [0] (kG K u84.1 1) (fun _=>rfl) fun a2S =>
      .jn (fun aTS=>⟨[sP 0 0 0 0,(3,.c (.own 1 u84.2.length))],[cW.o aTS,eX.row u84.2],[],1⟩) (
       .ite _ (
        .call [0] (oO _ _ _ _) fun a2T =>
        .nil [0,1] _) (
        .nil [0,1] _)) fun aTS =>
      .call [0] (gQ _ _) fun aJj =>
      .call [0] (dB _ _ _) fun aHy =>
      .call [0] (aFY _ _) fun aBk =>
      .ob 11 2 4 (El.b9 eX [(⟨aJj.1,aBk.1,0,0,0⟩:eZ)] rfl rfl) <|
      .ck _ <|
      .ap 11 1 5 31 eX u84.2 [(⟨aJj.1,aBk.1,0,0,0⟩:eZ)] <|
      .call [0] (dH _ _ _) fun aHz =>
      .ite _ (
       .call [0] (dB _ _ _) fun aP4 =>
       .ret [0,5] _) (
       .nil [0,5] _)) fun aJk =>
     .nil [0,1] _) (
     .ret [0,1] _)) fun u63 =>
   .fz 14 0 1 <|
   .ret [0] _))
def aMB (K:Nat) (a0:cF):Option ((fS × cF) ⊕ (fS × cF)) :=
 ((bX (fV K a0 ([58]:Bytes))).bind (fun r1=>(if r1.1=true then ((bX (aJh K r1.2)).bind (fun r2=>(some (.inl (r2.1,r2.2))))) else (some (.inl ((⟨0,0,0,([]:Bytes)⟩:fS),r1.2))))))
theorem aKN (K:Nat) (a0:cF):bV Tryz.prog 138 [.c (.ptr 0 0 0)] [cW.o a0] (bX (aMB K a0)) (fun r=>.agg (jV.cs r.1)) (fun r=>[cW.o r.2,.cells (jV.cs r.1)]):=by
 refine bV.it Tryz.f138 (fun r=>⟨[sP 2 1 0 0],[cW.o r.2,.cells (jV.cs r.1)],[],1⟩) ?_
 unfold aMB
 exact Ref.pt (
  .call [0] (dH _ _ _) fun r1 =>
  .ite _ (
   .call [0] (aFY _ _) fun r2 =>
   .ret [0,1] _) (
   .ret [0,1] _))
def aP5 (K:Nat) (a0:cF):Option ((iR × cF) ⊕ (iR × cF)) :=
 ((bX (nL K a0)).bind (fun r1=>((bX (fR K r1.2 ([59]:Bytes))).bind (fun r2=>(bT (bQ ((iter K (fun (u64:cF × (List hU))=>((cE true (bX (F73 K u64.1 ([77,69,84,72,79,68]:Bytes))) default).bind (fun r80=>(if r80=true then (bT (bQ ((bX (F74 K u64.1 (Int.ofNat u64.2.length) 6)).bind (fun r88=>((bX (fR K r88 ([77,69,84,72,79,68]:Bytes))).bind (fun r89=>((bX (nL K r89)).bind (fun r90=>((bX (aMA K r90.2)).bind (fun r91=>((bX (aMB K r91.2)).bind (fun r92=>((bX (fR K r92.2 ([59]:Bytes))).bind (fun r93=>(bY [room ((u64.2.length+([(⟨r90.1,false,false,false,r91.1,r92.1,[],[]⟩:hU)].length)) * 136)] (some (.inr (r93,(u64.2++[(⟨r90.1,false,false,false,r91.1,r92.1,[],[]⟩:hU)])))))))))))))))))) (fun (lX:cF × (List hU))=>(some (.inr (lX.1,lX.2))))) else (some (.inl (Sum.inl (u64.1,u64.2)))))))) (r2,[])).map .inl)) (fun (l5:cF × (List hU))=>((bX (fR K l5.1 ([69,78,68,95,73,78,84,69,82,70,65,67,69]:Bytes))).bind (fun r94=>(some (.inl ((⟨1,r1.1,([]:Bytes),[],false,false,[],l5.2,[],0,0⟩:iR),r94)))))))))))
theorem aTT (K:Nat) (a0:cF):bV Tryz.prog 109 [.c (.ptr 0 0 0)] [cW.o a0] (bX (aP5 K a0)) (fun r=>.agg (gW.cs r.1)) (fun r=>[cW.o r.2,gW.o r.1]):=by
 refine bV.it Tryz.f109 (fun r=>⟨[sP 2 1 0 0],[cW.o r.2,gW.o r.1],[],1⟩) ?_
 unfold aP5
 exact Ref.pt (
  .call [0] (gQ _ _) fun r1 =>
  .call [0] (dB _ _ _) fun r2 =>
  .bk 0 (fun l5=>⟨[sP 0 0 0 0,sP 2 1 0 0,sP 3 2 0 0],[cW.o l5.1,oX2,.cells [iC 1,.str r1.1,.str [],.nil,bC false,bC false,.nil,.own 3 l5.2.length,.nil,iC 0,iC 0],jO.row l5.2],[],1⟩) (
   .adc 2 0 2 7 jO.ty jO.w (jO.at []) <|
   .lp [0,1,2,3] (fun u64=>⟨[sP 0 0 0 0,sP 2 1 0 0,sP 3 2 0 0],[cW.o u64.1,oX2,.cells [iC 1,.str r1.1,.str [],.nil,bC false,bC false,.nil,.own 3 u64.2.length,.nil,iC 0,iC 0],jO.row u64.2],[],1⟩) fun u64 =>
   .look (default:Bool) _ [0] (j5 K u64.1 ([77,69,84,72,79,68]:Bytes)) (fun _=>rfl) fun r80 =>
   .ite _ (
    .bk 1 (fun lX=>⟨[sP 0 0 0 0,sP 2 1 0 0,sP 3 2 0 0],[cW.o lX.1,oX2,.cells [iC 1,.str r1.1,.str [],.nil,bC false,bC false,.nil,.own 3 lX.2.length,.nil,iC 0,iC 0],jO.row lX.2],[],1⟩) (
     .call [0] (oO _ _ _ _) fun r88 =>
     .call [0] (dB _ _ _) fun r89 =>
     .call [0] (gQ _ _) fun r90 =>
     .call [0] (aKM _ _) fun r91 =>
     .call [0] (aKN _ _) fun r92 =>
     .call [0] (dB _ _ _) fun r93 =>
     .sk 10 4 32 9 (x:=.nil) (y:=eX.tree []) (El.cJ eX) <|
     .sk 10 4 32 10 (x:=.nil) (y:=dV.tree []) (El.cJ dV) <|
     .ob 10 3 6 (El.b9 jO [(⟨r90.1,false,false,false,r91.1,r92.1,[],[]⟩:hU)] rfl rfl) <|
     .ck _ <|
     .ap 10 2 7 34 jO u64.2 [(⟨r90.1,false,false,false,r91.1,r92.1,[],[]⟩:hU)] <|
     .nil [0,1,2,7] _) fun lX =>
    .nil [0,1,2,3] _) (
    .ret [0,1,2,3] _)) fun l5 =>
  .call [0] (dB _ _ _) fun r94 =>
  .ok 12 0 1 3 (x:=.nil) (y:=E9.tree []) (El.cJ E9) <|
  .ok 12 0 1 6 (x:=.nil) (y:=eX.tree []) (El.cJ eX) <|
  .fz 12 0 3 <|
  .ok 12 0 1 8 (x:=.nil) (y:=dV.tree []) (El.cJ dV) <|
  .ret [0,1] _)
def aJl (K:Nat) (a0:cF):Option (((List eZ) × cF) ⊕ ((List eZ) × cF)) :=
 (bT (bQ ((iter K (fun (qU:cF × (List eZ))=>((cE true (bX (F73 K qU.1 ([86,65,82]:Bytes))) default).bind (fun aMv=>(if aMv=true then (bT (bQ ((bX (F74 K qU.1 (Int.ofNat qU.2.length) 8)).bind (fun a2U=>((bX (fR K a2U ([86,65,82]:Bytes))).bind (fun a2V=>((bX (nL K a2V)).bind (fun aF0=>((bX (fR K aF0.2 ([58]:Bytes))).bind (fun a2W=>((bX (aJh K a2W)).bind (fun sR=>((bX (fV K sR.2 ([58,61]:Bytes))).bind (fun aTU=>(bT (if aTU.1=true then ((bX (aFX K aTU.2)).bind (fun aYs=>(some (.inr (aYs.2,aYs.1))))) else (some (.inr (aTU.2,0)))) (fun (aDd:cF × Int)=>((bX (fV K aDd.1 ([65,84]:Bytes))).bind (fun aTV=>(bT (if aTV.1=true then ((bX (fV K aTV.2 ([73,78]:Bytes))).bind (fun aTW=>(bT (if (!aTW.1)=true then ((bX (fR K aTW.2 ([79,85,84]:Bytes))).bind (fun a2X=>(some (.inr (a2X,2))))) else (some (.inr (aTW.2,1)))) (fun (aMC:cF × Int)=>((bX (aDc K aMC.1)).bind (fun aYt=>(some (.inr (aYt.2,aMC.2,aYt.1))))))))) else (some (.inr (aTV.2,0,0)))) (fun (yZ:cF × Int × Int)=>((bX (fR K yZ.1 ([59]:Bytes))).bind (fun a2Y=>(bY [room ((qU.2.length+([(⟨aF0.1,sR.1,aDd.2,yZ.2.1,yZ.2.2⟩:eZ)].length)) * 80)] (some (.inr (a2Y,(qU.2++[(⟨aF0.1,sR.1,aDd.2,yZ.2.1,yZ.2.2⟩:eZ)])))))))))))))))))))))))))) (fun (aJm:cF × (List eZ))=>(some (.inr (aJm.1,aJm.2))))) else (some (.inl (Sum.inl (qU.1,qU.2)))))))) (a0,[])).map .inl)) (fun (aJn:cF × (List eZ))=>(some (.inl (aJn.2,aJn.1)))))
theorem aF1 (K:Nat) (a0:cF):bV Tryz.prog 113 [.c (.ptr 0 0 0)] [cW.o a0] (bX (aJl K a0)) (fun r=>.c (eX.tree r.1)) (fun r=>[cW.o r.2]):=by
 refine bV.it Tryz.f113 (fun r=>⟨[(2,.c (eX.tree r.1))],[cW.o r.2],[],1⟩) ?_
 unfold aJl
 exact Ref.pt (
  .bk 0 (fun aJn=>⟨[(3,.c (.own 1 aJn.2.length))],[cW.o aJn.1,eX.row aJn.2],[],1⟩) (
   .ad 1 0 3 eX.ty eX.w (eX.at []) <|
   .lp [0,1] (fun qU=>⟨[sP 0 0 0 0,(3,.c (.own 1 qU.2.length))],[cW.o qU.1,eX.row qU.2],[],1⟩) fun qU =>
   .look (default:Bool) _ [0] (j5 K qU.1 ([86,65,82]:Bytes)) (fun _=>rfl) fun aMv =>
   .ite _ (
    .bk 1 (fun aJm=>⟨[sP 0 0 0 0,(3,.c (.own 1 aJm.2.length))],[cW.o aJm.1,eX.row aJm.2],[],1⟩) (
     .call [0] (oO _ _ _ _) fun a2U =>
     .call [0] (dB _ _ _) fun a2V =>
     .call [0] (gQ _ _) fun aF0 =>
     .call [0] (dB _ _ _) fun a2W =>
     .call [0] (aFY _ _) fun sR =>
     .call [0] (dH _ _ _) fun aTU =>
     .jn (fun aDd=>⟨[sP 0 0 0 0,(3,.c (.own 1 qU.2.length)),sP 4 2 0 0],[cW.o aDd.1,eX.row qU.2,.cells [.str aF0.1,iC sR.1.bU,iC sR.1.fLo,iC sR.1.zO,.str sR.1.cD,iC aDd.2,iC 0,iC 0]],[],1⟩) (
      .ite _ (
       .call [0] (yW _ _) fun aYs =>
       .nil [0,1,2] _) (
       .nil [0,1,2] _)) fun aDd =>
     .call [0] (dH _ _ _) fun aTV =>
     .jn (fun yZ=>⟨[sP 0 0 0 0,(3,.c (.own 1 qU.2.length)),sP 4 2 0 0],[cW.o yZ.1,eX.row qU.2,.cells [.str aF0.1,iC sR.1.bU,iC sR.1.fLo,iC sR.1.zO,.str sR.1.cD,iC aDd.2,iC yZ.2.1,iC yZ.2.2]],[],1⟩) (
      .ite _ (
       .call [0] (dH _ _ _) fun aTW =>
       .jn (fun aMC=>⟨[sP 0 0 0 0,(3,.c (.own 1 qU.2.length)),sP 4 2 0 0],[cW.o aMC.1,eX.row qU.2,.cells [.str aF0.1,iC sR.1.bU,iC sR.1.fLo,iC sR.1.zO,.str sR.1.cD,iC aDd.2,iC aMC.2,iC 0]],[],1⟩) (
        .ite _ (
         .call [0] (dB _ _ _) fun a2X =>
         .nil [0,1,2] _) (
         .nil [0,1,2] _)) fun aMC =>
       .call [0] (rS _ _) fun aYt =>
       .nil [0,1,2] _) (
       .nil [0,1,2] _)) fun yZ =>
     .call [0] (dB _ _ _) fun a2Y =>
     .ob 17 2 3 (El.b9 eX [(⟨aF0.1,sR.1,aDd.2,yZ.2.1,yZ.2.2⟩:eZ)] rfl rfl) <|
     .ck _ <|
     .ap 17 1 4 43 eX qU.2 [(⟨aF0.1,sR.1,aDd.2,yZ.2.1,yZ.2.2⟩:eZ)] <|
     .nil [0,4] _) fun aJm =>
    .nil [0,1] _) (
    .ret [0,1] _)) fun aJn =>
  .fz 18 0 1 <|
  .ret [0] _)
def aMD (K:Nat) (a0:cF):Option ((Bool) ⊕ (Bool)) :=
 (bT (bQ ((iter K (fun (eW:Int)=>(bR (decide ((eW:Int)<(Int.ofNat ([([84,72,73,83]:Bytes),([83,85,80,69,82]:Bytes),([73,70]:Bytes),([67,65,83,69]:Bytes),([87,72,73,76,69]:Bytes),([70,79,82]:Bytes),([82,69,84,85,82,78]:Bytes),([69,88,73,84]:Bytes),([83,84,69,80]:Bytes)].length)))) (fun (x38:Bool)=>(if x38=true then (bT (bQ (bY [cP eW ([([84,72,73,83]:Bytes),([83,85,80,69,82]:Bytes),([73,70]:Bytes),([67,65,83,69]:Bytes),([87,72,73,76,69]:Bytes),([70,79,82]:Bytes),([82,69,84,85,82,78]:Bytes),([69,88,73,84]:Bytes),([83,84,69,80]:Bytes)].length)] (bR ([([84,72,73,83]:Bytes),([83,85,80,69,82]:Bytes),([73,70]:Bytes),([67,65,83,69]:Bytes),([87,72,73,76,69]:Bytes),([70,79,82]:Bytes),([82,69,84,85,82,78]:Bytes),([69,88,73,84]:Bytes),([83,84,69,80]:Bytes)].getD ((eW:Int).toNat) default) (fun (x42:Bytes)=>((bX (F73 K a0 x42)).bind (fun oJ=>(if oJ=true then (some (.inl (Sum.inr (Sum.inr (true))))) else (some (.inr ()))))))))) (fun (u41:Unit)=>(some (.inr ((IntKind.i64.wrap (eW+1))))))) else (some (.inl (Sum.inl ()))))))) (0)).map .inl)) (fun (eA:Unit)=>((bX (sQ K a0 1)).bind (fun r44=>(some (.inl (r44)))))))
theorem aKO (K:Nat) (a0:cF):bV Tryz.prog 142 [.c (cW.ep a0 0)] [] (bX (aMD K a0)) (fun r=>.c (.val (.bool r))) (fun r=>[]):=by
 refine bV.it Tryz.f142 (fun r=>⟨[sB 2 r],[],[],0⟩) ?_
 unfold aMD
 exact Ref.pt (
  .ob 1 1 0 (El.b9 E9 [vR,pZ,wIF,aHA,aDe,aP6,y3,aHB,aHC] rfl rfl) <|
  .bk 0 (fun eA=>⟨[(0,.c (cW.ep a0 0))],[],[],0⟩) (
   .lp [0] (fun eW=>⟨[(0,.c (cW.ep a0 0)),(3,.c (.own 0 ([vR,pZ,wIF,aHA,aDe,aP6,y3,aHB,aHC].length))),sI 4 eW],[E9.row [vR,pZ,wIF,aHA,aDe,aP6,y3,aHB,aHC]],[],0⟩) fun eW =>
   .lt _ fun x38 =>
   .ite _ (
    .bk 1 (fun u41=>⟨[(0,.c (cW.ep a0 0)),(3,.c (.own 0 ([vR,pZ,wIF,aHA,aDe,aP6,y3,aHB,aHC].length))),sI 4 eW],[E9.row [vR,pZ,wIF,aHA,aDe,aP6,y3,aHB,aHC]],[],0⟩) (
     .ck _ <|
     .lt _ fun x42 =>
     .call [] (j5 _ _ _) fun oJ =>
     .ite _ (
      .ret [] _) (
      .nil [0] _)) fun u41 =>
    .nil [0] _) (
    .ret [] _)) fun eA =>
  .call [] (kG _ _ _) fun r44 =>
  .ret [] _)
def aJo (K:Nat) (a0:cF):Option ((Bytes × cF) ⊕ (Bytes × cF)) :=
 ((bX (fR K a0 ([40]:Bytes))).bind (fun r1=>((bX (nL K r1)).bind (fun r2=>((bX (fR K r2.2 ([41]:Bytes))).bind (fun r3=>(some (.inl (r2.1,r3)))))))))
theorem aF2 (K:Nat) (a0:cF):bV Tryz.prog 217 [.c (.ptr 0 0 0)] [cW.o a0] (bX (aJo K a0)) (fun r=>.c (.str r.1)) (fun r=>[cW.o r.2]):=by
 refine bV.it Tryz.f217 (fun r=>⟨[sS 2 r.1],[cW.o r.2],[],1⟩) ?_
 unfold aJo
 exact Ref.pt (
  .call [0] (dB _ _ _) fun r1 =>
  .call [0] (gQ _ _) fun r2 =>
  .call [0] (dB _ _ _) fun r3 =>
  .ret [0] _)
def aP7 (K:Nat) (a0:cF):Option ((Int × cF) ⊕ (Int × cF)) :=
 (bT (bQ ((iter K (fun (eW:cF × Int)=>(bR (decide ((eW.2:Int)<(Int.ofNat ([([]:Bytes),([43]:Bytes),([45]:Bytes),([42]:Bytes),([47]:Bytes),([77,79,68]:Bytes),([61]:Bytes),([60,62]:Bytes),([60]:Bytes),([60,61]:Bytes),([62]:Bytes),([62,61]:Bytes),([65,78,68]:Bytes),([79,82]:Bytes),([88,79,82]:Bytes)].length)))) (fun (x38:Bool)=>(if x38=true then (bT (bQ (bY [cP eW.2 ([([]:Bytes),([43]:Bytes),([45]:Bytes),([42]:Bytes),([47]:Bytes),([77,79,68]:Bytes),([61]:Bytes),([60,62]:Bytes),([60]:Bytes),([60,61]:Bytes),([62]:Bytes),([62,61]:Bytes),([65,78,68]:Bytes),([79,82]:Bytes),([88,79,82]:Bytes)].length)] (bR ([([]:Bytes),([43]:Bytes),([45]:Bytes),([42]:Bytes),([47]:Bytes),([77,79,68]:Bytes),([61]:Bytes),([60,62]:Bytes),([60]:Bytes),([60,61]:Bytes),([62]:Bytes),([62,61]:Bytes),([65,78,68]:Bytes),([79,82]:Bytes),([88,79,82]:Bytes)].getD ((eW.2:Int).toNat) default) (fun (x42:Bytes)=>((bX (fV K eW.1 x42)).bind (fun oJ=>(if oJ.1=true then (some (.inl (Sum.inr (Sum.inr (eW.2,oJ.2))))) else (some (.inr (oJ.2)))))))))) (fun (u41:cF)=>(some (.inr (u41,(IntKind.i64.wrap (eW.2+1))))))) else (some (.inl (Sum.inl (eW.1)))))))) (a0,1)).map .inl)) (fun (eA:cF)=>(some (.inl (0,eA)))))
theorem aTX (K:Nat) (a0:cF):bV Tryz.prog 214 [.c (.ptr 0 0 0)] [cW.o a0] (bX (aP7 K a0)) (fun r=>.c (.val (.int .i64 r.1))) (fun r=>[cW.o r.2]):=by
 refine bV.it Tryz.f214 (fun r=>⟨[sI 2 r.1],[cW.o r.2],[],1⟩) ?_
 unfold aP7
 exact Ref.pt (
  .ob 1 1 1 (El.b9 E9 [([]:Bytes),aP8,aAr,aP9,aQa,aQb,aQc,y4,aQd,y5,aQe,y6,aQf,wOR,aQg] rfl rfl) <|
  .bk 0 (fun eA=>⟨[],[cW.o eA],[],1⟩) (
   .lp [0,1] (fun eW=>⟨[sP 0 0 0 0,(3,.c (.own 1 ([([]:Bytes),aP8,aAr,aP9,aQa,aQb,aQc,y4,aQd,y5,aQe,y6,aQf,wOR,aQg].length))),sI 4 eW.2],[cW.o eW.1,E9.row [([]:Bytes),aP8,aAr,aP9,aQa,aQb,aQc,y4,aQd,y5,aQe,y6,aQf,wOR,aQg]],[],1⟩) fun eW =>
   .lt _ fun x38 =>
   .ite _ (
    .bk 1 (fun u41=>⟨[sP 0 0 0 0,(3,.c (.own 1 ([([]:Bytes),aP8,aAr,aP9,aQa,aQb,aQc,y4,aQd,y5,aQe,y6,aQf,wOR,aQg].length))),sI 4 eW.2],[cW.o u41,E9.row [([]:Bytes),aP8,aAr,aP9,aQa,aQb,aQc,y4,aQd,y5,aQe,y6,aQf,wOR,aQg]],[],1⟩) (
     .ck _ <|
     .lt _ fun x42 =>
     .call [0] (dH _ _ _) fun oJ =>
     .ite _ (
      .ret [0] _) (
      .nil [0,1] _)) fun u41 =>
    .nil [0,1] _) (
    .ret [0] _)) fun eA =>
  .ret [0] _)
def aJp (K:Nat) (a0:cF):Option ((Bool) ⊕ (Bool)) :=
 ((bX (sQ K a0 1)).bind (fun r1=>((cE (!r1) (bX (sQ K a0 3)) default).bind (fun r2=>(if (r1 || r2)=true then (some (.inl (true))) else (bT (bQ ((iter K (fun (u32:Int)=>(bR (decide ((u32:Int)<(Int.ofNat ([([45]:Bytes),([78,79,84]:Bytes),([84,82,85,69]:Bytes),([70,65,76,83,69]:Bytes),([78,85,76,76]:Bytes),([84,72,73,83]:Bytes),([83,85,80,69,82]:Bytes),([82,69,70]:Bytes),([68,79,78,69]:Bytes),([67,79,85,78,84]:Bytes),([65,83]:Bytes),([40]:Bytes)].length)))) (fun (x40:Bool)=>(if x40=true then (bT (bQ (bY [cP u32 ([([45]:Bytes),([78,79,84]:Bytes),([84,82,85,69]:Bytes),([70,65,76,83,69]:Bytes),([78,85,76,76]:Bytes),([84,72,73,83]:Bytes),([83,85,80,69,82]:Bytes),([82,69,70]:Bytes),([68,79,78,69]:Bytes),([67,79,85,78,84]:Bytes),([65,83]:Bytes),([40]:Bytes)].length)] (bR ([([45]:Bytes),([78,79,84]:Bytes),([84,82,85,69]:Bytes),([70,65,76,83,69]:Bytes),([78,85,76,76]:Bytes),([84,72,73,83]:Bytes),([83,85,80,69,82]:Bytes),([82,69,70]:Bytes),([68,79,78,69]:Bytes),([67,79,85,78,84]:Bytes),([65,83]:Bytes),([40]:Bytes)].getD ((u32:Int).toNat) default) (fun (x44:Bytes)=>((bX (F73 K a0 x44)).bind (fun r45=>(if r45=true then (some (.inl (Sum.inr (Sum.inr (true))))) else (some (.inr ()))))))))) (fun (u43:Unit)=>(some (.inr ((IntKind.i64.wrap (u32+1))))))) else (some (.inl (Sum.inl ()))))))) (0)).map .inl)) (fun (u24:Unit)=>(some (.inl (false))))))))))
theorem aF3 (K:Nat) (a0:cF):bV Tryz.prog 188 [.c (cW.ep a0 0)] [] (bX (aJp K a0)) (fun r=>.c (.val (.bool r))) (fun r=>[]):=by
 refine bV.it Tryz.f188 (fun r=>⟨[sB 2 r],[],[],0⟩) ?_
 unfold aJp
 exact Ref.pt (
  .call [] (kG _ _ _) fun r1 =>
  .look (default:Bool) _ [] (kG K a0 3) (fun _=>rfl) fun r2 =>
  .ite _ (
   .ret [] _) (
   .ob 3 1 0 (El.b9 E9 [aAr,aQh,aHD,aDf,aHE,vR,pZ,aQi,aHF,aDg,wAS,aQj] rfl rfl) <|
   .bk 0 (fun u24=>⟨[],[],[],0⟩) (
    .lp [0] (fun u32=>⟨[(0,.c (cW.ep a0 0)),(3,.c (.own 0 ([aAr,aQh,aHD,aDf,aHE,vR,pZ,aQi,aHF,aDg,wAS,aQj].length))),sI 4 u32],[E9.row [aAr,aQh,aHD,aDf,aHE,vR,pZ,aQi,aHF,aDg,wAS,aQj]],[],0⟩) fun u32 =>
    .lt _ fun x40 =>
    .ite _ (
     .bk 1 (fun u43=>⟨[(0,.c (cW.ep a0 0)),(3,.c (.own 0 ([aAr,aQh,aHD,aDf,aHE,vR,pZ,aQi,aHF,aDg,wAS,aQj].length))),sI 4 u32],[E9.row [aAr,aQh,aHD,aDf,aHE,vR,pZ,aQi,aHF,aDg,wAS,aQj]],[],0⟩) (
      .ck _ <|
      .lt _ fun x44 =>
      .call [] (j5 _ _ _) fun r45 =>
      .ite _ (
       .ret [] _) (
       .nil [0] _)) fun u43 =>
     .nil [0] _) (
     .ret [] _)) fun u24 =>
   .ret [] _))
mutual
def oP:(K:Nat)→(cF)→(Int)→Option ((cM × cF) ⊕ (cM × cF))
 | 0,_,_=>none
 | K+1,a0,a1 =>
 ((cE (decide ((a1:Int) > 6)) (bX (aJp K a0)) default).bind (fun r1=>(bT (if ((decide ((a1:Int) > 6)) && r1)=true then ((bX (yV K a0 4)).bind (fun r4=>(some (.inr (r4))))) else (some (.inr (a0)))) (fun (u3:cF)=>((bX (fV K u3 ([45]:Bytes))).bind (fun r5=>(if r5.1=true then ((bX (aF4 K r5.2 a1)).bind (fun r6=>(some (.inl ((⟨7,0,([]:Bytes),([]:Bytes),[r6.1]⟩:cM),r6.2))))) else ((bX (fV K r5.2 ([78,79,84]:Bytes))).bind (fun r7=>(if r7.1=true then ((bX (aF4 K r7.2 a1)).bind (fun r8=>(some (.inl ((⟨8,0,([]:Bytes),([]:Bytes),[r8.1]⟩:cM),r8.2))))) else ((bX (aF4 K r7.2 a1)).bind (fun r9=>((bX (aP7 K r9.2)).bind (fun j7=>(if ((j7.1:Int) == 0)=true then (some (.inl (r9.1,j7.2))) else ((bX (aF4 K j7.2 a1)).bind (fun r11=>(some (.inl ((⟨9,j7.1,([]:Bytes),([]:Bytes),[r9.1,r11.1]⟩:cM),r11.2))))))))))))))))))))
def aAs:(K:Nat)→(cF)→(cM)→(Int)→Option ((cM × cF) ⊕ (cM × cF))
 | 0,_,_,_=>none
 | K+1,a0,a1,a2 =>
 ((bX (fR K a0 ([46]:Bytes))).bind (fun r1=>((bX (nL K r1)).bind (fun r2=>((bX (fR K r2.2 ([40]:Bytes))).bind (fun r3=>((bX (fV K r3 ([41]:Bytes))).bind (fun r4=>(if r4.1=true then (some (.inl ((⟨13,a1.fN,a1.cD,r2.1,[]⟩:cM),r4.2))) else (bT (bQ ((iter K (fun (l7:cF × (List cM))=>(if ((l7.1.iQ:Int) == 0)=true then (bT (bQ ((cE true (bX (aJp K l7.1)) default).bind (fun qP=>(bT (if qP=true then ((bX (F74 K l7.1 (Int.ofNat l7.2.length) 3)).bind (fun vI=>(some (.inr (vI))))) else (some (.inr (l7.1)))) (fun (aTY:cF)=>((bX (oP K aTY (IntKind.i64.wrap (a2+1)))).bind (fun aAt=>(bY [room ((l7.2.length+([aAt.1].length)) * 72)] ((bX (fV K aAt.2 ([44]:Bytes))).bind (fun aJq=>(if (!aJq.1)=true then ((bX (fR K aJq.2 ([41]:Bytes))).bind (fun aQk=>(some (.inl (Sum.inr (Sum.inl (aQk,(l7.2++[aAt.1])))))))) else (some (.inr (aJq.2,(l7.2++[aAt.1]))))))))))))))) (fun (sU:cF × (List cM))=>(some (.inr (sU.1,sU.2))))) else (some (.inl (Sum.inl (l7.1,l7.2)))))) (r4.2,[])).map .inl)) (fun (u59:cF × (List cM))=>(some (.inl ((⟨13,a1.fN,a1.cD,r2.1,u59.2⟩:cM),u59.1))))))))))))))
def aF4:(K:Nat)→(cF)→(Int)→Option ((cM × cF) ⊕ (cM × cF))
 | 0,_,_=>none
 | K+1,a0,a1 =>
 (bT (bQ ((cE true (bX (sQ K a0 3)) default).bind (fun r33=>(if r33=true then ((bX (aDc K a0)).bind (fun r34=>(some (.inr (r34.2,1,r34.1,([]:Bytes),([]:Bytes),[]))))) else ((bX (fV K a0 ([84,82,85,69]:Bytes))).bind (fun r35=>(if r35.1=true then (some (.inr (r35.2,2,0,([]:Bytes),([]:Bytes),[]))) else ((bX (fV K r35.2 ([70,65,76,83,69]:Bytes))).bind (fun r36=>(if r36.1=true then (some (.inr (r36.2,3,0,([]:Bytes),([]:Bytes),[]))) else ((bX (fV K r36.2 ([78,85,76,76]:Bytes))).bind (fun r37=>(if r37.1=true then (some (.inr (r37.2,4,0,([]:Bytes),([]:Bytes),[]))) else ((bX (fV K r37.2 ([82,69,70]:Bytes))).bind (fun r38=>(if r38.1=true then ((bX (aJo K r38.2)).bind (fun r39=>(some (.inr (r39.2,10,0,r39.1,([]:Bytes),[]))))) else ((bX (fV K r38.2 ([68,79,78,69]:Bytes))).bind (fun r40=>(if r40.1=true then ((bX (aJo K r40.2)).bind (fun r41=>(some (.inr (r41.2,11,0,r41.1,([]:Bytes),[]))))) else ((bX (fV K r40.2 ([67,79,85,78,84]:Bytes))).bind (fun r42=>(if r42.1=true then ((bX (aJo K r42.2)).bind (fun oJ=>(some (.inr (oJ.2,12,0,oJ.1,([]:Bytes),[]))))) else ((bX (fV K r42.2 ([65,83]:Bytes))).bind (fun r44=>(if r44.1=true then ((bX (nL K r44.2)).bind (fun r45=>((bX (fR K r45.2 ([40]:Bytes))).bind (fun r46=>((bX (oP K r46 (IntKind.i64.wrap (a1+1)))).bind (fun r47=>((bX (fR K r47.2 ([41]:Bytes))).bind (fun r48=>(some (.inr (r48,14,0,r45.1,([]:Bytes),[r47.1]))))))))))) else ((bX (fV K r44.2 ([40]:Bytes))).bind (fun r49=>(if r49.1=true then ((bX (oP K r49.2 (IntKind.i64.wrap (a1+1)))).bind (fun r50=>((bX (fR K r50.2 ([41]:Bytes))).bind (fun r51=>(some (.inr (r51,r50.1.bU,r50.1.fN,r50.1.cD,r50.1.yL,r50.1.fP))))))) else ((bX (fV K r49.2 ([84,72,73,83]:Bytes))).bind (fun r52=>(if r52.1=true then ((bX (aAs K r52.2 (⟨0,1,([]:Bytes),([]:Bytes),[]⟩:cM) a1)).bind (fun r53=>(some (.inl (Sum.inr (r53.1,r53.2)))))) else ((bX (fV K r52.2 ([83,85,80,69,82]:Bytes))).bind (fun r54=>(if r54.1=true then ((bX (aAs K r54.2 (⟨0,2,([]:Bytes),([]:Bytes),[]⟩:cM) a1)).bind (fun r55=>(some (.inl (Sum.inr (r55.1,r55.2)))))) else ((cE true (bX (sQ K r54.2 1)) default).bind (fun r56=>(if r56=true then ((bX (nL K r54.2)).bind (fun r57=>((cE true (bX (F73 K r57.2 ([46]:Bytes))) default).bind (fun r58=>(if r58=true then ((bX (aAs K r57.2 (⟨5,0,r57.1,([]:Bytes),[]⟩:cM) a1)).bind (fun r59=>(some (.inl (Sum.inr (r59.1,r59.2)))))) else ((bX (fV K r57.2 ([91]:Bytes))).bind (fun r60=>(if r60.1=true then ((bX (oP K r60.2 (IntKind.i64.wrap (a1+1)))).bind (fun r61=>((bX (fR K r61.2 ([93]:Bytes))).bind (fun r62=>(some (.inr (r62,6,0,r57.1,([]:Bytes),[r61.1]))))))) else (some (.inr (r60.2,5,0,r57.1,([]:Bytes),[]))))))))))) else ((bX (yV K r54.2 3)).bind (fun r63=>(some (.inr (r63,0,0,([]:Bytes),([]:Bytes),[])))))))))))))))))))))))))))))))))))))))))) (fun (u32:cF × Int × Int × Bytes × Bytes × (List cM))=>(some (.inl ((⟨u32.2.1,u32.2.2.1,u32.2.2.2.1,u32.2.2.2.2.1,u32.2.2.2.2.2⟩:cM),u32.1)))))
end
theorem aKP:∀ K:Nat,(∀ (a0:cF),∀ (a1:Int),bV Tryz.prog 187 [.c (.ptr 0 0 0),.c (.val (.int .i64 a1))] [cW.o a0] (bX (oP K a0 a1)) (fun r=>.agg (cN.cs r.1)) (fun r=>[cW.o r.2,cN.o r.1]))∧(∀ (a0:cF),∀ (a1:cM),∀ (a2:Int),bV Tryz.prog 189 [.c (.ptr 0 0 0),.agg [.val (.int .i64 a1.bU),.val (.int .i64 a1.fN),.str a1.cD,.str a1.yL,.nil],.c (.val (.int .i64 a2))] [cW.o a0] (bX (aAs K a0 a1 a2)) (fun r=>.agg (cN.cs r.1)) (fun r=>[cW.o r.2,cN.o r.1]))∧(∀ (a0:cF),∀ (a1:Int),bV Tryz.prog 213 [.c (.ptr 0 0 0),.c (.val (.int .i64 a1))] [cW.o a0] (bX (aF4 K a0 a1)) (fun r=>.agg (cN.cs r.1)) (fun r=>[cW.o r.2,cN.o r.1])):=by
 intro K
 induction K with
 | zero=>exact ⟨fun a0 a1=>bV.none (by rw[oP];rfl),fun a0 a1 a2=>bV.none (by rw[aAs];rfl),fun a0 a1=>bV.none (by rw[aF4];rfl)⟩
 | succ K ih =>
  obtain ⟨aKQ,aQl,aKR⟩:=ih
  refine ⟨?_,?_,?_⟩
  ·
   intro a0 a1
   refine bV.it Tryz.f187 (fun r=>⟨[sP 4 1 0 0],[cW.o r.2,cN.o r.1],[],1⟩) ?_
   rw[oP]
   exact Ref.pt (
    .look (default:Bool) _ [0] (aF3 K a0) (fun _=>rfl) fun r1 =>
    .jn (fun u3=>⟨[sP 0 0 0 0,sI 1 a1,sP 4 1 0 0],[cW.o u3,oX6],[],1⟩) (
     .ite _ (
      .call [0] (mP _ _ _) fun r4 =>
      .nil [0,1] _) (
      .nil [0,1] _)) fun u3 =>
    .call [0] (dH _ _ _) fun r5 =>
    .ite _ (
     .call [0] (aKR _ _) fun r6 =>
     .ob 4 2 3 (El.b9 cN [r6.1] rfl rfl) <|
     .fz 4 0 3 <|
     .ok 4 0 1 4 (x:=cN.tree [r6.1]) (y:=qO [r6.1]) (qV _) <|
     .ret [0,1] _) (
     .call [0] (dH _ _ _) fun r7 =>
     .ite _ (
      .call [0] (aKR _ _) fun r8 =>
      .ob 6 2 3 (El.b9 cN [r8.1] rfl rfl) <|
      .fz 6 0 3 <|
      .ok 6 0 1 4 (x:=cN.tree [r8.1]) (y:=qO [r8.1]) (qV _) <|
      .ret [0,1] _) (
      .call [0] (aKR _ _) fun r9 =>
      .call [0] (aTX _ _) fun j7 =>
      .ite _ (
       .ret [0,1] _) (
       .ex [0,2,3] <|
       .tx [4,7] <|
       .kn fun r11 a6c =>
       .all [4,5,37,39,40,38,41,42,43] (rg (cd (bd Tryz.f187) [1,1,1,1,1,1,1,0])) [true,false,true,true,false,false,false,false] (hl [(4,.kc [.s 39] (bV.eq (aKR _ _) a6c) []),(5,.no [.bd 42 cN [r9.1,r11.1]])]) ⟨[sP 4 1 0 0],[cW.o r11.2,.cells [iC 9,iC j7.1,.str [],.str [],.own 2 ([r9.1,r11.1].length)],cN.row [r9.1,r11.1]],[],1⟩ [.k 0,.s 4,.o 1 4] <|
       .fz 1000000 0 2 <|
       .ok 1000000 0 1 4 (x:=cN.tree [r9.1,r11.1]) (y:=qO [r9.1,r11.1]) (qV _) <|
       .ret [0,1] _))))
  ·
   intro a0 a1 a2
   refine bV.it Tryz.f189 (fun r=>⟨[sP 6 1 0 0],[cW.o r.2,cN.o r.1],[],1⟩) ?_
   rw[aAs]
   exact Ref.pt (
    .call [0] (dB _ _ _) fun r1 =>
    .call [0] (gQ _ _) fun r2 =>
    .call [0] (dB _ _ _) fun r3 =>
    .call [0] (dH _ _ _) fun r4 =>
    .ite _ (
     .ok 6 0 2 4 (x:=.nil) (y:=cN.tree []) (El.cJ cN) <|
     .ok 6 0 2 4 (x:=cN.tree []) (y:=qO []) (qV _) <|
     .ret [0,2] _) (
     .bk 0 (fun u59=>⟨[sP 4 1 0 0,sP 6 3 0 0],[cW.o u59.1,.cells [iC 13,iC a1.fN,.str a1.cD,.str r2.1,.own 2 u59.2.length],cN.row u59.2,oX6],[],1⟩) (
      .adc 5 0 1 4 cN.ty cN.w (cN.at []) <|
      .lp [0,1,3,2] (fun l7=>⟨[sP 0 0 0 0,sI 2 a2,sP 4 1 0 0,sP 6 3 0 0],[cW.o l7.1,.cells [iC 13,iC a1.fN,.str a1.cD,.str r2.1,.own 2 l7.2.length],cN.row l7.2,oX6],[],1⟩) fun l7 =>
      .ite _ (
       .bk 1 (fun sU=>⟨[sP 0 0 0 0,sI 2 a2,sP 4 1 0 0,sP 6 3 0 0],[cW.o sU.1,.cells [iC 13,iC a1.fN,.str a1.cD,.str r2.1,.own 2 sU.2.length],cN.row sU.2,oX6],[],1⟩) (
        .look (default:Bool) _ [0] (aF3 K l7.1) (fun _=>rfl) fun qP =>
        .jn (fun aTY=>⟨[sP 0 0 0 0,sI 2 a2,sP 4 1 0 0,sP 6 3 0 0],[cW.o aTY,.cells [iC 13,iC a1.fN,.str a1.cD,.str r2.1,.own 2 l7.2.length],cN.row l7.2,oX6],[],1⟩) (
         .ite _ (
          .call [0] (oO _ _ _ _) fun vI =>
          .nil [0,1,2,3] _) (
          .nil [0,1,2,3] _)) fun aTY =>
        .ex [0,2,3,4] <|
        .tx [5,7,9] <|
        .kn fun aAt a29 =>
        .asm _ fun h1 =>
        .all [0,2,4,6,30,32,34,31,35,36,37,38] (rg (cd (bd Tryz.f189) [1,1,1,1,1,1,0,0,0,1,0,1,0])) [true,false,true,true,true,false,false,false,false,false] (hl [(5,.kc [.s 0] (bV.eq (aKQ _ _) a29) []),(6,.no [.bd 36 cN [aAt.1]]),(7,.ck _ h1 [.ap 37 cN l7.2 [aAt.1]])]) ⟨[sP 0 0 0 0,sI 2 a2,sP 4 1 0 0,sP 6 2 0 0],[cW.o aAt.2,.cells [iC 13,iC a1.fN,.str a1.cD,.str r2.1,.own 3 ((l7.2++[aAt.1]).length)],oX6,cN.row (l7.2++[aAt.1])],[],1⟩ [.k 0,.s 4,.s 6,.o 1 4] <|
        .call [0] (dH _ _ _) fun aJq =>
        .ite _ (
         .call [0] (dB _ _ _) fun aQk =>
         .ret [0,1,3,2] _) (
         .nil [0,1,3,2] _)) fun sU =>
       .nil [0,1,2,3] _) (
       .ret [0,1,2,3] _)) fun u59 =>
     .fz 13 0 2 <|
     .ok 13 0 3 4 (x:=cN.tree u59.2) (y:=qO u59.2) (qV _) <|
     .ret [0,3] _))
  ·
   intro a0 a1
   refine bV.it Tryz.f213 (fun r=>⟨[sP 4 1 0 0],[cW.o r.2,cN.o r.1],[],1⟩) ?_
   rw[aF4]
   exact Ref.pt (
    .bk 0 (fun u32=>⟨[sP 4 1 0 0,sP 5 2 0 0],[cW.o u32.1,oX6,.cells [iC u32.2.1,iC u32.2.2.1,.str u32.2.2.2.1,.str u32.2.2.2.2.1,cN.tree u32.2.2.2.2.2]],[],1⟩) (
     .look (default:Bool) _ [0] (kG K a0 3) (fun _=>rfl) fun r33 =>
     .ite _ (
      .call [0] (rS _ _) fun r34 =>
      .ok 4 0 2 4 (x:=.nil) (y:=cN.tree []) (El.cJ cN) <|
      .nil [0,1,2] _) (
      .call [0] (dH _ _ _) fun r35 =>
      .ite _ (
       .ok 6 0 2 4 (x:=.nil) (y:=cN.tree []) (El.cJ cN) <|
       .nil [0,1,2] _) (
       .call [0] (dH _ _ _) fun r36 =>
       .ite _ (
        .ok 8 0 2 4 (x:=.nil) (y:=cN.tree []) (El.cJ cN) <|
        .nil [0,1,2] _) (
        .call [0] (dH _ _ _) fun r37 =>
        .ite _ (
         .ok 10 0 2 4 (x:=.nil) (y:=cN.tree []) (El.cJ cN) <|
         .nil [0,1,2] _) (
         .call [0] (dH _ _ _) fun r38 =>
         .ite _ (
          .call [0] (aF2 _ _) fun r39 =>
          .ok 12 0 2 4 (x:=.nil) (y:=cN.tree []) (El.cJ cN) <|
          .nil [0,1,2] _) (
          .call [0] (dH _ _ _) fun r40 =>
          .ite _ (
           .call [0] (aF2 _ _) fun r41 =>
           .ok 14 0 2 4 (x:=.nil) (y:=cN.tree []) (El.cJ cN) <|
           .nil [0,1,2] _) (
           .call [0] (dH _ _ _) fun r42 =>
           .ite _ (
            .call [0] (aF2 _ _) fun oJ =>
            .ok 16 0 2 4 (x:=.nil) (y:=cN.tree []) (El.cJ cN) <|
            .nil [0,1,2] _) (
            .call [0] (dH _ _ _) fun r44 =>
            .ite _ (
             .call [0] (gQ _ _) fun r45 =>
             .call [0] (dB _ _ _) fun r46 =>
             .call [0] (aKQ _ _) fun r47 =>
             .ob 20 2 4 (El.b9 cN [r47.1] rfl rfl) <|
             .call [0] (dB _ _ _) fun r48 =>
             .fz 21 0 4 <|
             .nil [0,1,2] _) (
             .call [0] (dH _ _ _) fun r49 =>
             .ite _ (
              .call [0] (aKQ _ _) fun r50 =>
              .call [0] (dB _ _ _) fun r51 =>
              .ob 24 0 2 (x:=cN.o r50.1) (y:=(.cells [iC r50.1.bU,iC r50.1.fN,.str r50.1.cD,.str r50.1.yL,cN.tree r50.1.fP])) (OLe.cells (gD.cons (hG.refl _) (gD.cons (hG.refl _) (gD.cons (hG.refl _) (gD.cons (hG.refl _) (gD.cons (tS _) (gD.nil))))))) <|
              .nil [0,1,2] _) (
              .call [0] (dH _ _ _) fun r52 =>
              .ite _ (
               .call [0] (aQl _ _ _) fun r53 =>
               .ret [0,1] _) (
               .call [0] (dH _ _ _) fun r54 =>
               .ite _ (
                .call [0] (aQl _ _ _) fun r55 =>
                .ret [0,1] _) (
                .look (default:Bool) _ [0] (kG K r54.2 1) (fun _=>rfl) fun r56 =>
                .ite _ (
                 .call [0] (gQ _ _) fun r57 =>
                 .look (default:Bool) _ [0] (j5 K r57.2 ([46]:Bytes)) (fun _=>rfl) fun r58 =>
                 .ite _ (
                  .call [0] (aQl _ _ _) fun r59 =>
                  .ret [0,1] _) (
                  .call [0] (dH _ _ _) fun r60 =>
                  .ite _ (
                   .call [0] (aKQ _ _) fun r61 =>
                   .ob 35 2 4 (El.b9 cN [r61.1] rfl rfl) <|
                   .call [0] (dB _ _ _) fun r62 =>
                   .fz 36 0 4 <|
                   .nil [0,1,2] _) (
                   .ok 33 0 2 4 (x:=.nil) (y:=cN.tree []) (El.cJ cN) <|
                   .nil [0,1,2] _))) (
                 .call [0] (mP _ _ _) fun r63 =>
                 .ok 2 0 2 4 (x:=.nil) (y:=cN.tree []) (El.cJ cN) <|
                 .nil [0,1,2] _))))))))))))) fun u32 =>
    .ok 37 0 1 4 (x:=cN.tree u32.2.2.2.2.2) (y:=qO u32.2.2.2.2.2) (qV _) <|
    .ret [0,1] _)
theorem kZ (K:Nat) (a0:cF) (a1:Int):bV Tryz.prog 187 [.c (.ptr 0 0 0),.c (.val (.int .i64 a1))] [cW.o a0] (bX (oP K a0 a1)) (fun r=>.agg (cN.cs r.1)) (fun r=>[cW.o r.2,cN.o r.1]):=(aKP K).1 a0 a1
theorem aF6 (K:Nat) (a0:cF) (a1:cM) (a2:Int):bV Tryz.prog 189 [.c (.ptr 0 0 0),.agg [.val (.int .i64 a1.bU),.val (.int .i64 a1.fN),.str a1.cD,.str a1.yL,.nil],.c (.val (.int .i64 a2))] [cW.o a0] (bX (aAs K a0 a1 a2)) (fun r=>.agg (cN.cs r.1)) (fun r=>[cW.o r.2,cN.o r.1]):=(aKP K).2.1 a0 a1 a2
def aQm (K:Nat) (a0:cF):Option ((cI × cF) ⊕ (cI × cF)) :=
 ((bX (nL K a0)).bind (fun r1=>(bT (bQ ((bX (fV K r1.2 ([58,61]:Bytes))).bind (fun mI=>(if mI.1=true then ((bX (oP K mI.2 1)).bind (fun r17=>(some (.inr (r17.2,1,r1.1,[r17.1]))))) else ((bX (fV K mI.2 ([63,61]:Bytes))).bind (fun r18=>(if r18.1=true then ((bX (oP K r18.2 1)).bind (fun r19=>(some (.inr (r19.2,3,r1.1,[r19.1]))))) else ((bX (fV K r18.2 ([91]:Bytes))).bind (fun r20=>(if r20.1=true then ((bX (oP K r20.2 1)).bind (fun r21=>((bX (fR K r21.2 ([93]:Bytes))).bind (fun r22=>((bX (fR K r22 ([58,61]:Bytes))).bind (fun r23=>((bX (oP K r23 1)).bind (fun r24=>(some (.inr (r24.2,2,r1.1,[r21.1,r24.1]))))))))))) else ((cE true (bX (F73 K r20.2 ([46]:Bytes))) default).bind (fun r26=>(if r26=true then ((bX (aAs K r20.2 (⟨0,0,r1.1,([]:Bytes),[]⟩:cM) 1)).bind (fun r27=>(some (.inr (r27.2,4,([]:Bytes),[r27.1]))))) else ((bX (yV K r20.2 3)).bind (fun r28=>(some (.inr (r28,0,r1.1,[])))))))))))))))))) (fun (tQ:cF × Int × Bytes × (List cM))=>(some (.inl ((⟨tQ.2.1,0,tQ.2.2.1,tQ.2.2.2,[],[]⟩:cI),tQ.1)))))))
theorem aT0 (K:Nat) (a0:cF):bV Tryz.prog 190 [.c (.ptr 0 0 0)] [cW.o a0] (bX (aQm K a0)) (fun r=>.agg (dV.cs r.1)) (fun r=>[cW.o r.2,dV.o r.1]):=by
 refine bV.it Tryz.f190 (fun r=>⟨[sP 2 1 0 0],[cW.o r.2,dV.o r.1],[],1⟩) ?_
 unfold aQm
 exact Ref.pt (
  .call [0] (gQ _ _) fun r1 =>
  .bk 0 (fun tQ=>⟨[sP 2 1 0 0,sP 4 2 0 0],[cW.o tQ.1,xA,.cells [iC tQ.2.1,iC 0,.str tQ.2.2.1,.own 3 tQ.2.2.2.length,.nil,.nil],cN.row tQ.2.2.2],[],1⟩) (
   .call [0] (dH _ _ _) fun mI =>
   .ite _ (
    .call [0] (kZ _ _ _) fun r17 =>
    .ob 5 4 4 (El.b9 cN [r17.1] rfl rfl) <|
    .nil [0,1,2,4] _) (
    .call [0] (dH _ _ _) fun r18 =>
    .ite _ (
     .call [0] (kZ _ _ _) fun r19 =>
     .ob 7 4 4 (El.b9 cN [r19.1] rfl rfl) <|
     .nil [0,1,2,4] _) (
     .call [0] (dH _ _ _) fun r20 =>
     .ite _ (
      .call [0] (kZ _ _ _) fun r21 =>
      .call [0] (dB _ _ _) fun r22 =>
      .call [0] (dB _ _ _) fun r23 =>
      .ex [1] <|
      .tx [2,5] <|
      .kn fun r24 aXy =>
      .all [2,4,5,39,38,40,41,42] (rg (cd (bd Tryz.f190) [1,1,1,0,0,1,1,1,1,1,0,1,1,1,1])) [false,true,false,false,false,false] (hl [(2,.kc [.s 39] (bV.eq (kZ _ _ _) aXy) []),(3,.no [.bd 41 cN [r21.1,r24.1]])]) ⟨[sP 2 1 0 0,sP 4 2 0 0],[cW.o r24.2,xA,.cells [iC 2,iC 0,.str r1.1,.own 3 ([r21.1,r24.1].length),.nil,.nil],cN.row [r21.1,r24.1]],[],1⟩ [.k 0,.s 2,.s 4,.o 2 3] <|
      .nil [0,1,2,3] _) (
      .look (default:Bool) _ [0] (j5 K r20.2 ([46]:Bytes)) (fun _=>rfl) fun r26 =>
      .ite _ (
       .call [0] (aF6 _ _ _ _) fun r27 =>
       .ob 15 2 4 (El.b9 cN [r27.1] rfl rfl) <|
       .nil [0,1,2,4] _) (
       .call [0] (mP _ _ _) fun r28 =>
       .adc 3 0 2 3 cN.ty cN.w (cN.at []) <|
       .nil [0,1,2,3] _))))) fun tQ =>
  .fz 16 0 3 <|
  .ok 16 0 1 4 (x:=.nil) (y:=kO.tree []) (El.cJ kO) <|
  .ok 16 0 1 5 (x:=.nil) (y:=jR.tree []) (El.cJ jR) <|
  .ok 16 0 1 5 (x:=jR.tree []) (y:=lW []) (uW _) <|
  .ret [0,1] _)
mutual
def y7:(K:Nat)→(cF)→(Int)→((List Bytes))→Option (((List cI) × cF) ⊕ ((List cI) × cF))
 | 0,_,_,_=>none
 | K+1,a0,a1,a2 =>
 (bT (if (decide ((a1:Int) > 6))=true then ((cE true (bX (aMD K a0)) default).bind (fun r69=>(bT (bQ ((iter K (fun (p4:Bool × Int)=>(bR (decide ((p4.2:Int)<(Int.ofNat a2.length))) (fun (a3a:Bool)=>(if a3a=true then (bT (bQ (bY [!(!p4.1) || cP p4.2 a2.length] ((cE (!p4.1) (bX (F73 K a0 (a2.getD (p4.2:Int).toNat default))) default).bind (fun aCS=>(bY [!(!(p4.1 || aCS)) || cP p4.2 a2.length] ((cE (((a2.getD (p4.2:Int).toNat default) == ([48]:Bytes)) && (!(p4.1 || aCS))) (bX (sQ K a0 3)) default).bind (fun aMp=>((cE ((!aMp) && (((a2.getD (p4.2:Int).toNat default) == ([48]:Bytes)) && (!(p4.1 || aCS)))) (bX (F73 K a0 ([45]:Bytes))) default).bind (fun a3b=>(bR ((p4.1 || aCS) || (((a2.getD (p4.2:Int).toNat default) == ([48]:Bytes)) && (aMp || a3b))) (fun (a3c:Bool)=>(some (.inr (a3c)))))))))))))) (fun (aT1:Bool)=>(some (.inr (aT1,(IntKind.i64.wrap (p4.2+1))))))) else (some (.inl (Sum.inl (p4.1)))))))) (r69,0)).map .inl)) (fun (aI6:Bool)=>(if aI6=true then ((bX (yV K a0 4)).bind (fun a3d=>(some (.inr (a3d))))) else (some (.inr (a0)))))))) else (some (.inr (a0)))) (fun (u68:cF)=>(bT (bQ ((iter K (fun (wU:cF × (List cI))=>((cE true (bX (aMD K wU.1)) default).bind (fun a3e=>(if a3e=true then (bT (bQ ((bX (F74 K wU.1 (Int.ofNat wU.2.length) 24)).bind (fun aT2=>(if ((aT2.iQ:Int) == 0)=true then ((bX (aMF K aT2 a1)).bind (fun aMG=>(bY [room ((wU.2.length+([aMG.1].length)) * 104)] (some (.inr (aMG.2,(wU.2++[aMG.1]))))))) else (some (.inr (aT2,wU.2))))))) (fun (aJr:cF × (List cI))=>(some (.inr (aJr.1,aJr.2))))) else (some (.inl (Sum.inl (wU.1,wU.2)))))))) (u68,[])).map .inl)) (fun (aJs:cF × (List cI))=>(some (.inl (aJs.2,aJs.1)))))))
def aMF:(K:Nat)→(cF)→(Int)→Option ((cI × cF) ⊕ (cI × cF))
 | 0,_,_=>none
 | K+1,a0,a1 =>
 (bT (bQ ((bX (fV K a0 ([73,70]:Bytes))).bind (fun r40=>(if r40.1=true then ((bX (aMH K r40.2 a1)).bind (fun r41=>(some (.inr (r41.2,r41.1.bU,r41.1.fN,r41.1.cD,r41.1.cU,r41.1.eY,r41.1.b8))))) else ((bX (fV K r40.2 ([67,65,83,69]:Bytes))).bind (fun r42=>(if r42.1=true then ((bX (aMI K r42.2 a1)).bind (fun oJ=>(some (.inr (oJ.2,oJ.1.bU,oJ.1.fN,oJ.1.cD,oJ.1.cU,oJ.1.eY,oJ.1.b8))))) else ((bX (fV K r42.2 ([87,72,73,76,69]:Bytes))).bind (fun r44=>(if r44.1=true then ((bX (oP K r44.2 1)).bind (fun r45=>((bX (fR K r45.2 ([68,79]:Bytes))).bind (fun r46=>((bX (y7 K r46 (IntKind.i64.wrap (a1+1)) ([[69,78,68,95,87,72,73,76,69]]:List Bytes))).bind (fun r47=>((bX (fR K r47.2 ([69,78,68,95,87,72,73,76,69]:Bytes))).bind (fun r48=>(some (.inr (r48,7,0,([]:Bytes),[r45.1],[],[r47.1]))))))))))) else ((bX (fV K r44.2 ([70,79,82]:Bytes))).bind (fun r49=>(if r49.1=true then ((bX (nL K r49.2)).bind (fun r50=>((bX (fR K r50.2 ([58,61]:Bytes))).bind (fun r51=>((bX (oP K r51 1)).bind (fun r52=>((bX (fR K r52.2 ([84,79]:Bytes))).bind (fun r53=>((bX (oP K r53 1)).bind (fun r54=>((bX (fR K r54.2 ([66,89]:Bytes))).bind (fun r56=>((bX (aFX K r56)).bind (fun r57=>((bX (fR K r57.2 ([68,79]:Bytes))).bind (fun r58=>((bX (y7 K r58 (IntKind.i64.wrap (a1+1)) ([[69,78,68,95,70,79,82]]:List Bytes))).bind (fun r59=>((bX (fR K r59.2 ([69,78,68,95,70,79,82]:Bytes))).bind (fun r60=>(some (.inr (r60,8,r57.1,r50.1,[r52.1,r54.1],[],[r59.1]))))))))))))))))))))))) else ((bX (fV K r49.2 ([82,69,84,85,82,78]:Bytes))).bind (fun r61=>(if r61.1=true then ((cE true (bX (aJp K r61.2)) default).bind (fun r62=>(if r62=true then ((bX (oP K r61.2 1)).bind (fun r63=>(some (.inr (r63.2,9,0,([]:Bytes),[r63.1],[],[]))))) else (some (.inr (r61.2,9,0,([]:Bytes),[],[],[])))))) else ((bX (fV K r61.2 ([69,88,73,84]:Bytes))).bind (fun r64=>(if r64.1=true then (some (.inr (r64.2,10,0,([]:Bytes),[],[],[]))) else ((bX (fV K r64.2 ([83,84,69,80]:Bytes))).bind (fun r65=>(if r65.1=true then ((bX (nL K r65.2)).bind (fun r66=>((bX (fR K r66.2 ([40]:Bytes))).bind (fun pK=>((bX (oP K pK 1)).bind (fun r68=>((bX (fR K r68.2 ([44]:Bytes))).bind (fun r69=>((bX (oP K r69 1)).bind (fun r70=>((bX (fR K r70.2 ([41]:Bytes))).bind (fun r72=>(some (.inr (r72,11,0,r66.1,[r68.1,r70.1],[],[]))))))))))))))) else ((bX (fV K r65.2 ([84,72,73,83]:Bytes))).bind (fun r73=>(if r73.1=true then ((bX (aAs K r73.2 (⟨0,1,([]:Bytes),([]:Bytes),[]⟩:cM) 1)).bind (fun r74=>(some (.inr (r74.2,4,0,([]:Bytes),[r74.1],[],[]))))) else ((bX (fV K r73.2 ([83,85,80,69,82]:Bytes))).bind (fun r75=>(if r75.1=true then ((bX (aAs K r75.2 (⟨0,2,([]:Bytes),([]:Bytes),[]⟩:cM) 1)).bind (fun r76=>(some (.inr (r76.2,4,0,([]:Bytes),[r76.1],[],[]))))) else ((bX (aQm K r75.2)).bind (fun r77=>(some (.inr (r77.2,r77.1.bU,r77.1.fN,r77.1.cD,r77.1.cU,r77.1.eY,r77.1.b8))))))))))))))))))))))))))))))))) (fun (u39:cF × Int × Int × Bytes × (List cM) × (List (List Int)) × (List (List cI)))=>((bX (fR K u39.1 ([59]:Bytes))).bind (fun r78=>(some (.inl ((⟨u39.2.1,u39.2.2.1,u39.2.2.2.1,u39.2.2.2.2.1,u39.2.2.2.2.2.1,u39.2.2.2.2.2.2⟩:cI),r78)))))))
def aMH:(K:Nat)→(cF)→(Int)→Option ((cI × cF) ⊕ (cI × cF))
 | 0,_,_=>none
 | K+1,a0,a1 =>
 (bT (bQ ((iter K (fun (l7:cF × (List cM) × (List (List cI)) × (List Bytes))=>(if ((l7.1.iQ:Int) == 0)=true then (bT (bQ ((bX (oP K l7.1 1)).bind (fun qP=>(bY [room ((l7.2.1.length+([qP.1].length)) * 72)] ((bX (fR K qP.2 ([84,72,69,78]:Bytes))).bind (fun aOC=>((bX (y7 K aOC (IntKind.i64.wrap (a1+1)) l7.2.2.2)).bind (fun vI=>(bY [room ((l7.2.2.1.length+([vI.1].length)) * 24)] ((cE true (bX (F73 K vI.2 ([69,76,83,73,70]:Bytes))) default).bind (fun a3f=>(if (!a3f)=true then (some (.inl (Sum.inr (Sum.inl (vI.2,(l7.2.1++[qP.1]),(l7.2.2.1++[vI.1])))))) else ((bX (F74 K vI.2 (Int.ofNat ((l7.2.1++[qP.1]).length)) 6)).bind (fun aJq=>((bX (fR K aJq ([69,76,83,73,70]:Bytes))).bind (fun aQk=>(some (.inr (aQk,(l7.2.1++[qP.1]),(l7.2.2.1++[vI.1])))))))))))))))))))) (fun (sU:cF × (List cM) × (List (List cI)))=>(some (.inr (sU.1,sU.2.1,sU.2.2,l7.2.2.2))))) else (some (.inl (Sum.inl (l7.1,l7.2.1,l7.2.2.1)))))) (a0,[],[],[([69,76,83,73,70]:Bytes),([69,76,83,69]:Bytes),([69,78,68,95,73,70]:Bytes)])).map .inl)) (fun (u57:cF × (List cM) × (List (List cI)))=>((bX (aJt K u57.1 a1 ([69,78,68,95,73,70]:Bytes))).bind (fun aDi=>(bY [room ((u57.2.2.length+([aDi.1].length)) * 24)] ((bX (fR K aDi.2 ([69,78,68,95,73,70]:Bytes))).bind (fun a3g=>(some (.inl ((⟨5,0,([]:Bytes),u57.2.1,[],(u57.2.2++[aDi.1])⟩:cI),a3g))))))))))
def aMI:(K:Nat)→(cF)→(Int)→Option ((cI × cF) ⊕ (cI × cF))
 | 0,_,_=>none
 | K+1,a0,a1 =>
 ((bX (oP K a0 1)).bind (fun r1=>((bX (fR K r1.2 ([79,70]:Bytes))).bind (fun r2=>(bT (bQ ((iter K (fun (eS:cF × (List (List Int)) × (List (List cI)))=>((cE true (bX (sQ K eS.1 3)) default).bind (fun aQn=>((cE (!aQn) (bX (F73 K eS.1 ([45]:Bytes))) default).bind (fun aVJ=>(if (aQn || aVJ)=true then (bT (bQ ((bX (F74 K eS.1 (Int.ofNat eS.2.1.length) 6)).bind (fun aVK=>(bT (bQ ((iter K (fun (kU:cF × (List Int))=>(if ((kU.1.iQ:Int) == 0)=true then (bT (bQ ((cE true (bX (sQ K kU.1 3)) default).bind (fun aQo=>((cE (!aQo) (bX (F73 K kU.1 ([45]:Bytes))) default).bind (fun aVL=>(bT (if (aQo || aVL)=true then ((bX (F74 K kU.1 (Int.ofNat kU.2.length) 8)).bind (fun aVM=>(some (.inr (aVM))))) else (some (.inr (kU.1)))) (fun (aKS:cF)=>((bX (aFX K aKS)).bind (fun aDj=>(bY [room ((kU.2.length+([aDj.1].length)) * 8)] ((bX (fV K aDj.2 ([44]:Bytes))).bind (fun aKT=>(if (!aKT.1)=true then (some (.inl (Sum.inr (Sum.inl (aKT.2,(kU.2++[aDj.1])))))) else (some (.inr (aKT.2,(kU.2++[aDj.1]))))))))))))))))) (fun (aDk:cF × (List Int))=>(some (.inr (aDk.1,aDk.2))))) else (some (.inl (Sum.inl (kU.1,kU.2)))))) (aVK,[])).map .inl)) (fun (iK:cF × (List Int))=>((bX (fR K iK.1 ([58]:Bytes))).bind (fun aA0=>(bY [room ((eS.2.1.length+([iK.2].length)) * 24)] ((bX (y7 K aA0 (IntKind.i64.wrap (a1+1)) [([48]:Bytes),([69,76,83,69]:Bytes),([69,78,68,95,67,65,83,69]:Bytes)])).bind (fun iL=>(bY [room ((eS.2.2.length+([iL.1].length)) * 24)] (some (.inr (iL.2,(eS.2.1++[iK.2]),(eS.2.2++[iL.1]))))))))))))))) (fun (vS:cF × (List (List Int)) × (List (List cI)))=>(some (.inr (vS.1,vS.2.1,vS.2.2))))) else (some (.inl (Sum.inl (eS.1,eS.2.1,eS.2.2)))))))))) (r2,[],[])).map .inl)) (fun (sV:cF × (List (List Int)) × (List (List cI)))=>((bX (aJt K sV.1 a1 ([69,78,68,95,67,65,83,69]:Bytes))).bind (fun tZ=>(bY [room ((sV.2.2.length+([tZ.1].length)) * 24)] ((bX (fR K tZ.2 ([69,78,68,95,67,65,83,69]:Bytes))).bind (fun aVN=>(some (.inl ((⟨6,0,([]:Bytes),[r1.1],sV.2.1,(sV.2.2++[tZ.1])⟩:cI),aVN))))))))))))))
def aJt:(K:Nat)→(cF)→(Int)→(Bytes)→Option (((List cI) × cF) ⊕ ((List cI) × cF))
 | 0,_,_,_=>none
 | K+1,a0,a1,a2 =>
 ((bX (fV K a0 ([69,76,83,69]:Bytes))).bind (fun r1=>(if (!r1.1)=true then (some (.inl ([],r1.2))) else ((bX (y7 K r1.2 (IntKind.i64.wrap (a1+1)) [a2])).bind (fun r2=>(some (.inl (r2.1,r2.2))))))))
end
abbrev iD (v0:Int):List (Nat × D):=[sP 0 0 0 0,sI 1 v0,sP 4 1 0 0,sP 5 2 0 0]
abbrev aAu:List (Nat × D):=[sP 0 0 0 0,sP 4 1 0 0,sP 5 2 0 0]
theorem aT3:∀ K:Nat,(∀ (a0:cF),∀ (a1:Int),∀ (a2:(List Bytes)),bV Tryz.prog 114 [.c (.ptr 0 0 0),.c (.val (.int .i64 a1)),.c (E9.tree a2)] [cW.o a0] (bX (y7 K a0 a1 a2)) (fun r=>.c (dV.tree r.1)) (fun r=>[cW.o r.2]))∧(∀ (a0:cF),∀ (a1:Int),bV Tryz.prog 143 [.c (.ptr 0 0 0),.c (.val (.int .i64 a1))] [cW.o a0] (bX (aMF K a0 a1)) (fun r=>.agg (dV.cs r.1)) (fun r=>[cW.o r.2,dV.o r.1]))∧(∀ (a0:cF),∀ (a1:Int),bV Tryz.prog 185 [.c (.ptr 0 0 0),.c (.val (.int .i64 a1))] [cW.o a0] (bX (aMH K a0 a1)) (fun r=>.agg (dV.cs r.1)) (fun r=>[cW.o r.2,dV.o r.1]))∧(∀ (a0:cF),∀ (a1:Int),bV Tryz.prog 186 [.c (.ptr 0 0 0),.c (.val (.int .i64 a1))] [cW.o a0] (bX (aMI K a0 a1)) (fun r=>.agg (dV.cs r.1)) (fun r=>[cW.o r.2,dV.o r.1]))∧(∀ (a0:cF),∀ (a1:Int),∀ (a2:Bytes),bV Tryz.prog 212 [.c (.ptr 0 0 0),.c (.val (.int .i64 a1)),.c (.str a2)] [cW.o a0] (bX (aJt K a0 a1 a2)) (fun r=>.c (dV.tree r.1)) (fun r=>[cW.o r.2])):=by
 intro K
 induction K with
 | zero=>exact ⟨fun a0 a1 a2=>bV.none (by rw[y7];rfl),fun a0 a1=>bV.none (by rw[aMF];rfl),fun a0 a1=>bV.none (by rw[aMH];rfl),fun a0 a1=>bV.none (by rw[aMI];rfl),fun a0 a1 a2=>bV.none (by rw[aJt];rfl)⟩
 | succ K ih =>
  obtain ⟨aHH,a3h,a3i,a3j,aVO⟩:=ih
  refine ⟨?_,?_,?_,?_,?_⟩
  ·
   intro a0 a1 a2
   refine bV.it Tryz.f114 (fun r=>⟨[(6,.c (dV.tree r.1))],[cW.o r.2],[],1⟩) ?_
   rw[y7]
   exact Ref.pt (
    .jn (fun u68=>⟨[sP 0 0 0 0,sI 1 a1],[cW.o u68],[],1⟩) (
     .ite _ (
      .look (default:Bool) _ [0] (aKO K a0) (fun _=>rfl) fun r69 =>
      .bk 0 (fun aI6=>⟨[sP 0 0 0 0,sI 1 a1,sB 7 aI6],[cW.o a0],[],1⟩) (
       .lp [0] (fun p4=>⟨[sP 0 0 0 0,sI 1 a1,(2,.c (E9.tree a2)),sB 7 p4.1,sI 8 p4.2],[cW.o a0],[],1⟩) fun p4 =>
       .lt _ fun a3a =>
       .ite _ (
        .bk 1 (fun aT1=>⟨[sP 0 0 0 0,sI 1 a1,(2,.c (E9.tree a2)),sB 7 aT1,sI 8 p4.2],[cW.o a0],[],1⟩) (
         .ck _ <|
         .look (default:Bool) _ [0] (j5 K a0 (a2.getD (p4.2:Int).toNat default)) (fun _=>rfl) fun aCS =>
         .ck _ <|
         .look (default:Bool) _ [0] (kG K a0 3) (fun _=>rfl) fun aMp =>
         .look (default:Bool) _ [0] (j5 K a0 aAr) (fun _=>rfl) fun a3b =>
         .lt _ fun a3c =>
         .nil [0] _) fun aT1 =>
        .nil [0] _) (
        .ret [0] _)) fun aI6 =>
      .ite _ (
       .call [0] (mP _ _ _) fun a3d =>
       .nil [0] _) (
       .nil [0] _)) (
      .nil [0] _)) fun u68 =>
    .bk 2 (fun aJs=>⟨[(9,.c (.own 1 aJs.2.length))],[cW.o aJs.1,dV.row aJs.2],[],1⟩) (
     .ad 9 0 9 dV.ty dV.w (dV.at []) <|
     .lp [0,1] (fun wU=>⟨[sP 0 0 0 0,sI 1 a1,(9,.c (.own 1 wU.2.length))],[cW.o wU.1,dV.row wU.2],[],1⟩) fun wU =>
     .look (default:Bool) _ [0] (aKO K wU.1) (fun _=>rfl) fun a3e =>
     .ite _ (
      .bk 3 (fun aJr=>⟨[sP 0 0 0 0,sI 1 a1,(9,.c (.own 1 aJr.2.length))],[cW.o aJr.1,dV.row aJr.2],[],1⟩) (
       .call [0] (oO _ _ _ _) fun aT2 =>
       .ite _ (
        .call [0] (a3h _ _) fun aMG =>
        .ob 13 2 3 (El.b9 dV [aMG.1] rfl rfl) <|
        .ck _ <|
        .ap 13 1 4 63 dV wU.2 [aMG.1] <|
        .nil [0,4] _) (
        .nil [0,1] _)) fun aJr =>
      .nil [0,1] _) (
      .ret [0,1] _)) fun aJs =>
    .fz 14 0 1 <|
    .ret [0] _)
  ·
   intro a0 a1
   refine bV.it Tryz.f143 (fun r=>⟨[sP 4 1 0 0],[cW.o r.2,dV.o r.1],[],1⟩) ?_
   rw[aMF]
   exact Ref.pt (
    .bk 0 (fun u39=>⟨aAu,[cW.o u39.1,xA,.cells [iC u39.2.1,iC u39.2.2.1,.str u39.2.2.2.1,cN.tree u39.2.2.2.2.1,kO.tree u39.2.2.2.2.2.1,jR.tree u39.2.2.2.2.2.2]],[],1⟩) (
     .call [0] (dH _ _ _) fun r40 =>
     .ite _ (
      .call [0] (a3i _ _) fun r41 =>
      .ob 4 0 2 (x:=dV.o r41.1) (y:=(.cells [iC r41.1.bU,iC r41.1.fN,.str r41.1.cD,cN.tree r41.1.cU,kO.tree r41.1.eY,jR.tree r41.1.b8])) (OLe.cells (gD.cons (hG.refl _) (gD.cons (hG.refl _) (gD.cons (hG.refl _) (gD.cons (hG.refl _) (gD.cons (hG.refl _) (gD.cons (jN _) (gD.nil)))))))) <|
      .nil [0,1,2] _) (
      .call [0] (dH _ _ _) fun r42 =>
      .ite _ (
       .call [0] (a3j _ _) fun oJ =>
       .ob 6 0 2 (x:=dV.o oJ.1) (y:=(.cells [iC oJ.1.bU,iC oJ.1.fN,.str oJ.1.cD,cN.tree oJ.1.cU,kO.tree oJ.1.eY,jR.tree oJ.1.b8])) (OLe.cells (gD.cons (hG.refl _) (gD.cons (hG.refl _) (gD.cons (hG.refl _) (gD.cons (hG.refl _) (gD.cons (hG.refl _) (gD.cons (jN _) (gD.nil)))))))) <|
       .nil [0,1,2] _) (
       .call [0] (dH _ _ _) fun r44 =>
       .ite _ (
        .call [0] (kZ _ _ _) fun r45 =>
        .ob 9 2 4 (El.b9 cN [r45.1] rfl rfl) <|
        .call [0] (dB _ _ _) fun r46 =>
        .aD7 [0,1,2,4] 11 (rg (cd (bd Tryz.f143) [1,1,0,0,1,1,1,1,1,0,1,1,1,0])) ((rg (cd (bd Tryz.f143) [1,1,0,0,1,1,1,1,1,0,1,1,1,0])).toList.drop 3) [(cd (bd Tryz.f143) [1,1,0,0,1,1,1,1,1,0,1,1,1,1])] ⟨aAu++[sP 33 0 0 0,sI 35 (IntKind.i64.wrap (a1+1))],[cW.o r46,xA,.cells [iC 7,iC 0,.str [],.own 3 ([r45.1].length),.nil,.nil],cN.row [r45.1]],[],1⟩ (by
         refine eO.li 36 [] E9 ([[69,78,68,95,87,72,73,76,69]]:List Bytes) 3 4 ?_
         exact eO.pt (id:=11) (
          .call [0] (aHH _ _ _) fun r47 =>
          .ob 11 2 5 (El.b9 jR [r47.1] rfl rfl) <|
          .call [0] (dB _ _ _) fun r48 =>
          .fz 12 0 3 <|
          .ok 12 0 2 4 (x:=.nil) (y:=kO.tree []) (El.cJ kO) <|
          .fz 12 0 5 <|
          .nil [0,1,2] _))) (
        .call [0] (dH _ _ _) fun r49 =>
        .ite _ (
         .call [0] (gQ _ _) fun r50 =>
         .call [0] (dB _ _ _) fun r51 =>
         .call [0] (kZ _ _ _) fun r52 =>
         .call [0] (dB _ _ _) fun r53 =>
         .ex [1] <|
         .tx [2,5] <|
         .kn fun r54 a6d =>
         .all [0,1,4,5,6,56,55,57,58,59] (rg (cd (bd Tryz.f143) [1,1,0,0,1,1,1,1,1,1,1,0,1,1,1,1,0])) [false,true,false,false,false,false] (hl [(2,.kc [.s 0] (bV.eq (kZ _ _ _) a6d) []),(3,.no [.bd 58 cN [r52.1,r54.1]])]) ⟨iD a1,[cW.o r54.2,xA,.cells [iC 8,iC 0,.str r50.1,.own 3 ([r52.1,r54.1].length),.nil,.nil],cN.row [r52.1,r54.1]],[],1⟩ [.k 0,.s 4,.s 5,.o 2 3] <|
         .call [0] (dB _ _ _) fun r56 =>
         .call [0] (yW _ _) fun r57 =>
         .call [0] (dB _ _ _) fun r58 =>
         .aD7 [0,1,2,3] 22 (rg (cd (bd Tryz.f143) [1,1,0,0,1,1,1,1,1,1,1,0,1,1,1,1,1,1,1,1,0])) ((rg (cd (bd Tryz.f143) [1,1,0,0,1,1,1,1,1,1,1,0,1,1,1,1,1,1,1,1,0])).toList.drop 3) [(cd (bd Tryz.f143) [1,1,0,0,1,1,1,1,1,1,1,0,1,1,1,1,1,1,1,1,1])] ⟨aAu++[sP 67 0 0 0,sI 69 (IntKind.i64.wrap (a1+1))],[cW.o r58,xA,.cells [iC 8,iC r57.1,.str r50.1,.own 3 ([r52.1,r54.1].length),.nil,.nil],cN.row [r52.1,r54.1]],[],1⟩ (by
          refine eO.li 70 [] E9 ([[69,78,68,95,70,79,82]]:List Bytes) 3 4 ?_
          exact eO.pt (id:=22) (
           .call [0] (aHH _ _ _) fun r59 =>
           .ob 22 2 5 (El.b9 jR [r59.1] rfl rfl) <|
           .call [0] (dB _ _ _) fun r60 =>
           .fz 23 0 3 <|
           .ok 23 0 2 4 (x:=.nil) (y:=kO.tree []) (El.cJ kO) <|
           .fz 23 0 5 <|
           .nil [0,1,2] _))) (
         .call [0] (dH _ _ _) fun r61 =>
         .ite _ (
          .look (default:Bool) _ [0] (aF3 K r61.2) (fun _=>rfl) fun r62 =>
          .ite _ (
           .call [0] (kZ _ _ _) fun r63 =>
           .ob 27 2 4 (El.b9 cN [r63.1] rfl rfl) <|
           .fz 27 0 4 <|
           .ok 27 0 2 4 (x:=.nil) (y:=kO.tree []) (El.cJ kO) <|
           .ok 27 0 2 5 (x:=.nil) (y:=jR.tree []) (El.cJ jR) <|
           .nil [0,1,2] _) (
           .ok 26 0 2 3 (x:=.nil) (y:=cN.tree []) (El.cJ cN) <|
           .ok 26 0 2 4 (x:=.nil) (y:=kO.tree []) (El.cJ kO) <|
           .ok 26 0 2 5 (x:=.nil) (y:=jR.tree []) (El.cJ jR) <|
           .nil [0,1,2] _)) (
          .call [0] (dH _ _ _) fun r64 =>
          .ite _ (
           .ok 29 0 2 3 (x:=.nil) (y:=cN.tree []) (El.cJ cN) <|
           .ok 29 0 2 4 (x:=.nil) (y:=kO.tree []) (El.cJ kO) <|
           .ok 29 0 2 5 (x:=.nil) (y:=jR.tree []) (El.cJ jR) <|
           .nil [0,1,2] _) (
           .call [0] (dH _ _ _) fun r65 =>
           .ite _ (
            .call [0] (gQ _ _) fun r66 =>
            .call [0] (dB _ _ _) fun pK =>
            .call [0] (kZ _ _ _) fun r68 =>
            .call [0] (dB _ _ _) fun r69 =>
            .ex [1] <|
            .tx [2,5] <|
            .kn fun r70 a6e =>
            .all [0,4,5,7,104,103,105,106,107] (rg (cd (bd Tryz.f143) [1,1,0,0,1,1,1,1,1,1,1,1,1,1,1,1,1,0,1,1,1,1,0])) [false,true,false,false,false,false] (hl [(2,.kc [.s 0] (bV.eq (kZ _ _ _) a6e) []),(3,.no [.bd 106 cN [r68.1,r70.1]])]) ⟨aAu,[cW.o r70.2,xA,.cells [iC 11,iC 0,.str r66.1,.own 3 ([r68.1,r70.1].length),.nil,.nil],cN.row [r68.1,r70.1]],[],1⟩ [.k 0,.s 4,.s 5,.o 2 3] <|
            .call [0] (dB _ _ _) fun r72 =>
            .fz 36 0 3 <|
            .ok 36 0 2 4 (x:=.nil) (y:=kO.tree []) (El.cJ kO) <|
            .ok 36 0 2 5 (x:=.nil) (y:=jR.tree []) (El.cJ jR) <|
            .nil [0,1,2] _) (
            .call [0] (dH _ _ _) fun r73 =>
            .ite _ (
             .call [0] (aF6 _ _ _ _) fun r74 =>
             .ob 38 4 4 (El.b9 cN [r74.1] rfl rfl) <|
             .fz 38 0 4 <|
             .ok 38 0 2 4 (x:=.nil) (y:=kO.tree []) (El.cJ kO) <|
             .ok 38 0 2 5 (x:=.nil) (y:=jR.tree []) (El.cJ jR) <|
             .nil [0,1,2] _) (
             .call [0] (dH _ _ _) fun r75 =>
             .ite _ (
              .call [0] (aF6 _ _ _ _) fun r76 =>
              .ob 40 4 4 (El.b9 cN [r76.1] rfl rfl) <|
              .fz 40 0 4 <|
              .ok 40 0 2 4 (x:=.nil) (y:=kO.tree []) (El.cJ kO) <|
              .ok 40 0 2 5 (x:=.nil) (y:=jR.tree []) (El.cJ jR) <|
              .nil [0,1,2] _) (
              .call [0] (aT0 _ _) fun r77 =>
              .ob 2 0 2 (x:=dV.o r77.1) (y:=(.cells [iC r77.1.bU,iC r77.1.fN,.str r77.1.cD,cN.tree r77.1.cU,kO.tree r77.1.eY,jR.tree r77.1.b8])) (OLe.cells (gD.cons (hG.refl _) (gD.cons (hG.refl _) (gD.cons (hG.refl _) (gD.cons (hG.refl _) (gD.cons (hG.refl _) (gD.cons (jN _) (gD.nil)))))))) <|
              .nil [0,1,2] _)))))))))) fun u39 =>
    .call [0] (dB _ _ _) fun r78 =>
    .ok 42 0 1 5 (x:=jR.tree u39.2.2.2.2.2.2) (y:=lW u39.2.2.2.2.2.2) (uW _) <|
    .ret [0,1] _)
  ·
   intro a0 a1
   refine bV.it Tryz.f185 (fun r=>⟨[sP 4 1 0 0],[cW.o r.2,dV.o r.1],[],1⟩) ?_
   rw[aMH]
   exact Ref.pt (
    .ob 2 1 3 (El.b9 E9 [aQp,aDl,aT4] rfl rfl) <|
    .bk 0 (fun u57=>⟨iD a1,[cW.o u57.1,xA,.cells [iC 5,iC 0,.str [],.own 3 u57.2.1.length,.nil,.own 4 u57.2.2.length],cN.row u57.2.1,jR.row u57.2.2],[],1⟩) (
     .fz 2 0 3 <|
     .adc 2 0 2 3 cN.ty cN.w (cN.at []) <|
     .adc 2 0 2 5 jR.ty jR.w (jR.at []) <|
     .lp [0,1,2,4,5] (fun l7=>⟨iD a1++[(6,.c (E9.tree l7.2.2.2))],[cW.o l7.1,xA,.cells [iC 5,iC 0,.str [],.own 3 l7.2.1.length,.nil,.own 4 l7.2.2.1.length],cN.row l7.2.1,jR.row l7.2.2.1],[],1⟩) fun l7 =>
     .ite _ (
      .bk 1 (fun sU=>⟨iD a1++[(6,.c (E9.tree l7.2.2.2))],[cW.o sU.1,xA,.cells [iC 5,iC 0,.str [],.own 3 sU.2.1.length,.nil,.own 4 sU.2.2.length],cN.row sU.2.1,jR.row sU.2.2],[],1⟩) (
       .ex [0,2] <|
       .tx [3,5,7] <|
       .kn fun qP a3k =>
       .asm _ fun h1 =>
       .all [0,1,4,5,6,14,16,15,17,18,19,20] (rg (cd (bd Tryz.f185) [1,1,1,0,0,0,1,0,0])) [true,false,true,false,false,false,false,false] (hl [(3,.kc [.s 0] (bV.eq (kZ _ _ _) a3k) []),(4,.no [.bd 18 cN [qP.1]]),(5,.ck _ h1 [.ap 19 cN l7.2.1 [qP.1]])]) ⟨iD a1++[(6,.c (E9.tree l7.2.2.2))],[cW.o qP.2,xA,.cells [iC 5,iC 0,.str [],.own 3 ((l7.2.1++[qP.1]).length),.nil,.own 4 l7.2.2.1.length],cN.row (l7.2.1++[qP.1]),jR.row l7.2.2.1],[],1⟩ [.k 0,.s 4,.s 5,.o 2 3,.o 2 5] <|
       .call [0] (dB _ _ _) fun aOC =>
       .ex [0,2,3,4,5] <|
       .tx [6,8,10] <|
       .kn fun vI a3l =>
       .asm _ fun h1 =>
       .all [0,1,4,5,6,23,25,27,28,24,29,30,31,32] (rg (cd (bd Tryz.f185) [1,1,1,0,0,0,1,0,1,1,0])) [true,false,true,true,true,true,false,false,false,false,false] (hl [(6,.kc [.s 0] (bV.eq (aHH _ _ _) a3l) []),(7,.no [.bd 30 jR [vI.1]]),(8,.ck _ h1 [.ap 31 jR l7.2.2.1 [vI.1]])]) ⟨iD a1++[(6,.c (E9.tree l7.2.2.2))],[cW.o vI.2,xA,.cells [iC 5,iC 0,.str [],.own 3 ((l7.2.1++[qP.1]).length),.nil,.own 4 ((l7.2.2.1++[vI.1]).length)],cN.row (l7.2.1++[qP.1]),jR.row (l7.2.2.1++[vI.1])],[],1⟩ [.k 0,.s 4,.s 5,.o 2 3,.o 2 5] <|
       .look (default:Bool) _ [0] (j5 K vI.2 aQp) (fun _=>rfl) fun a3f =>
       .ite _ (
        .ret [0,1,2,3,4] _) (
        .call [0] (oO _ _ _ _) fun aJq =>
        .call [0] (dB _ _ _) fun aQk =>
        .nil [0,1,2,3,4] _)) fun sU =>
      .nil [0,1,2,3,4] _) (
      .ret [0,1,2,3,4] _)) fun u57 =>
    .ex [0,2,3] <|
    .tx [4,6,8] <|
    .kn fun aDi a3m =>
    .asm _ fun h1 =>
    .all [0,4,5,43,45,46,44,47,48,49,50] (rg (cd (bd Tryz.f185) [1,1,1,1,0])) [true,false,true,true,false,false,false,false,false] (hl [(4,.kc [.s 0] (bV.eq (aVO _ _ _) a3m) []),(5,.no [.bd 48 jR [aDi.1]]),(6,.ck _ h1 [.ap 49 jR u57.2.2 [aDi.1]])]) ⟨aAu,[cW.o aDi.2,xA,.cells [iC 5,iC 0,.str [],.own 3 u57.2.1.length,.nil,.own 4 ((u57.2.2++[aDi.1]).length)],cN.row u57.2.1,jR.row (u57.2.2++[aDi.1])],[],1⟩ [.k 0,.s 4,.s 5,.o 2 3,.o 2 5] <|
    .call [0] (dB _ _ _) fun a3g =>
    .fz 12 0 3 <|
    .ok 12 0 1 4 (x:=.nil) (y:=kO.tree []) (El.cJ kO) <|
    .fz 12 0 4 <|
    .ok 12 0 1 5 (x:=jR.tree (u57.2.2++[aDi.1])) (y:=lW (u57.2.2++[aDi.1])) (uW _) <|
    .ret [0,1] _)
  ·
   intro a0 a1
   refine bV.it Tryz.f186 (fun r=>⟨[sP 4 1 0 0],[cW.o r.2,dV.o r.1],[],1⟩) ?_
   rw[aMI]
   exact Ref.pt (
    .call [0] (kZ _ _ _) fun r1 =>
    .ob 1 3 3 (El.b9 cN [r1.1] rfl rfl) <|
    .call [0] (dB _ _ _) fun r2 =>
    .bk 0 (fun sV=>⟨iD a1,[cW.o sV.1,xA,.cells [iC 6,iC 0,.str [],.own 3 ([r1.1].length),.own 4 sV.2.1.length,.own 5 sV.2.2.length],cN.row [r1.1],kO.row sV.2.1,jR.row sV.2.2],[],1⟩) (
     .adc 2 0 4 4 kO.ty kO.w (kO.at []) <|
     .adc 2 0 4 5 jR.ty jR.w (jR.at []) <|
     .lp [0,1,4,3,5,6] (fun eS=>⟨iD a1,[cW.o eS.1,xA,.cells [iC 6,iC 0,.str [],.own 3 ([r1.1].length),.own 4 eS.2.1.length,.own 5 eS.2.2.length],cN.row [r1.1],kO.row eS.2.1,jR.row eS.2.2],[],1⟩) fun eS =>
     .look (default:Bool) _ [0] (kG K eS.1 3) (fun _=>rfl) fun aQn =>
     .look (default:Bool) _ [0] (j5 K eS.1 aAr) (fun _=>rfl) fun aVJ =>
     .ite _ (
      .bk 1 (fun vS=>⟨iD a1,[cW.o vS.1,xA,.cells [iC 6,iC 0,.str [],.own 3 ([r1.1].length),.own 4 vS.2.1.length,.own 5 vS.2.2.length],cN.row [r1.1],kO.row vS.2.1,jR.row vS.2.2],[],1⟩) (
       .call [0] (oO _ _ _ _) fun aVK =>
       .bk 2 (fun iK=>⟨iD a1++[(6,.c (.own 6 iK.2.length))],[cW.o iK.1,xA,.cells [iC 6,iC 0,.str [],.own 3 ([r1.1].length),.own 4 eS.2.1.length,.own 5 eS.2.2.length],cN.row [r1.1],kO.row eS.2.1,jR.row eS.2.2,E3.row iK.2],[],1⟩) (
        .ad 5 0 6 E3.ty E3.w (E3.at []) <|
        .lp [0,1,2,3,4,5,6] (fun kU=>⟨iD a1++[(6,.c (.own 6 kU.2.length))],[cW.o kU.1,xA,.cells [iC 6,iC 0,.str [],.own 3 ([r1.1].length),.own 4 eS.2.1.length,.own 5 eS.2.2.length],cN.row [r1.1],kO.row eS.2.1,jR.row eS.2.2,E3.row kU.2],[],1⟩) fun kU =>
        .ite _ (
         .bk 3 (fun aDk=>⟨iD a1++[(6,.c (.own 6 aDk.2.length))],[cW.o aDk.1,xA,.cells [iC 6,iC 0,.str [],.own 3 ([r1.1].length),.own 4 eS.2.1.length,.own 5 eS.2.2.length],cN.row [r1.1],kO.row eS.2.1,jR.row eS.2.2,E3.row aDk.2],[],1⟩) (
          .look (default:Bool) _ [0] (kG K kU.1 3) (fun _=>rfl) fun aQo =>
          .look (default:Bool) _ [0] (j5 K kU.1 aAr) (fun _=>rfl) fun aVL =>
          .jn (fun aKS=>⟨iD a1++[(6,.c (.own 6 kU.2.length))],[cW.o aKS,xA,.cells [iC 6,iC 0,.str [],.own 3 ([r1.1].length),.own 4 eS.2.1.length,.own 5 eS.2.2.length],cN.row [r1.1],kO.row eS.2.1,jR.row eS.2.2,E3.row kU.2],[],1⟩) (
           .ite _ (
            .call [0] (oO _ _ _ _) fun aVM =>
            .nil [0,1,2,3,4,5,6] _) (
            .nil [0,1,2,3,4,5,6] _)) fun aKS =>
          .call [0] (yW _ _) fun aDj =>
          .ob 9 2 7 (El.b9 E3 [aDj.1] rfl rfl) <|
          .ck _ <|
          .ap 9 1 8 43 E3 kU.2 [aDj.1] <|
          .call [0] (dH _ _ _) fun aKT =>
          .ite _ (
           .ret [0,1,2,3,4,5,8] _) (
           .nil [0,1,2,3,4,5,8] _)) fun aDk =>
         .nil [0,1,2,3,4,5,6] _) (
         .ret [0,1,2,3,4,5,6] _)) fun iK =>
       .call [0] (dB _ _ _) fun aA0 =>
       .fz 12 4 6 <|
       .ob 12 3 7 (El.b9 kO [iK.2] rfl rfl) <|
       .ck _ <|
       .ap 12 2 8 53 kO eS.2.1 [iK.2] <|
       .esc [0,1,2,3,5,8] [(cd (bd Tryz.f186) [1,1,1,0,0,0,1,0,1,1,1,1,1])] ⟨iD a1,[cW.o aA0,xA,.cells [iC 6,iC 0,.str [],.own 3 ([r1.1].length),.own 5 ((eS.2.1++[iK.2]).length),.own 4 eS.2.2.length],cN.row [r1.1],jR.row eS.2.2,kO.row (eS.2.1++[iK.2])],[],1⟩ (by
        refine Ref.wA 13 (by kernel_rfl) (by kernel_rfl) ?_
        refine gI.aAa (dD:=⟨iD a1++[sP 55 2 0 5,sP 57 0 0 0,sI 59 (IntKind.i64.wrap (a1+1))],[cW.o aA0,xA,.cells [iC 6,iC 0,.str [],.own 3 ([r1.1].length),.own 5 ((eS.2.1++[iK.2]).length),.own 4 eS.2.2.length],cN.row [r1.1],jR.row eS.2.2,kO.row (eS.2.1++[iK.2])],[],1⟩) (fuel':=7) [0,2,3,4] [0,1,4,5,55,57,59] [0,1,2,3,4,5] rfl (by kernel_rfl) (by kernel_rfl) ?_
        refine gI.toX [6,8,10] ?_
        refine cX.aFo (fun (iL:(List cI) × cF)=>⟨iD a1,[cW.o iL.2,xA,.cells [iC 6,iC 0,.str [],.own 3 ([r1.1].length),.own 4 ((eS.2.1++[iK.2]).length),.own 5 ((eS.2.2++[iL.1]).length)],cN.row [r1.1],kO.row (eS.2.1++[iK.2]),jR.row (eS.2.2++[iL.1])],[],1⟩) (fun (iL:(List cI) × cF)=>(some (.inr (iL.2,(eS.2.1++[iK.2]),(eS.2.2++[iL.1]))))) (fun iL=>?_) (fun hk=>?_)
        ·
         exact Ref.pt (
          .nil [0,1,2,3,4,5] _)
        ·
         refine cX.aNQ (fuel':=6) [[],[(1,56)]] [(1,56)] [0,1,4,5,55,57,59] [0,1,2,3,4,5] ⟨iD a1++[sP 55 2 0 5,(56,.c (.own 4 eS.2.2.length)),sP 57 0 0 0,sI 59 (IntKind.i64.wrap (a1+1))],[cW.o aA0,xA,.cells [iC 6,iC 0,.str [],.own 3 ([r1.1].length),.own 5 ((eS.2.1++[iK.2]).length),.own 4 eS.2.2.length],cN.row [r1.1],jR.row eS.2.2,kO.row (eS.2.1++[iK.2])],[],1⟩ ?_
         refine gO.mV (fuel':=5) 5 ?_
         refine gU.aED (dD:=⟨iD a1++[sP 55 2 0 5,(56,.c (.own 4 eS.2.2.length)),sP 57 0 0 0,sI 59 (IntKind.i64.wrap (a1+1)),(60,.c (.own 6 3))],[cW.o aA0,xA,.cells [iC 6,iC 0,.str [],.own 3 ([r1.1].length),.own 5 ((eS.2.1++[iK.2]).length),.own 4 eS.2.2.length],cN.row [r1.1],jR.row eS.2.2,kO.row (eS.2.1++[iK.2]),.row 9 1 3 (xE [[.str aMJ],[.str aDl],[.str n8]])],[],1⟩) 5 [0,1,4,5,55,56,57,59,60] [0,1,2,3,4,5,6] (by kernel_rfl) (by kernel_rfl) ?_
         refine gO.conv (qH.obj 6 (E9.row [aMJ,aDl,n8]) (El.b9 E9 [aMJ,aDl,n8] rfl (by kernel_rfl)) (by kernel_rfl)) ?_
         refine gO.conv (qH.slot 60 (.c (.own 6 ([aMJ,aDl,n8].length))) (jS.c (hG.own (by first | (simp;done) | (simp;omega) | omega))) (by kernel_rfl)) ?_
         refine gO.mV (fuel':=4) 6 ?_
         refine gU.conv (qH.freeze (dD:=⟨(60,.c (E9.tree [aMJ,aDl,n8]))::(iD a1++[sP 55 2 0 5,(56,.c (.own 4 eS.2.2.length)),sP 57 0 0 0,sI 59 (IntKind.i64.wrap (a1+1))]),[cW.o aA0,xA,.cells [iC 6,iC 0,.str [],.own 3 ([r1.1].length),.own 5 ((eS.2.1++[iK.2]).length),.own 4 eS.2.2.length],cN.row [r1.1],jR.row eS.2.2,kO.row (eS.2.1++[iK.2]),.dead],[],1⟩) 6 (by kernel_rfl)) ?_
         refine gU.c8 (t:=61) 6 [0] rfl (by kernel_rfl) (aHH aA0 (IntKind.i64.wrap (a1+1)) [aMJ,aDl,n8]) (fun iL=>?_)
         refine gO.mV (fuel':=3) 7 ?_
         refine gU.aED (dD:=⟨iD a1++[sP 55 2 0 5,(56,.c (.own 4 eS.2.2.length)),(62,.c (.own 6 1))],[cW.o iL.2,xA,.cells [iC 6,iC 0,.str [],.own 3 ([r1.1].length),.own 5 ((eS.2.1++[iK.2]).length),.own 4 eS.2.2.length],cN.row [r1.1],jR.row eS.2.2,kO.row (eS.2.1++[iK.2]),.row 33 1 1 (xE [[dV.tree iL.1]])],[],1⟩) 7 [0,1,4,5,55,56,62] [0,1,2,3,4,5,7] (by kernel_rfl) (by kernel_rfl) ?_
         refine gO.conv (qH.obj 6 (jR.row [iL.1]) (El.b9 jR [iL.1] rfl (by kernel_rfl)) (by kernel_rfl)) ?_
         refine gO.conv (qH.slot 62 (.c (.own 6 ([iL.1].length))) (jS.c (hG.own (by first | (simp;done) | (simp;omega) | omega))) (by kernel_rfl)) ?_
         refine gO.close ?_
         refine cX.mV (fuel':=2) 8 (by kernel_rfl) ?_
         refine eQ.writes (vs:=[room ((eS.2.2.length+([iL.1].length)) * 24)]) (dD:=⟨iD a1++[(63,.c (.own 6 (eS.2.2.length+([iL.1].length))))],[cW.o iL.2,xA,.cells [iC 6,iC 0,.str [],.own 3 ([r1.1].length),.own 5 ((eS.2.1++[iK.2]).length),.own 4 eS.2.2.length],cN.row [r1.1],.dead,kO.row (eS.2.1++[iK.2]),.row 33 1 (eS.2.2.length+([iL.1].length)) fun i j=>bif Nat.blt i eS.2.2.length then jR.at eS.2.2 i j else (jR.at [iL.1]) (i - eS.2.2.length) j],[],1⟩) 8 [0,1,4,5,63] [0,1,2,3,4,5,7] (by kernel_rfl) (by kernel_rfl) ?_
         refine cX.conv (Conv.ob 6 (jR.row (eS.2.2++[iL.1])) (El.jE jR eS.2.2 [iL.1] rfl rfl)) ?_
         refine cX.conv (Conv.sl 63 (.c (.own 6 ((eS.2.2++[iL.1]).length))) (jS.c (hG.own (by first | (simp;done) | (simp;omega) | omega)))) ?_
         refine cX.v0 (fuel':=1) [9] [0,1,4,5,63,64] [0,1,2,3,4,5,6] ?_
         refine cX.mV (fuel':=0) 10 (by kernel_rfl) ?_
         refine eQ.w0 10 [0,1,4,5] [0,1,2,3,5,6] ?_
         refine cX.done (by kernel_rfl) ?_
         refine Ref.ck ⟨iD a1,[cW.o iL.2,xA,.cells [iC 6,iC 0,.str [],.own 3 ([r1.1].length),.own 4 ((eS.2.1++[iK.2]).length),.own 5 ((eS.2.2++[iL.1]).length)],cN.row [r1.1],kO.row (eS.2.1++[iK.2]),jR.row (eS.2.2++[iL.1])],[],1⟩ [0,1,4,5] [0,1,2,3,4,5] ?_
         exact hk iL)) fun vS =>
      .nil [0,1,2,3,4,5] _) (
      .ret [0,1,2,3,4,5] _)) fun sV =>
    .ex [0,2,3] <|
    .tx [4,6,8] <|
    .kn fun tZ aYx =>
    .asm _ fun h1 =>
    .all [0,4,5,65,67,68,66,69,70,71,72] (rg (cd (bd Tryz.f186) [1,1,1,1,0])) [true,false,true,true,false,false,false,false,false] (hl [(4,.kc [.s 0] (bV.eq (aVO _ _ _) aYx) []),(5,.no [.bd 70 jR [tZ.1]]),(6,.ck _ h1 [.ap 71 jR sV.2.2 [tZ.1]])]) ⟨aAu,[cW.o tZ.2,xA,.cells [iC 6,iC 0,.str [],.own 3 ([r1.1].length),.own 4 sV.2.1.length,.own 5 ((sV.2.2++[tZ.1]).length)],cN.row [r1.1],kO.row sV.2.1,jR.row (sV.2.2++[tZ.1])],[],1⟩ [.k 0,.s 4,.s 5,.o 2 3,.o 2 4,.o 2 5] <|
    .call [0] (dB _ _ _) fun aVN =>
    .fz 16 0 3 <|
    .fz 16 0 4 <|
    .fz 16 0 5 <|
    .ok 16 0 1 5 (x:=jR.tree (sV.2.2++[tZ.1])) (y:=lW (sV.2.2++[tZ.1])) (uW _) <|
    .ret [0,1] _)
  ·
   intro a0 a1 a2
   refine bV.it Tryz.f212 (fun r=>⟨[(6,.c (dV.tree r.1))],[cW.o r.2],[],1⟩) ?_
   rw[aJt]
   exact Ref.pt (
    .call [0] (dH _ _ _) fun r1 =>
    .ite _ (
     .sl 2 0 6 (x:=.c (.nil)) (y:=(.c (dV.tree []))) (jS.c (El.cJ dV)) <|
     .ret [0] _) (
     .ob 3 2 1 (El.b9 E9 [a2] rfl rfl) <|
     .fz 3 2 1 <|
     .call [0] (aHH _ _ _) fun r2 =>
     .ret [0] _))
theorem aKU (K:Nat) (a0:cF) (a1:Int) (a2:(List Bytes)):bV Tryz.prog 114 [.c (.ptr 0 0 0),.c (.val (.int .i64 a1)),.c (E9.tree a2)] [cW.o a0] (bX (y7 K a0 a1 a2)) (fun r=>.c (dV.tree r.1)) (fun r=>[cW.o r.2]):=(aT3 K).1 a0 a1 a2
def aQq (K:Nat) (a0:cF):Option ((iR × cF) ⊕ (iR × cF)) :=
 ((bX (fV K a0 ([65,66,83,84,82,65,67,84]:Bytes))).bind (fun r1=>((bX (fV K r1.2 ([70,73,78,65,76]:Bytes))).bind (fun r2=>((bX (nL K r2.2)).bind (fun r3=>((bX (fV K r3.2 ([69,88,84,69,78,68,83]:Bytes))).bind (fun r4=>(bT (if r4.1=true then ((bX (nL K r4.2)).bind (fun r7=>(some (.inr (r7.2,r7.1))))) else (some (.inr (r4.2,([]:Bytes))))) (fun (u6:cF × Bytes)=>((bX (fV K u6.1 ([73,77,80,76,69,77,69,78,84,83]:Bytes))).bind (fun r8=>(bT (if r8.1=true then (bT (bQ ((iter K (fun (rT:cF × (List Bytes))=>(if ((rT.1.iQ:Int) == 0)=true then (bT (bQ ((cE true (bX (sQ K rT.1 1)) default).bind (fun a3n=>(bT (if a3n=true then ((bX (F74 K rT.1 (Int.ofNat rT.2.length) 4)).bind (fun a3o=>(some (.inr (a3o))))) else (some (.inr (rT.1)))) (fun (aEg:cF)=>((bX (nL K aEg)).bind (fun aEm=>(bY [room ((rT.2.length+([aEm.1].length)) * 16)] ((bX (fV K aEm.2 ([44]:Bytes))).bind (fun aT5=>(if (!aT5.1)=true then (some (.inl (Sum.inr (Sum.inl (aT5.2,(rT.2++[aEm.1])))))) else (some (.inr (aT5.2,(rT.2++[aEm.1]))))))))))))))) (fun (aBi:cF × (List Bytes))=>(some (.inr (aBi.1,aBi.2))))) else (some (.inl (Sum.inl (rT.1,rT.2)))))) (r8.2,[])).map .inl)) (fun (aMK:cF × (List Bytes))=>(some (.inr (aMK.1,aMK.2))))) else (some (.inr (r8.2,[])))) (fun (aBl:cF × (List Bytes))=>((bX (fR K aBl.1 ([59]:Bytes))).bind (fun a3p=>((bX (aJl K a3p)).bind (fun aML=>(bT (bQ ((iter K (fun (y8:cF × (List hU))=>((cE true (bX (F73 K y8.1 ([77,69,84,72,79,68]:Bytes))) default).bind (fun a3q=>(if a3q=true then (bT (bQ ((bX (F74 K y8.1 (Int.ofNat y8.2.length) 6)).bind (fun a3r=>((bX (fR K a3r ([77,69,84,72,79,68]:Bytes))).bind (fun a3s=>((bX (fV K a3s ([79,86,69,82,82,73,68,69]:Bytes))).bind (fun aMM=>((bX (fV K aMM.2 ([65,66,83,84,82,65,67,84]:Bytes))).bind (fun aMN=>((bX (fV K aMN.2 ([70,73,78,65,76]:Bytes))).bind (fun aMO=>((bX (nL K aMO.2)).bind (fun aMP=>((bX (aMA K aMP.2)).bind (fun aMQ=>((bX (aMB K aMQ.2)).bind (fun aMR=>((bX (fR K aMR.2 ([59]:Bytes))).bind (fun a3t=>((bX (aJl K a3t)).bind (fun aMS=>((bX (y7 K aMS.2 1 [])).bind (fun aMT=>((bX (fR K aMT.2 ([69,78,68,95,77,69,84,72,79,68]:Bytes))).bind (fun aFS=>(bY [room ((y8.2.length+([(⟨aMP.1,aMM.1,aMN.1,aMO.1,aMQ.1,aMR.1,aMS.1,aMT.1⟩:hU)].length)) * 136)] (some (.inr (aFS,(y8.2++[(⟨aMP.1,aMM.1,aMN.1,aMO.1,aMQ.1,aMR.1,aMS.1,aMT.1⟩:hU)])))))))))))))))))))))))))))))) (fun (aJu:cF × (List hU))=>(some (.inr (aJu.1,aJu.2))))) else (some (.inl (Sum.inl (y8.1,y8.2)))))))) (aML.2,[])).map .inl)) (fun (aJv:cF × (List hU))=>((bX (fR K aJv.1 ([69,78,68,95,67,76,65,83,83]:Bytes))).bind (fun a3u=>(some (.inl ((⟨2,r3.1,u6.2,aBl.2,r1.1,r2.1,aML.1,aJv.2,[],0,0⟩:iR),a3u)))))))))))))))))))))))))
abbrev aDm (v0:Bytes × cF) (v1:cF × Bytes) (v2:cF × (List Bytes)) (v3:Bool × cF) (v4:Bool × cF):List Go.Dl.Obj:=[oX2,.cells [iC 2,.str v0.1,.str v1.2,.own 3 v2.2.length,bC v3.1,bC v4.1,.nil,.nil,.nil,iC 0,iC 0],E9.row v2.2]
abbrev p5:List (Nat × D):=[sP 0 0 0 0,sP 2 1 0 0,sP 3 2 0 0]
theorem aT6 (K:Nat) (a0:cF):bV Tryz.prog 110 [.c (.ptr 0 0 0)] [cW.o a0] (bX (aQq K a0)) (fun r=>.agg (gW.cs r.1)) (fun r=>[cW.o r.2,gW.o r.1]):=by
 refine bV.it Tryz.f110 (fun r=>⟨[sP 2 1 0 0],[cW.o r.2,gW.o r.1],[],1⟩) ?_
 unfold aQq
 exact Ref.pt (
  .call [0] (dH _ _ _) fun r1 =>
  .call [0] (dH _ _ _) fun r2 =>
  .call [0] (gQ _ _) fun r3 =>
  .call [0] (dH _ _ _) fun r4 =>
  .jn (fun u6=>⟨p5,[cW.o u6.1,oX2,.cells [iC 2,.str r3.1,.str u6.2,.nil,bC r1.1,bC r2.1,.nil,.nil,.nil,iC 0,iC 0]],[],1⟩) (
   .ite _ (
    .call [0] (gQ _ _) fun r7 =>
    .nil [0,1,2] _) (
    .nil [0,1,2] _)) fun u6 =>
  .call [0] (dH _ _ _) fun r8 =>
  .jn (fun aBl=>⟨p5,cW.o aBl.1::aDm r3 u6 aBl r1 r2,[],1⟩) (
   .ite _ (
    .bk 0 (fun aMK=>⟨p5,cW.o aMK.1::aDm r3 u6 aMK r1 r2,[],1⟩) (
     .adc 7 0 2 3 E9.ty E9.w (E9.at []) <|
     .lp [0,1,2,3] (fun rT=>⟨p5,cW.o rT.1::aDm r3 u6 rT r1 r2,[],1⟩) fun rT =>
     .ite _ (
      .bk 1 (fun aBi=>⟨p5,cW.o aBi.1::aDm r3 u6 aBi r1 r2,[],1⟩) (
       .look (default:Bool) _ [0] (kG K rT.1 1) (fun _=>rfl) fun a3n =>
       .jn (fun aEg=>⟨p5,cW.o aEg::aDm r3 u6 rT r1 r2,[],1⟩) (
        .ite _ (
         .call [0] (oO _ _ _ _) fun a3o =>
         .nil [0,1,2,3] _) (
         .nil [0,1,2,3] _)) fun aEg =>
       .ex [0,2] <|
       .tx [3,5,7] <|
       .kn fun aEm a3v =>
       .asm _ fun h1 =>
       .all [0,2,3,34,36,35,37,38,39,40] (rg (cd (bd Tryz.f110) [1,1,1,1,1,1,0,1,0,0,0,1,0,1,0])) [true,false,true,false,false,false,false,false] (hl [(3,.kc [.s 0] (bV.eq (gQ _ _) a3v) []),(4,.no [.bd 38 E9 [aEm.1]]),(5,.ck _ h1 [.ap 39 E9 rT.2 [aEm.1]])]) ⟨p5,[cW.o aEm.2,oX2,.cells [iC 2,.str r3.1,.str u6.2,.own 3 ((rT.2++[aEm.1]).length),bC r1.1,bC r2.1,.nil,.nil,.nil,iC 0,iC 0],E9.row (rT.2++[aEm.1])],[],1⟩ [.k 0,.s 2,.s 3,.o 2 3] <|
       .call [0] (dH _ _ _) fun aT5 =>
       .ite _ (
        .ret [0,1,2,3] _) (
        .nil [0,1,2,3] _)) fun aBi =>
      .nil [0,1,2,3] _) (
      .ret [0,1,2,3] _)) fun aMK =>
    .nil [0,1,2,3] _) (
    .adc 7 0 2 3 E9.ty E9.w (E9.at []) <|
    .nil [0,1,2,3] _)) fun aBl =>
  .call [0] (dB _ _ _) fun a3p =>
  .call [0] (aF1 _ _) fun aML =>
  .bk 2 (fun aJv=>⟨p5,[cW.o aJv.1,oX2,.cells [iC 2,.str r3.1,.str u6.2,.own 3 aBl.2.length,bC r1.1,bC r2.1,eX.tree aML.1,.own 4 aJv.2.length,.nil,iC 0,iC 0],E9.row aBl.2,jO.row aJv.2],[],1⟩) (
   .adc 14 0 2 7 jO.ty jO.w (jO.at []) <|
   .lp [0,1,2,3,4] (fun y8=>⟨p5,[cW.o y8.1,oX2,.cells [iC 2,.str r3.1,.str u6.2,.own 3 aBl.2.length,bC r1.1,bC r2.1,eX.tree aML.1,.own 4 y8.2.length,.nil,iC 0,iC 0],E9.row aBl.2,jO.row y8.2],[],1⟩) fun y8 =>
   .look (default:Bool) _ [0] (j5 K y8.1 ([77,69,84,72,79,68]:Bytes)) (fun _=>rfl) fun a3q =>
   .ite _ (
    .bk 3 (fun aJu=>⟨p5,[cW.o aJu.1,oX2,.cells [iC 2,.str r3.1,.str u6.2,.own 3 aBl.2.length,bC r1.1,bC r2.1,eX.tree aML.1,.own 4 aJu.2.length,.nil,iC 0,iC 0],E9.row aBl.2,jO.row aJu.2],[],1⟩) (
     .call [0] (oO _ _ _ _) fun a3r =>
     .call [0] (dB _ _ _) fun a3s =>
     .call [0] (dH _ _ _) fun aMM =>
     .call [0] (dH _ _ _) fun aMN =>
     .call [0] (dH _ _ _) fun aMO =>
     .call [0] (gQ _ _) fun aMP =>
     .call [0] (aKM _ _) fun aMQ =>
     .call [0] (aKN _ _) fun aMR =>
     .call [0] (dB _ _ _) fun a3t =>
     .call [0] (aF1 _ _) fun aMS =>
     .call [0] (bV.le (aKU _ _ _ _) (gD.cons (jS.refl _) (gD.cons (jS.refl _) (gD.cons (jS.c (El.cJ _)) gD.nil)))) fun aMT =>
     .call [0] (dB _ _ _) fun aFS =>
     .ob 29 3 7 (El.b9 jO [(⟨aMP.1,aMM.1,aMN.1,aMO.1,aMQ.1,aMR.1,aMS.1,aMT.1⟩:hU)] rfl rfl) <|
     .ck _ <|
     .ap 29 2 8 91 jO y8.2 [(⟨aMP.1,aMM.1,aMN.1,aMO.1,aMQ.1,aMR.1,aMS.1,aMT.1⟩:hU)] <|
     .nil [0,1,2,3,8] _) fun aJu =>
    .nil [0,1,2,3,4] _) (
    .ret [0,1,2,3,4] _)) fun aJv =>
  .call [0] (dB _ _ _) fun a3u =>
  .fz 31 0 3 <|
  .fz 31 0 4 <|
  .ok 31 0 1 8 (x:=.nil) (y:=dV.tree []) (El.cJ dV) <|
  .ret [0,1] _)
def F76 (K:Nat) (a0:cF):Option ((iR × cF) ⊕ (iR × cF)) :=
 (bT (bQ ((bX (fV K a0 ([73,78,84,69,82,70,65,67,69]:Bytes))).bind (fun r24=>(if r24.1=true then ((bX (aP5 K r24.2)).bind (fun r25=>(some (.inl (Sum.inr (r25.1,r25.2)))))) else ((bX (fV K r24.2 ([67,76,65,83,83]:Bytes))).bind (fun r26=>(if r26.1=true then ((bX (aQq K r26.2)).bind (fun r27=>(some (.inl (Sum.inr (r27.1,r27.2)))))) else ((bX (fV K r26.2 ([80,82,79,71,82,65,77]:Bytes))).bind (fun r28=>(if r28.1=true then ((bX (nL K r28.2)).bind (fun r29=>((bX (fR K r29.2 ([59]:Bytes))).bind (fun r30=>((bX (aJl K r30)).bind (fun w9=>((bX (y7 K w9.2 1 [])).bind (fun r32=>((bX (fR K r32.2 ([69,78,68,95,80,82,79,71,82,65,77]:Bytes))).bind (fun r33=>(some (.inl (Sum.inr ((⟨3,r29.1,([]:Bytes),[],false,false,w9.1,[],r32.1,0,0⟩:iR),r33)))))))))))))) else ((bX (fV K r28.2 ([84,65,83,75]:Bytes))).bind (fun r34=>(if r34.1=true then ((bX (nL K r34.2)).bind (fun r35=>((bX (fR K r35.2 ([40]:Bytes))).bind (fun r36=>((bX (fR K r36 ([73,78,84,69,82,86,65,76]:Bytes))).bind (fun r37=>((bX (aDc K r37)).bind (fun r38=>((bX (fR K r38.2 ([44]:Bytes))).bind (fun r39=>((bX (fR K r39 ([80,82,73,79,82,73,84,89]:Bytes))).bind (fun r40=>((bX (aDc K r40)).bind (fun r41=>((bX (fR K r41.2 ([41]:Bytes))).bind (fun r42=>((bX (fR K r42 ([58]:Bytes))).bind (fun oJ=>((bX (nL K oJ)).bind (fun r44=>((bX (fR K r44.2 ([59]:Bytes))).bind (fun r45=>(some (.inl (Sum.inr ((⟨4,r35.1,r44.1,[],false,false,[],[],[],r38.1,r41.1⟩:iR),r45)))))))))))))))))))))))))) else (some (.inr (r34.2)))))))))))))))) (fun (iX:cF)=>((bX (yV K iX 3)).bind (fun r46=>(some (.inl ((⟨0,([]:Bytes),([]:Bytes),[],false,false,[],[],[],0,0⟩:iR),r46)))))))
theorem aYy (K:Nat) (a0:cF):bV Tryz.prog 76 [.c (.ptr 0 0 0)] [cW.o a0] (bX (F76 K a0)) (fun r=>.agg (gW.cs r.1)) (fun r=>[cW.o r.2,gW.o r.1]):=by
 refine bV.it Tryz.f76 (fun r=>⟨[sP 2 1 0 0],[cW.o r.2,gW.o r.1],[],1⟩) ?_
 unfold F76
 exact Ref.pt (
  .bk 0 (fun iX=>⟨[sP 0 0 0 0,sP 2 1 0 0],[cW.o iX,oX2],[],1⟩) (
   .call [0] (dH _ _ _) fun r24 =>
   .ite _ (
    .call [0] (aTT _ _) fun r25 =>
    .ret [0,1] _) (
    .call [0] (dH _ _ _) fun r26 =>
    .ite _ (
     .call [0] (aT6 _ _) fun r27 =>
     .ret [0,1] _) (
     .call [0] (dH _ _ _) fun r28 =>
     .ite _ (
      .call [0] (gQ _ _) fun r29 =>
      .call [0] (dB _ _ _) fun r30 =>
      .call [0] (aF1 _ _) fun w9 =>
      .call [0] (bV.le (aKU _ _ _ _) (gD.cons (jS.refl _) (gD.cons (jS.refl _) (gD.cons (jS.c (El.cJ _)) gD.nil)))) fun r32 =>
      .call [0] (dB _ _ _) fun r33 =>
      .ok 11 0 1 3 (x:=.nil) (y:=E9.tree []) (El.cJ E9) <|
      .ok 11 0 1 7 (x:=.nil) (y:=jO.tree []) (El.cJ jO) <|
      .ret [0,1] _) (
      .call [0] (dH _ _ _) fun r34 =>
      .ite _ (
       .call [0] (gQ _ _) fun r35 =>
       .call [0] (dB _ _ _) fun r36 =>
       .call [0] (dB _ _ _) fun r37 =>
       .call [0] (rS _ _) fun r38 =>
       .call [0] (dB _ _ _) fun r39 =>
       .call [0] (dB _ _ _) fun r40 =>
       .call [0] (rS _ _) fun r41 =>
       .call [0] (dB _ _ _) fun r42 =>
       .call [0] (dB _ _ _) fun oJ =>
       .call [0] (gQ _ _) fun r44 =>
       .call [0] (dB _ _ _) fun r45 =>
       .ok 24 0 1 3 (x:=.nil) (y:=E9.tree []) (El.cJ E9) <|
       .ok 24 0 1 6 (x:=.nil) (y:=eX.tree []) (El.cJ eX) <|
       .ok 24 0 1 7 (x:=.nil) (y:=jO.tree []) (El.cJ jO) <|
       .ok 24 0 1 8 (x:=.nil) (y:=dV.tree []) (El.cJ dV) <|
       .ret [0,1] _) (
       .nil [0,1] _))))) fun iX =>
  .call [0] (mP _ _ _) fun r46 =>
  .ok 26 0 1 3 (x:=.nil) (y:=E9.tree []) (El.cJ E9) <|
  .ok 26 0 1 6 (x:=.nil) (y:=eX.tree []) (El.cJ eX) <|
  .ok 26 0 1 7 (x:=.nil) (y:=jO.tree []) (El.cJ jO) <|
  .ok 26 0 1 8 (x:=.nil) (y:=dV.tree []) (El.cJ dV) <|
  .ret [0,1] _)
end Go.Proofs.YtdbfbedholdjaaaGreat
