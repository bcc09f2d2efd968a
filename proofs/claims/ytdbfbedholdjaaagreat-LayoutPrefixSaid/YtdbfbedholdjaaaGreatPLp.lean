/- No conditions. -/
import Derived.Test.YtdbfbedholdjaaaGreatPLx
import Derived.Test.YtdbfbedholdjaaaGreatProg
set_option linter.unusedVariables false
set_option linter.unusedSimpArgs false
set_option linter.unusedSectionVars false
namespace Go.Proofs.YtdbfbedholdjaaaGreat
open Go Go.Proofs Go.Dl
variable [dW]
set_option maxRecDepth 100000
set_option maxHeartbeats 4000000
def F73 (K:Nat) (a0:cB) (a1:Bytes):Option ((Bool) ⊕ (Bool)) :=
 (bN (((a0.iL:Int) != 0) || (decide ((a0.qG:Int) ≥ (Int.ofNat a0.ft.length)))) (fun (x1:Bool)=>(if x1=true then (some (.inl (false))) else (bW [cS a0.qG a0.ft.length] (bN ((((a0.ft.getD (a0.qG:Int).toNat default).aBR) == a1) && (((((a0.ft.getD (a0.qG:Int).toNat default).bP):Int) == 2) || ((((a0.ft.getD (a0.qG:Int).toNat default).bP):Int) == 4))) (fun (x3:Bool)=>(some (.inl (x3)))))))))
theorem lF (K:Nat) (a0:cB) (a1:Bytes):bS Tryz.prog 73 [.c (cK.ep a0 0),.c (.str a1)] [] (bT (F73 K a0 a1)) (fun r=>.c (.val (.bool r))) (fun r=>[]):=by
 refine bS.it Tryz.f73 (fun r=>⟨[sB 4 r],[],[],0⟩) ?_
 unfold F73
 exact Ref.pt (
  .ex [0,1,2] <|
  .tx [] <|
  .ex [3,4,5,6,7,8,9,10,11,12,13,14,15,16] <|
  .lt _ fun x1 =>
  .ite _ (
   .ret [] _) (
   .esc [] [(cd (bd Tryz.f73) [1,1,0]),(cd (bd Tryz.f73) [1,1,1])] ⟨[(0,.c (cK.ep a0 0)),sS 1 a1,sB 22 x1],[],[],0⟩ (by
    refine Ref.eH 3 (by kernel_rfl) (by kernel_rfl) ?_
    refine dN.eW (cR:=⟨[sS 1 a1,(25,.c (cK.ep a0 0)),(29,.c (cK.ep a0 1))],[],[],0⟩) (fuel':=6) [0,1,2,4,5,6] [1,25,29] [] rfl (by kernel_rfl) (by kernel_rfl) ?_
    refine dN.qB [11] ?_
    refine bO.aBh (⟨[sS 1 a1,sP 5 0 0 0],[mD.o (a0.ft.getD (a0.qG:Int).toNat default)],[],0⟩) ((bN ((((a0.ft.getD (a0.qG:Int).toNat default).aBR) == a1) && (((((a0.ft.getD (a0.qG:Int).toNat default).bP):Int) == 2) || ((((a0.ft.getD (a0.qG:Int).toNat default).bP):Int) == 4))) (fun (x3:Bool)=>(some (.inl (x3)))))) ?_ (fun hk=>?_)
    ·
     exact Ref.pt (
      .lt _ fun x3 =>
      .ret [] _)
    ·
     refine bO.v1 (fuel':=2) [cS a0.qG a0.ft.length] [3,7,8,9] [1,32] [] ?_
     refine bO.cM (fuel':=1) 10 (by kernel_rfl) ?_
     refine cF.iY (cR:=⟨[sS 1 a1,sP 5 0 0 0,(32,.agg (mD.cs (a0.ft.getD (a0.qG:Int).toNat default)))],[oX7],[],0⟩) 10 [1,5,32] [0] (by kernel_rfl) (by kernel_rfl) ?_
     refine bO.qP [11] rfl (by kernel_rfl) ?_
     refine c6.e0 (cR:=⟨[sS 1 a1,sP 5 0 0 0],[mD.o (a0.ft.getD (a0.qG:Int).toNat default)],[],0⟩) 0 1 1 [1,5] [0] ?_
     refine c6.nl 1 ?_
     refine Ref.ck ⟨[sS 1 a1,sP 5 0 0 0],[mD.o (a0.ft.getD (a0.qG:Int).toNat default)],[],0⟩ [1,5] [0] ?_
     exact hk)))
def F75 (K:Nat) (a0:cB):Option ((Int × cB) ⊕ (Int × cB)) :=
 (bN (decide ((a0.qG:Int)<(Int.ofNat a0.ft.length))) (fun (x1:Bool)=>(if x1=true then (bW [cS a0.qG a0.ft.length] (bN ((a0.ft.getD (a0.qG:Int).toNat default).zK) (fun (x2:Int)=>(some (.inl (x2,a0)))))) else (some (.inl (a0.aHh,a0))))))
theorem aO4 (K:Nat) (a0:cB):bS Tryz.prog 75 [.c (.ptr 0 0 0)] [cK.o a0] (bT (F75 K a0)) (fun r=>.c (.val (.int .i64 r.1))) (fun r=>[cK.o r.2]):=by
 refine bS.it Tryz.f75 (fun r=>⟨[sI 2 r.1],[cK.o r.2],[],1⟩) ?_
 unfold F75
 exact Ref.pt (
  .ex [0,1,2,4,5,6] <|
  .tx [] <|
  .ex [3,7,8,9] <|
  .lt _ fun x1 =>
  .ite _ (
   .ex [0,1,2,4,5,6] <|
   .tx [] <|
   .lT [3,7,8,9,10,11] _ <|
   .lt _ fun x2 =>
   .ret [0] _) (
   .ret [0] _))
def aAy (K:Nat) (a0:cB) (a1:Int):Option ((cB) ⊕ (cB)) :=
 (if ((a0.iL:Int) == 0)=true then ((bT (F75 K a0)).bind (fun r1=>(some (.inr ((⟨r1.2.ft,(Int.ofNat r1.2.ft.length),r1.2.aHh,a1,r1.1⟩:cB)))))) else (some (.inr (a0))))
theorem oB (K:Nat) (a0:cB) (a1:Int):bS Tryz.prog 107 [.c (.ptr 0 0 0),.c (.val (.int .i64 a1))] [cK.o a0] (bT (aAy K a0 a1)) (fun r=>.iT []) (fun r=>[cK.o r]):=by
 refine bS.it Tryz.f107 (fun r=>⟨[],[cK.o r],[],1⟩) ?_
 unfold aAy
 exact Ref.pt (
  .ite _ (
   .call [0] (aO4 _ _) fun r1 =>
   .nil [0] _) (
   .nil [0] _))
def F74 (K:Nat) (a0:cB) (a1:Int) (a2:Int):Option ((cB) ⊕ (cB)) :=
 (if (decide ((a1:Int) ≥ a2))=true then ((bT (aAy K a0 5)).bind (fun r1=>(some (.inr (r1))))) else (some (.inr (a0))))
theorem qV (K:Nat) (a0:cB) (a1:Int) (a2:Int):bS Tryz.prog 74 [.c (.ptr 0 0 0),.c (.val (.int .i64 a1)),.c (.val (.int .i64 a2))] [cK.o a0] (bT (F74 K a0 a1 a2)) (fun r=>.iT []) (fun r=>[cK.o r]):=by
 refine bS.it Tryz.f74 (fun r=>⟨[],[cK.o r],[],1⟩) ?_
 unfold F74
 exact Ref.pt (
  .ite _ (
   .call [0] (oB _ _ _) fun r1 =>
   .nil [0] _) (
   .nil [0] _))
def fZ (K:Nat) (a0:cB) (a1:Bytes):Option ((Bool × cB) ⊕ (Bool × cB)) :=
 ((cH true (bT (F73 K a0 a1)) default).bind (fun r1=>(if r1=true then (some (.inl (true,(⟨a0.ft,(IntKind.i64.wrap (a0.qG+1)),a0.aHh,a0.iL,a0.aCk⟩:cB)))) else (some (.inl (false,a0))))))
theorem dL (K:Nat) (a0:cB) (a1:Bytes):bS Tryz.prog 108 [.c (.ptr 0 0 0),.c (.str a1)] [cK.o a0] (bT (fZ K a0 a1)) (fun r=>.c (.val (.bool r.1))) (fun r=>[cK.o r.2]):=by
 refine bS.it Tryz.f108 (fun r=>⟨[sB 4 r.1],[cK.o r.2],[],1⟩) ?_
 unfold fZ
 exact Ref.pt (
  .look (default:Bool) _ [0] (lF K a0 a1) (fun _=>rfl) fun r1 =>
  .ite _ (
   .ret [0] _) (
   .ret [0] _))
def vE (K:Nat) (a0:cB) (a1:Int):Option ((Bool) ⊕ (Bool)) :=
 (bW [!(((a0.iL:Int) == 0) && (decide ((a0.qG:Int)<(Int.ofNat a0.ft.length)))) || cS a0.qG a0.ft.length] (bN ((((a0.iL:Int) == 0) && (decide ((a0.qG:Int)<(Int.ofNat a0.ft.length)))) && ((((a0.ft.getD (a0.qG:Int).toNat default).bP):Int) == a1)) (fun (x1:Bool)=>(some (.inl (x1))))))
theorem lN (K:Nat) (a0:cB) (a1:Int):bS Tryz.prog 139 [.c (cK.ep a0 0),.c (.val (.int .i64 a1))] [] (bT (vE K a0 a1)) (fun r=>.c (.val (.bool r))) (fun r=>[]):=by
 refine bS.it Tryz.f139 (fun r=>⟨[sB 4 r],[],[],0⟩) ?_
 unfold vE
 exact Ref.pt (
  .ex [0,1,2] <|
  .tx [] <|
  .lT [3,4,5,6,7,8,9,10,11,12,13,14,15,16,17,18,19,20,21,22,23,24,25,26,27,28,29,30,31,32] _ <|
  .lt _ fun x1 =>
  .ret [] _)
def pJ (K:Nat) (a0:cB):Option ((Bytes × cB) ⊕ (Bytes × cB)) :=
 ((cH true (bT (vE K a0 1)) default).bind (fun r1=>(if (!r1)=true then ((bT (aAy K a0 3)).bind (fun r2=>(some (.inl (([]:Bytes),r2))))) else (bW [cS (IntKind.i64.wrap ((IntKind.i64.wrap (a0.qG+1)) - 1)) a0.ft.length] (bN ((a0.ft.getD ((IntKind.i64.wrap ((IntKind.i64.wrap (a0.qG+1)) - 1)):Int).toNat default).aBR) (fun (x3:Bytes)=>(some (.inl (x3,(⟨a0.ft,(IntKind.i64.wrap (a0.qG+1)),a0.aHh,a0.iL,a0.aCk⟩:cB))))))))))
theorem iM (K:Nat) (a0:cB):bS Tryz.prog 111 [.c (.ptr 0 0 0)] [cK.o a0] (bT (pJ K a0)) (fun r=>.c (.str r.1)) (fun r=>[cK.o r.2]):=by
 refine bS.it Tryz.f111 (fun r=>⟨[sS 2 r.1],[cK.o r.2],[],1⟩) ?_
 unfold pJ
 exact Ref.pt (
  .look (default:Bool) _ [0] (lN K a0 1) (fun _=>rfl) fun r1 =>
  .ite _ (
   .call [0] (oB _ _ _) fun r2 =>
   .ret [0] _) (
   .ex [0,1,2,4,5,6] <|
   .tx [] <|
   .lT [3,7,8,9,10,11,12] _ <|
   .lt _ fun x3 =>
   .ret [0] _))
def fI (K:Nat) (a0:cB) (a1:Bytes):Option ((cB) ⊕ (cB)) :=
 ((bT (fZ K a0 a1)).bind (fun r1=>(if (!r1.1)=true then ((bT (aAy K r1.2 3)).bind (fun r2=>(some (.inr (r2))))) else (some (.inr (r1.2))))))
theorem dG (K:Nat) (a0:cB) (a1:Bytes):bS Tryz.prog 112 [.c (.ptr 0 0 0),.c (.str a1)] [cK.o a0] (bT (fI K a0 a1)) (fun r=>.iT []) (fun r=>[cK.o r]):=by
 refine bS.it Tryz.f112 (fun r=>⟨[],[cK.o r],[],1⟩) ?_
 unfold fI
 exact Ref.pt (
  .call [0] (dL _ _ _) fun r1 =>
  .ite _ (
   .call [0] (oB _ _ _) fun r2 =>
   .nil [0] _) (
   .nil [0] _))
def aD6 (K:Nat) (a0:cB):Option ((Int × cB) ⊕ (Int × cB)) :=
 ((cH true (bT (vE K a0 3)) default).bind (fun r1=>(if (!r1)=true then ((bT (aAy K a0 3)).bind (fun r2=>(some (.inl (0,r2))))) else (bW [cS (IntKind.i64.wrap ((IntKind.i64.wrap (a0.qG+1)) - 1)) a0.ft.length] (bN ((a0.ft.getD ((IntKind.i64.wrap ((IntKind.i64.wrap (a0.qG+1)) - 1)):Int).toNat default).fN) (fun (x3:Int)=>(some (.inl (x3,(⟨a0.ft,(IntKind.i64.wrap (a0.qG+1)),a0.aHh,a0.iL,a0.aCk⟩:cB))))))))))
theorem uL (K:Nat) (a0:cB):bS Tryz.prog 115 [.c (.ptr 0 0 0)] [cK.o a0] (bT (aD6 K a0)) (fun r=>.c (.val (.int .i64 r.1))) (fun r=>[cK.o r.2]):=by
 refine bS.it Tryz.f115 (fun r=>⟨[sI 2 r.1],[cK.o r.2],[],1⟩) ?_
 unfold aD6
 exact Ref.pt (
  .look (default:Bool) _ [0] (lN K a0 3) (fun _=>rfl) fun r1 =>
  .ite _ (
   .call [0] (oB _ _ _) fun r2 =>
   .ret [0] _) (
   .ex [0,1,2,4,5,6] <|
   .tx [] <|
   .lT [3,7,8,9,10,11,12] _ <|
   .lt _ fun x3 =>
   .ret [0] _))
def aEQ (K:Nat) (a0:cB):Option ((Int × cB) ⊕ (Int × cB)) :=
 ((bT (fZ K a0 ([45]:Bytes))).bind (fun r1=>(if r1.1=true then ((bT (aD6 K r1.2)).bind (fun r2=>(some (.inl ((IntKind.i64.wrap (0 - r2.1)),r2.2))))) else ((bT (aD6 K r1.2)).bind (fun r3=>(some (.inl (r3.1,r3.2))))))))
theorem aAz (K:Nat) (a0:cB):bS Tryz.prog 141 [.c (.ptr 0 0 0)] [cK.o a0] (bT (aEQ K a0)) (fun r=>.c (.val (.int .i64 r.1))) (fun r=>[cK.o r.2]):=by
 refine bS.it Tryz.f141 (fun r=>⟨[sI 2 r.1],[cK.o r.2],[],1⟩) ?_
 unfold aEQ
 exact Ref.pt (
  .call [0] (dL _ _ _) fun r1 =>
  .ite _ (
   .call [0] (uL _ _) fun r2 =>
   .ret [0] _) (
   .call [0] (uL _ _) fun r3 =>
   .ret [0] _))
def aO5 (K:Nat) (a0:cB):Option ((Int × cB) ⊕ (Int × cB)) :=
 (bL (bJ ((iter K (fun (eY:cB × Int)=>(bN (decide ((eY.2:Int)<(Int.ofNat ([([]:Bytes),([84,79,78]:Bytes),([84,79,70]:Bytes),([84,80]:Bytes),([67,84,85]:Bytes),([67,84,68]:Bytes),([82,95,84,82,73,71]:Bytes),([70,95,84,82,73,71]:Bytes)].length)))) (fun (x38:Bool)=>(if x38=true then (bL (bJ (bW [cS eY.2 ([([]:Bytes),([84,79,78]:Bytes),([84,79,70]:Bytes),([84,80]:Bytes),([67,84,85]:Bytes),([67,84,68]:Bytes),([82,95,84,82,73,71]:Bytes),([70,95,84,82,73,71]:Bytes)].length)] (bN ([([]:Bytes),([84,79,78]:Bytes),([84,79,70]:Bytes),([84,80]:Bytes),([67,84,85]:Bytes),([67,84,68]:Bytes),([82,95,84,82,73,71]:Bytes),([70,95,84,82,73,71]:Bytes)].getD ((eY.2:Int).toNat) default) (fun (x42:Bytes)=>((bT (fZ K eY.1 x42)).bind (fun qR=>(if qR.1=true then (some (.inl (Sum.inr (Sum.inr (eY.2,qR.2))))) else (some (.inr (qR.2)))))))))) (fun (u41:cB)=>(some (.inr (u41,(IntKind.i64.wrap (eY.2+1))))))) else (some (.inl (Sum.inl (eY.1)))))))) (a0,1)).map .inl)) (fun (dU:cB)=>(some (.inl (0,dU)))))
theorem aRS (K:Nat) (a0:cB):bS Tryz.prog 184 [.c (.ptr 0 0 0)] [cK.o a0] (bT (aO5 K a0)) (fun r=>.c (.val (.int .i64 r.1))) (fun r=>[cK.o r.2]):=by
 refine bS.it Tryz.f184 (fun r=>⟨[sI 2 r.1],[cK.o r.2],[],1⟩) ?_
 unfold aO5
 exact Ref.pt (
  .ob 1 1 1 (x:=.row 9 1 8 (gY [[.str []],[.str aHj],[.str aHk],[.str wTP],[.str aHl],[.str aHm],[.str sA],[.str sC]])) (y:=(E9.row [([]:Bytes),aHj,aHk,wTP,aHl,aHm,sA,sC])) (El.bZ E9 [([]:Bytes),aHj,aHk,wTP,aHl,aHm,sA,sC] rfl (by kernel_rfl)) <|
  .sl 1 1 5 (x:=.c (.own 1 8)) (y:=(.c (.own 1 ([([]:Bytes),aHj,aHk,wTP,aHl,aHm,sA,sC].length)))) (eA.c (dY.own (by first | (simp;done) | (simp;omega) | omega))) <|
  .bk 0 (fun dU=>⟨[],[cK.o dU],[],1⟩) (
   .lp [0,1] (fun eY=>⟨[sP 0 0 0 0,(3,.c (.own 1 ([([]:Bytes),aHj,aHk,wTP,aHl,aHm,sA,sC].length))),sI 4 eY.2],[cK.o eY.1,E9.row [([]:Bytes),aHj,aHk,wTP,aHl,aHm,sA,sC]],[],1⟩) fun eY =>
   .lt _ fun x38 =>
   .ite _ (
    .bk 1 (fun u41=>⟨[sP 0 0 0 0,(3,.c (.own 1 ([([]:Bytes),aHj,aHk,wTP,aHl,aHm,sA,sC].length))),sI 4 eY.2],[cK.o u41,E9.row [([]:Bytes),aHj,aHk,wTP,aHl,aHm,sA,sC]],[],1⟩) (
     .ck _ <|
     .lt _ fun x42 =>
     .call [0] (dL _ _ _) fun qR =>
     .ite _ (
      .ret [0] _) (
      .nil [0,1] _)) fun u41 =>
    .nil [0,1] _) (
    .ret [0] _)) fun dU =>
  .ret [0] _)
def aJc (K:Nat) (a0:cB):Option ((fL × cB) ⊕ (fL × cB)) :=
 (bL (bJ ((bT (fZ K a0 ([73,78,84]:Bytes))).bind (fun r21=>(if r21.1=true then ((bT (fZ K r21.2 ([40]:Bytes))).bind (fun r22=>(if r22.1=true then ((bT (aEQ K r22.2)).bind (fun r23=>((bT (fI K r23.2 ([46,46]:Bytes))).bind (fun qF=>((bT (aEQ K qF)).bind (fun r25=>((bT (fI K r25.2 ([41]:Bytes))).bind (fun r26=>(some (.inr (r26,3,r23.1,r25.1,([]:Bytes)))))))))))) else (some (.inr (r22.2,1,0,0,([]:Bytes))))))) else ((bT (fZ K r21.2 ([66,79,79,76]:Bytes))).bind (fun r27=>(if r27.1=true then (some (.inr (r27.2,2,0,0,([]:Bytes)))) else ((bT (fZ K r27.2 ([65,82,82,65,89]:Bytes))).bind (fun r28=>(if r28.1=true then ((bT (fI K r28.2 ([91]:Bytes))).bind (fun r29=>((bT (aD6 K r29)).bind (fun r30=>((bT (fI K r30.2 ([93]:Bytes))).bind (fun xF=>((bT (fI K xF ([79,70]:Bytes))).bind (fun r32=>((bT (fI K r32 ([73,78,84]:Bytes))).bind (fun xG=>(some (.inr (xG,4,0,r30.1,([]:Bytes)))))))))))))) else ((bT (fZ K r28.2 ([82,69,70,95,84,79]:Bytes))).bind (fun r34=>(if r34.1=true then ((bT (pJ K r34.2)).bind (fun r35=>(some (.inr (r35.2,5,0,0,r35.1))))) else ((cH true (bT (vE K r34.2 1)) default).bind (fun r36=>(if r36=true then ((bT (pJ K r34.2)).bind (fun r37=>(some (.inr (r37.2,6,0,0,r37.1))))) else ((bT (aO5 K r34.2)).bind (fun r38=>(if ((r38.1:Int) == 0)=true then ((bT (aAy K r38.2 3)).bind (fun r39=>(some (.inr (r39,7,r38.1,0,([]:Bytes)))))) else (some (.inr (r38.2,7,r38.1,0,([]:Bytes))))))))))))))))))))))) (fun (jF:cB × Int × Int × Int × Bytes)=>(some (.inl ((⟨jF.2.1,jF.2.2.1,jF.2.2.2.1,jF.2.2.2.2⟩:fL),jF.1)))))
theorem aGa (K:Nat) (a0:cB):bS Tryz.prog 140 [.c (.ptr 0 0 0)] [cK.o a0] (bT (aJc K a0)) (fun r=>.agg (fX.cs r.1)) (fun r=>[cK.o r.2,.cells (fX.cs r.1)]):=by
 refine bS.it Tryz.f140 (fun r=>⟨[sP 2 1 0 0],[cK.o r.2,.cells (fX.cs r.1)],[],1⟩) ?_
 unfold aJc
 exact Ref.pt (
  .bk 0 (fun jF=>⟨[sP 2 1 0 0,sP 3 2 0 0],[cK.o jF.1,qE,.cells [iC jF.2.1,iC jF.2.2.1,iC jF.2.2.2.1,.str jF.2.2.2.2]],[],1⟩) (
   .call [0] (dL _ _ _) fun r21 =>
   .ite _ (
    .call [0] (dL _ _ _) fun r22 =>
    .ite _ (
     .call [0] (aAz _ _) fun r23 =>
     .call [0] (dG _ _ _) fun qF =>
     .call [0] (aAz _ _) fun r25 =>
     .call [0] (dG _ _ _) fun r26 =>
     .nil [0,1,2] _) (
     .nil [0,1,2] _)) (
    .call [0] (dL _ _ _) fun r27 =>
    .ite _ (
     .nil [0,1,2] _) (
     .call [0] (dL _ _ _) fun r28 =>
     .ite _ (
      .call [0] (dG _ _ _) fun r29 =>
      .call [0] (uL _ _) fun r30 =>
      .call [0] (dG _ _ _) fun xF =>
      .call [0] (dG _ _ _) fun r32 =>
      .call [0] (dG _ _ _) fun xG =>
      .nil [0,1,2] _) (
      .call [0] (dL _ _ _) fun r34 =>
      .ite _ (
       .call [0] (iM _ _) fun r35 =>
       .nil [0,1,2] _) (
       .look (default:Bool) _ [0] (lN K r34.2 1) (fun _=>rfl) fun r36 =>
       .ite _ (
        .call [0] (iM _ _) fun r37 =>
        .nil [0,1,2] _) (
        .call [0] (aRS _ _) fun r38 =>
        .ite _ (
         .call [0] (oB _ _ _) fun r39 =>
         .nil [0,1,2] _) (
         .nil [0,1,2] _))))))) fun jF =>
  .ret [0,1] _)
def aMu (K:Nat) (a0:cB):Option (((List fE) × cB) ⊕ ((List fE) × cB)) :=
 ((bT (fI K a0 ([40]:Bytes))).bind (fun r1=>((bT (fZ K r1 ([41]:Bytes))).bind (fun r2=>(if r2.1=true then (some (.inl ([],r2.2))) else (bL (bJ ((iter K (fun (u84:cB × (List fE))=>(if ((u84.1.iL:Int) == 0)=true then (bL (bJ ((cH true (bT (vE K u84.1 1)) default).bind (fun aXU=>(bL (if aXU=true then ((bT (F74 K u84.1 (Int.ofNat u84.2.length) 3)).bind (fun aXV=>(some (.inr (aXV))))) else (some (.inr (u84.1)))) (fun (aRU:cB)=>((bT (pJ K aRU)).bind (fun zC=>((bT (fI K zC.2 ([58]:Bytes))).bind (fun aHn=>((bT (aJc K aHn)).bind (fun qW=>(bW [room ((u84.2.length+([(⟨zC.1,qW.1,0,0,0⟩:fE)].length)) * 80)] ((bT (fZ K qW.2 ([44]:Bytes))).bind (fun aHo=>(if (!aHo.1)=true then ((bT (fI K aHo.2 ([41]:Bytes))).bind (fun aO7=>(some (.inl (Sum.inr (Sum.inl (aO7,(u84.2++[(⟨zC.1,qW.1,0,0,0⟩:fE)])))))))) else (some (.inr (aHo.2,(u84.2++[(⟨zC.1,qW.1,0,0,0⟩:fE)]))))))))))))))))))) (fun (aJe:cB × (List fE))=>(some (.inr (aJe.1,aJe.2))))) else (some (.inl (Sum.inl (u84.1,u84.2)))))) (r2.2,[])).map .inl)) (fun (u63:cB × (List fE))=>(some (.inl (u63.2,u63.1))))))))))
theorem aKN (K:Nat) (a0:cB):bS Tryz.prog 137 [.c (.ptr 0 0 0)] [cK.o a0] (bT (aMu K a0)) (fun r=>.c (eN.tree r.1)) (fun r=>[cK.o r.2]):=by
 refine bS.it Tryz.f137 (fun r=>⟨[(2,.c (eN.tree r.1))],[cK.o r.2],[],1⟩) ?_
 unfold aMu
 exact Ref.pt (
  .call [0] (dG _ _ _) fun r1 =>
  .call [0] (dL _ _ _) fun r2 =>
  .ite _ (
   .sl 4 0 2 (x:=.c (.nil)) (y:=(.c (eN.tree []))) (eA.c (El.cN eN)) <|
   .ret [0] _) (
   .bk 0 (fun u63=>⟨[(3,.c (.own 1 u63.2.length))],[cK.o u63.1,eN.row u63.2],[],1⟩) (
    .ad 3 0 3 eN.ty eN.w (eN.at []) <|
    .lp [0,1] (fun u84=>⟨[sP 0 0 0 0,(3,.c (.own 1 u84.2.length))],[cK.o u84.1,eN.row u84.2],[],1⟩) fun u84 =>
    .ite _ (
     .bk 1 (fun aJe=>⟨[sP 0 0 0 0,(3,.c (.own 1 aJe.2.length))],[cK.o aJe.1,eN.row aJe.2],[],1⟩) (
      .look (default:Bool) _ [0] (lN K u84.1 1) (fun _=>rfl) fun aXU =>
      .jn (fun aRU=>⟨[sP 0 0 0 0,(3,.c (.own 1 u84.2.length))],[cK.o aRU,eN.row u84.2],[],1⟩) (
       .ite _ (
        .call [0] (qV _ _ _ _) fun aXV =>
        .nil [0,1] _) (
        .nil [0,1] _)) fun aRU =>
      .call [0] (iM _ _) fun zC =>
      .call [0] (dG _ _ _) fun aHn =>
      .call [0] (aGa _ _) fun qW =>
      .ob 11 2 4 (x:=.row 41 8 1 (gY [[.str zC.1,iC qW.1.bP,iC qW.1.fLo,iC qW.1.fHi,.str qW.1.cC,iC 0,iC 0,iC 0]])) (y:=(eN.row [(⟨zC.1,qW.1,0,0,0⟩:fE)])) (El.bZ eN [(⟨zC.1,qW.1,0,0,0⟩:fE)] rfl (by kernel_rfl)) <|
      .sl 11 2 30 (x:=.c (.own 4 1)) (y:=(.c (.own 4 ([(⟨zC.1,qW.1,0,0,0⟩:fE)].length)))) (eA.c (dY.own (by first | (simp;done) | (simp;omega) | omega))) <|
      .ck _ <|
      .ob 11 1 5 (x:=.row 41 8 (u84.2.length+([(⟨zC.1,qW.1,0,0,0⟩:fE)].length)) fun i j=>bif Nat.blt i u84.2.length then eN.at u84.2 i j else (eN.at [(⟨zC.1,qW.1,0,0,0⟩:fE)]) (i - u84.2.length) j) (y:=(eN.row (u84.2++[(⟨zC.1,qW.1,0,0,0⟩:fE)]))) (El.cI eN u84.2 [(⟨zC.1,qW.1,0,0,0⟩:fE)] rfl rfl) <|
      .sl 11 1 31 (x:=.c (.own 5 (u84.2.length+([(⟨zC.1,qW.1,0,0,0⟩:fE)].length)))) (y:=(.c (.own 5 ((u84.2++[(⟨zC.1,qW.1,0,0,0⟩:fE)]).length)))) (eA.c (dY.own (by first | (simp;done) | (simp;omega) | omega))) <|
      .call [0] (dL _ _ _) fun aHo =>
      .ite _ (
       .call [0] (dG _ _ _) fun aO7 =>
       .ret [0,5] _) (
       .nil [0,5] _)) fun aJe =>
     .nil [0,1] _) (
     .ret [0,1] _)) fun u63 =>
   .fz 14 0 1 <|
   .ret [0] _))
def aMv (K:Nat) (a0:cB):Option ((fL × cB) ⊕ (fL × cB)) :=
 ((bT (fZ K a0 ([58]:Bytes))).bind (fun r1=>(if r1.1=true then ((bT (aJc K r1.2)).bind (fun r2=>(some (.inl (r2.1,r2.2))))) else (some (.inl ((⟨0,0,0,([]:Bytes)⟩:fL),r1.2))))))
theorem aKO (K:Nat) (a0:cB):bS Tryz.prog 138 [.c (.ptr 0 0 0)] [cK.o a0] (bT (aMv K a0)) (fun r=>.agg (fX.cs r.1)) (fun r=>[cK.o r.2,.cells (fX.cs r.1)]):=by
 refine bS.it Tryz.f138 (fun r=>⟨[sP 2 1 0 0],[cK.o r.2,.cells (fX.cs r.1)],[],1⟩) ?_
 unfold aMv
 exact Ref.pt (
  .call [0] (dL _ _ _) fun r1 =>
  .ite _ (
   .call [0] (aGa _ _) fun r2 =>
   .ret [0,1] _) (
   .ret [0,1] _))
def aO8 (K:Nat) (a0:cB):Option ((jG × cB) ⊕ (jG × cB)) :=
 ((bT (pJ K a0)).bind (fun r1=>((bT (fI K r1.2 ([59]:Bytes))).bind (fun r2=>(bL (bJ ((iter K (fun (u64:cB × (List hU))=>((cH true (bT (F73 K u64.1 ([77,69,84,72,79,68]:Bytes))) default).bind (fun r80=>(if r80=true then (bL (bJ ((bT (F74 K u64.1 (Int.ofNat u64.2.length) 6)).bind (fun r88=>((bT (fI K r88 ([77,69,84,72,79,68]:Bytes))).bind (fun r89=>((bT (pJ K r89)).bind (fun r90=>((bT (aMu K r90.2)).bind (fun r91=>((bT (aMv K r91.2)).bind (fun r92=>((bT (fI K r92.2 ([59]:Bytes))).bind (fun r93=>(bW [room ((u64.2.length+([(⟨r90.1,false,false,false,r91.1,r92.1,[],[]⟩:hU)].length)) * 136)] (some (.inr (r93,(u64.2++[(⟨r90.1,false,false,false,r91.1,r92.1,[],[]⟩:hU)])))))))))))))))))) (fun (jI:cB × (List hU))=>(some (.inr (jI.1,jI.2))))) else (some (.inl (Sum.inl (u64.1,u64.2)))))))) (r2,[])).map .inl)) (fun (gX:cB × (List hU))=>((bT (fI K gX.1 ([69,78,68,95,73,78,84,69,82,70,65,67,69]:Bytes))).bind (fun r94=>(some (.inl ((⟨1,r1.1,([]:Bytes),[],false,false,[],gX.2,[],0,0⟩:jG),r94)))))))))))
abbrev aJf (v0:cB × (List hU)) (v1:Bytes × cB):List Go.Dl.Obj:=[cK.o v0.1,oX3,.cells [iC 1,.str v1.1,.str [],.nil,bC false,bC false,.nil,.own 3 v0.2.length,.nil,iC 0,iC 0],kJ.row v0.2]
theorem aRV (K:Nat) (a0:cB):bS Tryz.prog 109 [.c (.ptr 0 0 0)] [cK.o a0] (bT (aO8 K a0)) (fun r=>.agg (jR.cs r.1)) (fun r=>[cK.o r.2,jR.o r.1]):=by
 refine bS.it Tryz.f109 (fun r=>⟨[sP 2 1 0 0],[cK.o r.2,jR.o r.1],[],1⟩) ?_
 unfold aO8
 exact Ref.pt (
  .call [0] (iM _ _) fun r1 =>
  .call [0] (dG _ _ _) fun r2 =>
  .bk 0 (fun gX=>⟨[sP 0 0 0 0,sP 2 1 0 0,sP 3 2 0 0],aJf gX r1,[],1⟩) (
   .adc 2 0 2 7 kJ.ty kJ.w (kJ.at []) <|
   .lp [0,1,2,3] (fun u64=>⟨[sP 0 0 0 0,sP 2 1 0 0,sP 3 2 0 0],aJf u64 r1,[],1⟩) fun u64 =>
   .look (default:Bool) _ [0] (lF K u64.1 ([77,69,84,72,79,68]:Bytes)) (fun _=>rfl) fun r80 =>
   .ite _ (
    .bk 1 (fun jI=>⟨[sP 0 0 0 0,sP 2 1 0 0,sP 3 2 0 0],aJf jI r1,[],1⟩) (
     .call [0] (qV _ _ _ _) fun r88 =>
     .call [0] (dG _ _ _) fun r89 =>
     .call [0] (iM _ _) fun r90 =>
     .call [0] (aKN _ _) fun r91 =>
     .call [0] (aKO _ _) fun r92 =>
     .call [0] (dG _ _ _) fun r93 =>
     .sk 10 4 32 9 (x:=.nil) (y:=eN.tree []) (El.cN eN) <|
     .sk 10 4 32 10 (x:=.nil) (y:=dJ.tree []) (El.cN dJ) <|
     .ob 10 3 6 (x:=.row 39 11 1 (gY [[.str r90.1,bC false,bC false,bC false,eN.tree r91.1,iC r92.1.bP,iC r92.1.fLo,iC r92.1.fHi,.str r92.1.cC,eN.tree [],dJ.tree []]])) (y:=(kJ.row [(⟨r90.1,false,false,false,r91.1,r92.1,[],[]⟩:hU)])) (El.bZ kJ [(⟨r90.1,false,false,false,r91.1,r92.1,[],[]⟩:hU)] rfl (by kernel_rfl)) <|
     .sl 10 3 33 (x:=.c (.own 6 1)) (y:=(.c (.own 6 ([(⟨r90.1,false,false,false,r91.1,r92.1,[],[]⟩:hU)].length)))) (eA.c (dY.own (by first | (simp;done) | (simp;omega) | omega))) <|
     .ck _ <|
     .ob 10 2 7 (x:=.row 39 11 (u64.2.length+([(⟨r90.1,false,false,false,r91.1,r92.1,[],[]⟩:hU)].length)) fun i j=>bif Nat.blt i u64.2.length then kJ.at u64.2 i j else (kJ.at [(⟨r90.1,false,false,false,r91.1,r92.1,[],[]⟩:hU)]) (i - u64.2.length) j) (y:=(kJ.row (u64.2++[(⟨r90.1,false,false,false,r91.1,r92.1,[],[]⟩:hU)]))) (El.cI kJ u64.2 [(⟨r90.1,false,false,false,r91.1,r92.1,[],[]⟩:hU)] rfl rfl) <|
     .sl 10 2 34 (x:=.c (.own 7 (u64.2.length+([(⟨r90.1,false,false,false,r91.1,r92.1,[],[]⟩:hU)].length)))) (y:=(.c (.own 7 ((u64.2++[(⟨r90.1,false,false,false,r91.1,r92.1,[],[]⟩:hU)]).length)))) (eA.c (dY.own (by first | (simp;done) | (simp;omega) | omega))) <|
     .nil [0,1,2,7] _) fun jI =>
    .nil [0,1,2,3] _) (
    .ret [0,1,2,3] _)) fun gX =>
  .call [0] (dG _ _ _) fun r94 =>
  .ok 12 0 1 3 (x:=.nil) (y:=E9.tree []) (El.cN E9) <|
  .ok 12 0 1 6 (x:=.nil) (y:=eN.tree []) (El.cN eN) <|
  .fz 12 0 3 <|
  .ok 12 0 1 8 (x:=.nil) (y:=dJ.tree []) (El.cN dJ) <|
  .ret [0,1] _)
def aJg (K:Nat) (a0:cB):Option (((List fE) × cB) ⊕ ((List fE) × cB)) :=
 (bL (bJ ((iter K (fun (nW:cB × (List fE))=>((cH true (bT (F73 K nW.1 ([86,65,82]:Bytes))) default).bind (fun aHf=>(if aHf=true then (bL (bJ ((bT (F74 K nW.1 (Int.ofNat nW.2.length) 8)).bind (fun aXW=>((bT (fI K aXW ([86,65,82]:Bytes))).bind (fun aXX=>((bT (pJ K aXX)).bind (fun wN=>((bT (fI K wN.2 ([58]:Bytes))).bind (fun aXY=>((bT (aJc K aXY)).bind (fun nB=>((bT (fZ K nB.2 ([58,61]:Bytes))).bind (fun aRW=>(bL (if aRW.1=true then ((bT (aEQ K aRW.2)).bind (fun aU6=>(some (.inr (aU6.2,aU6.1))))) else (some (.inr (aRW.2,0)))) (fun (uM:cB × Int)=>((bT (fZ K uM.1 ([65,84]:Bytes))).bind (fun aRX=>(bL (if aRX.1=true then ((bT (fZ K aRX.2 ([73,78]:Bytes))).bind (fun aRY=>(bL (if (!aRY.1)=true then ((bT (fI K aRY.2 ([79,85,84]:Bytes))).bind (fun aXZ=>(some (.inr (aXZ,2))))) else (some (.inr (aRY.2,1)))) (fun (aMw:cB × Int)=>((bT (aD6 K aMw.1)).bind (fun aU7=>(some (.inr (aU7.2,aMw.2,aU7.1))))))))) else (some (.inr (aRX.2,0,0)))) (fun (mM:cB × Int × Int)=>((bT (fI K mM.1 ([59]:Bytes))).bind (fun aX0=>(bW [room ((nW.2.length+([(⟨wN.1,nB.1,uM.2,mM.2.1,mM.2.2⟩:fE)].length)) * 80)] (some (.inr (aX0,(nW.2++[(⟨wN.1,nB.1,uM.2,mM.2.1,mM.2.2⟩:fE)])))))))))))))))))))))))))) (fun (aJh:cB × (List fE))=>(some (.inr (aJh.1,aJh.2))))) else (some (.inl (Sum.inl (nW.1,nW.2)))))))) (a0,[])).map .inl)) (fun (aJi:cB × (List fE))=>(some (.inl (aJi.2,aJi.1)))))
theorem aGb (K:Nat) (a0:cB):bS Tryz.prog 113 [.c (.ptr 0 0 0)] [cK.o a0] (bT (aJg K a0)) (fun r=>.c (eN.tree r.1)) (fun r=>[cK.o r.2]):=by
 refine bS.it Tryz.f113 (fun r=>⟨[(2,.c (eN.tree r.1))],[cK.o r.2],[],1⟩) ?_
 unfold aJg
 exact Ref.pt (
  .bk 0 (fun aJi=>⟨[(3,.c (.own 1 aJi.2.length))],[cK.o aJi.1,eN.row aJi.2],[],1⟩) (
   .ad 1 0 3 eN.ty eN.w (eN.at []) <|
   .lp [0,1] (fun nW=>⟨[sP 0 0 0 0,(3,.c (.own 1 nW.2.length))],[cK.o nW.1,eN.row nW.2],[],1⟩) fun nW =>
   .look (default:Bool) _ [0] (lF K nW.1 ([86,65,82]:Bytes)) (fun _=>rfl) fun aHf =>
   .ite _ (
    .bk 1 (fun aJh=>⟨[sP 0 0 0 0,(3,.c (.own 1 aJh.2.length))],[cK.o aJh.1,eN.row aJh.2],[],1⟩) (
     .call [0] (qV _ _ _ _) fun aXW =>
     .call [0] (dG _ _ _) fun aXX =>
     .call [0] (iM _ _) fun wN =>
     .call [0] (dG _ _ _) fun aXY =>
     .call [0] (aGa _ _) fun nB =>
     .call [0] (dL _ _ _) fun aRW =>
     .jn (fun uM=>⟨[sP 0 0 0 0,(3,.c (.own 1 nW.2.length)),sP 4 2 0 0],[cK.o uM.1,eN.row nW.2,.cells [.str wN.1,iC nB.1.bP,iC nB.1.fLo,iC nB.1.fHi,.str nB.1.cC,iC uM.2,iC 0,iC 0]],[],1⟩) (
      .ite _ (
       .call [0] (aAz _ _) fun aU6 =>
       .nil [0,1,2] _) (
       .nil [0,1,2] _)) fun uM =>
     .call [0] (dL _ _ _) fun aRX =>
     .jn (fun mM=>⟨[sP 0 0 0 0,(3,.c (.own 1 nW.2.length)),sP 4 2 0 0],[cK.o mM.1,eN.row nW.2,.cells [.str wN.1,iC nB.1.bP,iC nB.1.fLo,iC nB.1.fHi,.str nB.1.cC,iC uM.2,iC mM.2.1,iC mM.2.2]],[],1⟩) (
      .ite _ (
       .call [0] (dL _ _ _) fun aRY =>
       .jn (fun aMw=>⟨[sP 0 0 0 0,(3,.c (.own 1 nW.2.length)),sP 4 2 0 0],[cK.o aMw.1,eN.row nW.2,.cells [.str wN.1,iC nB.1.bP,iC nB.1.fLo,iC nB.1.fHi,.str nB.1.cC,iC uM.2,iC aMw.2,iC 0]],[],1⟩) (
        .ite _ (
         .call [0] (dG _ _ _) fun aXZ =>
         .nil [0,1,2] _) (
         .nil [0,1,2] _)) fun aMw =>
       .call [0] (uL _ _) fun aU7 =>
       .nil [0,1,2] _) (
       .nil [0,1,2] _)) fun mM =>
     .call [0] (dG _ _ _) fun aX0 =>
     .ob 17 2 3 (x:=.row 41 8 1 (gY [[.str wN.1,iC nB.1.bP,iC nB.1.fLo,iC nB.1.fHi,.str nB.1.cC,iC uM.2,iC mM.2.1,iC mM.2.2]])) (y:=(eN.row [(⟨wN.1,nB.1,uM.2,mM.2.1,mM.2.2⟩:fE)])) (El.bZ eN [(⟨wN.1,nB.1,uM.2,mM.2.1,mM.2.2⟩:fE)] rfl (by kernel_rfl)) <|
     .sl 17 2 42 (x:=.c (.own 3 1)) (y:=(.c (.own 3 ([(⟨wN.1,nB.1,uM.2,mM.2.1,mM.2.2⟩:fE)].length)))) (eA.c (dY.own (by first | (simp;done) | (simp;omega) | omega))) <|
     .ck _ <|
     .ob 17 1 4 (x:=.row 41 8 (nW.2.length+([(⟨wN.1,nB.1,uM.2,mM.2.1,mM.2.2⟩:fE)].length)) fun i j=>bif Nat.blt i nW.2.length then eN.at nW.2 i j else (eN.at [(⟨wN.1,nB.1,uM.2,mM.2.1,mM.2.2⟩:fE)]) (i - nW.2.length) j) (y:=(eN.row (nW.2++[(⟨wN.1,nB.1,uM.2,mM.2.1,mM.2.2⟩:fE)]))) (El.cI eN nW.2 [(⟨wN.1,nB.1,uM.2,mM.2.1,mM.2.2⟩:fE)] rfl rfl) <|
     .sl 17 1 43 (x:=.c (.own 4 (nW.2.length+([(⟨wN.1,nB.1,uM.2,mM.2.1,mM.2.2⟩:fE)].length)))) (y:=(.c (.own 4 ((nW.2++[(⟨wN.1,nB.1,uM.2,mM.2.1,mM.2.2⟩:fE)]).length)))) (eA.c (dY.own (by first | (simp;done) | (simp;omega) | omega))) <|
     .nil [0,4] _) fun aJh =>
    .nil [0,1] _) (
    .ret [0,1] _)) fun aJi =>
  .fz 18 0 1 <|
  .ret [0] _)
def aMx (K:Nat) (a0:cB):Option ((Bool) ⊕ (Bool)) :=
 (bL (bJ ((iter K (fun (eY:Int)=>(bN (decide ((eY:Int)<(Int.ofNat ([([84,72,73,83]:Bytes),([83,85,80,69,82]:Bytes),([73,70]:Bytes),([67,65,83,69]:Bytes),([87,72,73,76,69]:Bytes),([70,79,82]:Bytes),([82,69,84,85,82,78]:Bytes),([69,88,73,84]:Bytes),([83,84,69,80]:Bytes)].length)))) (fun (x38:Bool)=>(if x38=true then (bL (bJ (bW [cS eY ([([84,72,73,83]:Bytes),([83,85,80,69,82]:Bytes),([73,70]:Bytes),([67,65,83,69]:Bytes),([87,72,73,76,69]:Bytes),([70,79,82]:Bytes),([82,69,84,85,82,78]:Bytes),([69,88,73,84]:Bytes),([83,84,69,80]:Bytes)].length)] (bN ([([84,72,73,83]:Bytes),([83,85,80,69,82]:Bytes),([73,70]:Bytes),([67,65,83,69]:Bytes),([87,72,73,76,69]:Bytes),([70,79,82]:Bytes),([82,69,84,85,82,78]:Bytes),([69,88,73,84]:Bytes),([83,84,69,80]:Bytes)].getD ((eY:Int).toNat) default) (fun (x42:Bytes)=>((bT (F73 K a0 x42)).bind (fun qR=>(if qR=true then (some (.inl (Sum.inr (Sum.inr (true))))) else (some (.inr ()))))))))) (fun (u41:Unit)=>(some (.inr ((IntKind.i64.wrap (eY+1))))))) else (some (.inl (Sum.inl ()))))))) (0)).map .inl)) (fun (dU:Unit)=>((bT (vE K a0 1)).bind (fun r44=>(some (.inl (r44)))))))
theorem aKR (K:Nat) (a0:cB):bS Tryz.prog 142 [.c (cK.ep a0 0)] [] (bT (aMx K a0)) (fun r=>.c (.val (.bool r))) (fun r=>[]):=by
 refine bS.it Tryz.f142 (fun r=>⟨[sB 2 r],[],[],0⟩) ?_
 unfold aMx
 exact Ref.pt (
  .ob 1 1 0 (x:=.row 9 1 9 (gY [[.str pN],[.str lX],[.str wIF],[.str aBT],[.str wO],[.str aHq],[.str sD],[.str aBU],[.str aBV]])) (y:=(E9.row [pN,lX,wIF,aBT,wO,aHq,sD,aBU,aBV])) (El.bZ E9 [pN,lX,wIF,aBT,wO,aHq,sD,aBU,aBV] rfl (by kernel_rfl)) <|
  .sl 1 1 5 (x:=.c (.own 0 9)) (y:=(.c (.own 0 ([pN,lX,wIF,aBT,wO,aHq,sD,aBU,aBV].length)))) (eA.c (dY.own (by first | (simp;done) | (simp;omega) | omega))) <|
  .bk 0 (fun dU=>⟨[(0,.c (cK.ep a0 0))],[],[],0⟩) (
   .lp [0] (fun eY=>⟨[(0,.c (cK.ep a0 0)),(3,.c (.own 0 ([pN,lX,wIF,aBT,wO,aHq,sD,aBU,aBV].length))),sI 4 eY],[E9.row [pN,lX,wIF,aBT,wO,aHq,sD,aBU,aBV]],[],0⟩) fun eY =>
   .lt _ fun x38 =>
   .ite _ (
    .bk 1 (fun u41=>⟨[(0,.c (cK.ep a0 0)),(3,.c (.own 0 ([pN,lX,wIF,aBT,wO,aHq,sD,aBU,aBV].length))),sI 4 eY],[E9.row [pN,lX,wIF,aBT,wO,aHq,sD,aBU,aBV]],[],0⟩) (
     .ck _ <|
     .lt _ fun x42 =>
     .call [] (lF _ _ _) fun qR =>
     .ite _ (
      .ret [] _) (
      .nil [0] _)) fun u41 =>
    .nil [0] _) (
    .ret [] _)) fun dU =>
  .call [] (lN _ _ _) fun r44 =>
  .ret [] _)
def aJj (K:Nat) (a0:cB):Option ((Bytes × cB) ⊕ (Bytes × cB)) :=
 ((bT (fI K a0 ([40]:Bytes))).bind (fun r1=>((bT (pJ K r1)).bind (fun r2=>((bT (fI K r2.2 ([41]:Bytes))).bind (fun r3=>(some (.inl (r2.1,r3)))))))))
theorem aGc (K:Nat) (a0:cB):bS Tryz.prog 217 [.c (.ptr 0 0 0)] [cK.o a0] (bT (aJj K a0)) (fun r=>.c (.str r.1)) (fun r=>[cK.o r.2]):=by
 refine bS.it Tryz.f217 (fun r=>⟨[sS 2 r.1],[cK.o r.2],[],1⟩) ?_
 unfold aJj
 exact Ref.pt (
  .call [0] (dG _ _ _) fun r1 =>
  .call [0] (iM _ _) fun r2 =>
  .call [0] (dG _ _ _) fun r3 =>
  .ret [0] _)
def aO9 (K:Nat) (a0:cB):Option ((Int × cB) ⊕ (Int × cB)) :=
 (bL (bJ ((iter K (fun (eY:cB × Int)=>(bN (decide ((eY.2:Int)<(Int.ofNat ([([]:Bytes),([43]:Bytes),([45]:Bytes),([42]:Bytes),([47]:Bytes),([77,79,68]:Bytes),([61]:Bytes),([60,62]:Bytes),([60]:Bytes),([60,61]:Bytes),([62]:Bytes),([62,61]:Bytes),([65,78,68]:Bytes),([79,82]:Bytes),([88,79,82]:Bytes)].length)))) (fun (x38:Bool)=>(if x38=true then (bL (bJ (bW [cS eY.2 ([([]:Bytes),([43]:Bytes),([45]:Bytes),([42]:Bytes),([47]:Bytes),([77,79,68]:Bytes),([61]:Bytes),([60,62]:Bytes),([60]:Bytes),([60,61]:Bytes),([62]:Bytes),([62,61]:Bytes),([65,78,68]:Bytes),([79,82]:Bytes),([88,79,82]:Bytes)].length)] (bN ([([]:Bytes),([43]:Bytes),([45]:Bytes),([42]:Bytes),([47]:Bytes),([77,79,68]:Bytes),([61]:Bytes),([60,62]:Bytes),([60]:Bytes),([60,61]:Bytes),([62]:Bytes),([62,61]:Bytes),([65,78,68]:Bytes),([79,82]:Bytes),([88,79,82]:Bytes)].getD ((eY.2:Int).toNat) default) (fun (x42:Bytes)=>((bT (fZ K eY.1 x42)).bind (fun qR=>(if qR.1=true then (some (.inl (Sum.inr (Sum.inr (eY.2,qR.2))))) else (some (.inr (qR.2)))))))))) (fun (u41:cB)=>(some (.inr (u41,(IntKind.i64.wrap (eY.2+1))))))) else (some (.inl (Sum.inl (eY.1)))))))) (a0,1)).map .inl)) (fun (dU:cB)=>(some (.inl (0,dU)))))
theorem aRZ (K:Nat) (a0:cB):bS Tryz.prog 214 [.c (.ptr 0 0 0)] [cK.o a0] (bT (aO9 K a0)) (fun r=>.c (.val (.int .i64 r.1))) (fun r=>[cK.o r.2]):=by
 refine bS.it Tryz.f214 (fun r=>⟨[sI 2 r.1],[cK.o r.2],[],1⟩) ?_
 unfold aO9
 exact Ref.pt (
  .ob 1 1 1 (x:=.row 9 1 15 (gY [[.str []],[.str aHr],[.str uN],[.str aHs],[.str aHt],[.str aHu],[.str aHv],[.str sF],[.str aHw],[.str sG],[.str aHx],[.str sH],[.str aHy],[.str wOR],[.str aHz]])) (y:=(E9.row [([]:Bytes),aHr,uN,aHs,aHt,aHu,aHv,sF,aHw,sG,aHx,sH,aHy,wOR,aHz])) (El.bZ E9 [([]:Bytes),aHr,uN,aHs,aHt,aHu,aHv,sF,aHw,sG,aHx,sH,aHy,wOR,aHz] rfl (by kernel_rfl)) <|
  .sl 1 1 5 (x:=.c (.own 1 15)) (y:=(.c (.own 1 ([([]:Bytes),aHr,uN,aHs,aHt,aHu,aHv,sF,aHw,sG,aHx,sH,aHy,wOR,aHz].length)))) (eA.c (dY.own (by first | (simp;done) | (simp;omega) | omega))) <|
  .bk 0 (fun dU=>⟨[],[cK.o dU],[],1⟩) (
   .lp [0,1] (fun eY=>⟨[sP 0 0 0 0,(3,.c (.own 1 ([([]:Bytes),aHr,uN,aHs,aHt,aHu,aHv,sF,aHw,sG,aHx,sH,aHy,wOR,aHz].length))),sI 4 eY.2],[cK.o eY.1,E9.row [([]:Bytes),aHr,uN,aHs,aHt,aHu,aHv,sF,aHw,sG,aHx,sH,aHy,wOR,aHz]],[],1⟩) fun eY =>
   .lt _ fun x38 =>
   .ite _ (
    .bk 1 (fun u41=>⟨[sP 0 0 0 0,(3,.c (.own 1 ([([]:Bytes),aHr,uN,aHs,aHt,aHu,aHv,sF,aHw,sG,aHx,sH,aHy,wOR,aHz].length))),sI 4 eY.2],[cK.o u41,E9.row [([]:Bytes),aHr,uN,aHs,aHt,aHu,aHv,sF,aHw,sG,aHx,sH,aHy,wOR,aHz]],[],1⟩) (
     .ck _ <|
     .lt _ fun x42 =>
     .call [0] (dL _ _ _) fun qR =>
     .ite _ (
      .ret [0] _) (
      .nil [0,1] _)) fun u41 =>
    .nil [0,1] _) (
    .ret [0] _)) fun dU =>
  .ret [0] _)
def aJk (K:Nat) (a0:cB):Option ((Bool) ⊕ (Bool)) :=
 ((bT (vE K a0 1)).bind (fun r1=>((cH (!r1) (bT (vE K a0 3)) default).bind (fun r2=>(if (r1 || r2)=true then (some (.inl (true))) else (bL (bJ ((iter K (fun (u32:Int)=>(bN (decide ((u32:Int)<(Int.ofNat ([([45]:Bytes),([78,79,84]:Bytes),([84,82,85,69]:Bytes),([70,65,76,83,69]:Bytes),([78,85,76,76]:Bytes),([84,72,73,83]:Bytes),([83,85,80,69,82]:Bytes),([82,69,70]:Bytes),([68,79,78,69]:Bytes),([67,79,85,78,84]:Bytes),([65,83]:Bytes),([40]:Bytes)].length)))) (fun (x40:Bool)=>(if x40=true then (bL (bJ (bW [cS u32 ([([45]:Bytes),([78,79,84]:Bytes),([84,82,85,69]:Bytes),([70,65,76,83,69]:Bytes),([78,85,76,76]:Bytes),([84,72,73,83]:Bytes),([83,85,80,69,82]:Bytes),([82,69,70]:Bytes),([68,79,78,69]:Bytes),([67,79,85,78,84]:Bytes),([65,83]:Bytes),([40]:Bytes)].length)] (bN ([([45]:Bytes),([78,79,84]:Bytes),([84,82,85,69]:Bytes),([70,65,76,83,69]:Bytes),([78,85,76,76]:Bytes),([84,72,73,83]:Bytes),([83,85,80,69,82]:Bytes),([82,69,70]:Bytes),([68,79,78,69]:Bytes),([67,79,85,78,84]:Bytes),([65,83]:Bytes),([40]:Bytes)].getD ((u32:Int).toNat) default) (fun (x44:Bytes)=>((bT (F73 K a0 x44)).bind (fun r45=>(if r45=true then (some (.inl (Sum.inr (Sum.inr (true))))) else (some (.inr ()))))))))) (fun (u43:Unit)=>(some (.inr ((IntKind.i64.wrap (u32+1))))))) else (some (.inl (Sum.inl ()))))))) (0)).map .inl)) (fun (u24:Unit)=>(some (.inl (false))))))))))
theorem aGe (K:Nat) (a0:cB):bS Tryz.prog 188 [.c (cK.ep a0 0)] [] (bT (aJk K a0)) (fun r=>.c (.val (.bool r))) (fun r=>[]):=by
 refine bS.it Tryz.f188 (fun r=>⟨[sB 2 r],[],[],0⟩) ?_
 unfold aJk
 exact Ref.pt (
  .call [] (lN _ _ _) fun r1 =>
  .look (default:Bool) _ [] (lN K a0 3) (fun _=>rfl) fun r2 =>
  .ite _ (
   .ret [] _) (
   .ob 3 1 0 (x:=.row 9 1 12 (gY [[.str uN],[.str aHA],[.str aBW],[.str wQ],[.str aBX],[.str pN],[.str lX],[.str aHB],[.str aBY],[.str wR],[.str wAS],[.str aHC]])) (y:=(E9.row [uN,aHA,aBW,wQ,aBX,pN,lX,aHB,aBY,wR,wAS,aHC])) (El.bZ E9 [uN,aHA,aBW,wQ,aBX,pN,lX,aHB,aBY,wR,wAS,aHC] rfl (by kernel_rfl)) <|
   .sl 3 1 11 (x:=.c (.own 0 12)) (y:=(.c (.own 0 ([uN,aHA,aBW,wQ,aBX,pN,lX,aHB,aBY,wR,wAS,aHC].length)))) (eA.c (dY.own (by first | (simp;done) | (simp;omega) | omega))) <|
   .bk 0 (fun u24=>⟨[],[],[],0⟩) (
    .lp [0] (fun u32=>⟨[(0,.c (cK.ep a0 0)),(3,.c (.own 0 ([uN,aHA,aBW,wQ,aBX,pN,lX,aHB,aBY,wR,wAS,aHC].length))),sI 4 u32],[E9.row [uN,aHA,aBW,wQ,aBX,pN,lX,aHB,aBY,wR,wAS,aHC]],[],0⟩) fun u32 =>
    .lt _ fun x40 =>
    .ite _ (
     .bk 1 (fun u43=>⟨[(0,.c (cK.ep a0 0)),(3,.c (.own 0 ([uN,aHA,aBW,wQ,aBX,pN,lX,aHB,aBY,wR,wAS,aHC].length))),sI 4 u32],[E9.row [uN,aHA,aBW,wQ,aBX,pN,lX,aHB,aBY,wR,wAS,aHC]],[],0⟩) (
      .ck _ <|
      .lt _ fun x44 =>
      .call [] (lF _ _ _) fun r45 =>
      .ite _ (
       .ret [] _) (
       .nil [0] _)) fun u43 =>
     .nil [0] _) (
     .ret [] _)) fun u24 =>
   .ret [] _))
mutual
def qX:(K:Nat)→(cB)→(Int)→Option ((cL × cB) ⊕ (cL × cB))
 | 0,_,_=>none
 | K+1,a0,a1 =>
 ((cH (decide ((a1:Int) > 6)) (bT (aJk K a0)) default).bind (fun r1=>(bL (if ((decide ((a1:Int) > 6)) && r1)=true then ((bT (aAy K a0 4)).bind (fun r4=>(some (.inr (r4))))) else (some (.inr (a0)))) (fun (u3:cB)=>((bT (fZ K u3 ([45]:Bytes))).bind (fun r5=>(if r5.1=true then ((bT (aGf K r5.2 a1)).bind (fun r6=>(some (.inl ((⟨7,0,([]:Bytes),([]:Bytes),[r6.1]⟩:cL),r6.2))))) else ((bT (fZ K r5.2 ([78,79,84]:Bytes))).bind (fun r7=>(if r7.1=true then ((bT (aGf K r7.2 a1)).bind (fun r8=>(some (.inl ((⟨8,0,([]:Bytes),([]:Bytes),[r8.1]⟩:cL),r8.2))))) else ((bT (aGf K r7.2 a1)).bind (fun r9=>((bT (aO9 K r9.2)).bind (fun jY=>(if ((jY.1:Int) == 0)=true then (some (.inl (r9.1,jY.2))) else ((bT (aGf K jY.2 a1)).bind (fun r11=>(some (.inl ((⟨9,jY.1,([]:Bytes),([]:Bytes),[r9.1,r11.1]⟩:cL),r11.2))))))))))))))))))))
def aBo:(K:Nat)→(cB)→(cL)→(Int)→Option ((cL × cB) ⊕ (cL × cB))
 | 0,_,_,_=>none
 | K+1,a0,a1,a2 =>
 ((bT (fI K a0 ([46]:Bytes))).bind (fun r1=>((bT (pJ K r1)).bind (fun r2=>((bT (fI K r2.2 ([40]:Bytes))).bind (fun r3=>((bT (fZ K r3 ([41]:Bytes))).bind (fun r4=>(if r4.1=true then (some (.inl ((⟨13,a1.fN,a1.cC,r2.1,[]⟩:cL),r4.2))) else (bL (bJ ((iter K (fun (fH:cB × (List cL))=>(if ((fH.1.iL:Int) == 0)=true then (bL (bJ ((cH true (bT (aJk K fH.1)) default).bind (fun iS=>(bL (if iS=true then ((bT (F74 K fH.1 (Int.ofNat fH.2.length) 3)).bind (fun jE=>(some (.inr (jE))))) else (some (.inr (fH.1)))) (fun (aHD:cB)=>((bT (qX K aHD (IntKind.i64.wrap (a2+1)))).bind (fun lP=>(bW [room ((fH.2.length+([lP.1].length)) * 72)] ((bT (fZ K lP.2 ([44]:Bytes))).bind (fun zD=>(if (!zD.1)=true then ((bT (fI K zD.2 ([41]:Bytes))).bind (fun aD7=>(some (.inl (Sum.inr (Sum.inl (aD7,(fH.2++[lP.1])))))))) else (some (.inr (zD.2,(fH.2++[lP.1]))))))))))))))) (fun (xU:cB × (List cL))=>(some (.inr (xU.1,xU.2))))) else (some (.inl (Sum.inl (fH.1,fH.2)))))) (r4.2,[])).map .inl)) (fun (u59:cB × (List cL))=>(some (.inl ((⟨13,a1.fN,a1.cC,r2.1,u59.2⟩:cL),u59.1))))))))))))))
def aGf:(K:Nat)→(cB)→(Int)→Option ((cL × cB) ⊕ (cL × cB))
 | 0,_,_=>none
 | K+1,a0,a1 =>
 (bL (bJ ((cH true (bT (vE K a0 3)) default).bind (fun xG=>(if xG=true then ((bT (aD6 K a0)).bind (fun r34=>(some (.inr (r34.2,1,r34.1,([]:Bytes),([]:Bytes),[]))))) else ((bT (fZ K a0 ([84,82,85,69]:Bytes))).bind (fun r35=>(if r35.1=true then (some (.inr (r35.2,2,0,([]:Bytes),([]:Bytes),[]))) else ((bT (fZ K r35.2 ([70,65,76,83,69]:Bytes))).bind (fun r36=>(if r36.1=true then (some (.inr (r36.2,3,0,([]:Bytes),([]:Bytes),[]))) else ((bT (fZ K r36.2 ([78,85,76,76]:Bytes))).bind (fun r37=>(if r37.1=true then (some (.inr (r37.2,4,0,([]:Bytes),([]:Bytes),[]))) else ((bT (fZ K r37.2 ([82,69,70]:Bytes))).bind (fun r38=>(if r38.1=true then ((bT (aJj K r38.2)).bind (fun r39=>(some (.inr (r39.2,10,0,r39.1,([]:Bytes),[]))))) else ((bT (fZ K r38.2 ([68,79,78,69]:Bytes))).bind (fun mO=>(if mO.1=true then ((bT (aJj K mO.2)).bind (fun r41=>(some (.inr (r41.2,11,0,r41.1,([]:Bytes),[]))))) else ((bT (fZ K mO.2 ([67,79,85,78,84]:Bytes))).bind (fun r42=>(if r42.1=true then ((bT (aJj K r42.2)).bind (fun qR=>(some (.inr (qR.2,12,0,qR.1,([]:Bytes),[]))))) else ((bT (fZ K r42.2 ([65,83]:Bytes))).bind (fun r44=>(if r44.1=true then ((bT (pJ K r44.2)).bind (fun r45=>((bT (fI K r45.2 ([40]:Bytes))).bind (fun r46=>((bT (qX K r46 (IntKind.i64.wrap (a1+1)))).bind (fun r47=>((bT (fI K r47.2 ([41]:Bytes))).bind (fun r48=>(some (.inr (r48,14,0,r45.1,([]:Bytes),[r47.1]))))))))))) else ((bT (fZ K r44.2 ([40]:Bytes))).bind (fun r49=>(if r49.1=true then ((bT (qX K r49.2 (IntKind.i64.wrap (a1+1)))).bind (fun r50=>((bT (fI K r50.2 ([41]:Bytes))).bind (fun r51=>(some (.inr (r51,r50.1.bP,r50.1.fN,r50.1.cC,r50.1.wF,r50.1.fY))))))) else ((bT (fZ K r49.2 ([84,72,73,83]:Bytes))).bind (fun r52=>(if r52.1=true then ((bT (aBo K r52.2 (⟨0,1,([]:Bytes),([]:Bytes),[]⟩:cL) a1)).bind (fun r53=>(some (.inl (Sum.inr (r53.1,r53.2)))))) else ((bT (fZ K r52.2 ([83,85,80,69,82]:Bytes))).bind (fun zL=>(if zL.1=true then ((bT (aBo K zL.2 (⟨0,2,([]:Bytes),([]:Bytes),[]⟩:cL) a1)).bind (fun r55=>(some (.inl (Sum.inr (r55.1,r55.2)))))) else ((cH true (bT (vE K zL.2 1)) default).bind (fun r56=>(if r56=true then ((bT (pJ K zL.2)).bind (fun r57=>((cH true (bT (F73 K r57.2 ([46]:Bytes))) default).bind (fun wH=>(if wH=true then ((bT (aBo K r57.2 (⟨5,0,r57.1,([]:Bytes),[]⟩:cL) a1)).bind (fun r59=>(some (.inl (Sum.inr (r59.1,r59.2)))))) else ((bT (fZ K r57.2 ([91]:Bytes))).bind (fun r60=>(if r60.1=true then ((bT (qX K r60.2 (IntKind.i64.wrap (a1+1)))).bind (fun r61=>((bT (fI K r61.2 ([93]:Bytes))).bind (fun r62=>(some (.inr (r62,6,0,r57.1,([]:Bytes),[r61.1]))))))) else (some (.inr (r60.2,5,0,r57.1,([]:Bytes),[]))))))))))) else ((bT (aAy K zL.2 3)).bind (fun tP=>(some (.inr (tP,0,0,([]:Bytes),([]:Bytes),[])))))))))))))))))))))))))))))))))))))))))) (fun (u32:cB × Int × Int × Bytes × Bytes × (List cL))=>(some (.inl ((⟨u32.2.1,u32.2.2.1,u32.2.2.2.1,u32.2.2.2.2.1,u32.2.2.2.2.2⟩:cL),u32.1)))))
end
abbrev wS (v0:Int):List (Nat × D):=[sP 0 0 0 0,sI 2 v0,sP 4 1 0 0,sP 6 3 0 0]
theorem aKT:∀ K:Nat,(∀ (a0:cB),∀ (a1:Int),bS Tryz.prog 187 [.c (.ptr 0 0 0),.c (.val (.int .i64 a1))] [cK.o a0] (bT (qX K a0 a1)) (fun r=>.agg (cA.cs r.1)) (fun r=>[cK.o r.2,cA.o r.1]))∧(∀ (a0:cB),∀ (a1:cL),∀ (a2:Int),bS Tryz.prog 189 [.c (.ptr 0 0 0),.agg [.val (.int .i64 a1.bP),.val (.int .i64 a1.fN),.str a1.cC,.str a1.wF,.nil],.c (.val (.int .i64 a2))] [cK.o a0] (bT (aBo K a0 a1 a2)) (fun r=>.agg (cA.cs r.1)) (fun r=>[cK.o r.2,cA.o r.1]))∧(∀ (a0:cB),∀ (a1:Int),bS Tryz.prog 213 [.c (.ptr 0 0 0),.c (.val (.int .i64 a1))] [cK.o a0] (bT (aGf K a0 a1)) (fun r=>.agg (cA.cs r.1)) (fun r=>[cK.o r.2,cA.o r.1])):=by
 intro K
 induction K with
 | zero=>exact ⟨fun a0 a1=>bS.none (by rw[qX];rfl),fun a0 a1 a2=>bS.none (by rw[aBo];rfl),fun a0 a1=>bS.none (by rw[aGf];rfl)⟩
 | succ K ih =>
  obtain ⟨aKU,aPa,aKV⟩:=ih
  refine ⟨?_,?_,?_⟩
  ·
   intro a0 a1
   refine bS.it Tryz.f187 (fun r=>⟨[sP 4 1 0 0],[cK.o r.2,cA.o r.1],[],1⟩) ?_
   rw[qX]
   exact Ref.pt (
    .look (default:Bool) _ [0] (aGe K a0) (fun _=>rfl) fun r1 =>
    .jn (fun u3=>⟨[sP 0 0 0 0,sI 1 a1,sP 4 1 0 0],[cK.o u3,oX6],[],1⟩) (
     .ite _ (
      .call [0] (oB _ _ _) fun r4 =>
      .nil [0,1] _) (
      .nil [0,1] _)) fun u3 =>
    .call [0] (dL _ _ _) fun r5 =>
    .ite _ (
     .call [0] (aKV _ _) fun r6 =>
     .ob 4 2 3 (x:=.row 195 5 1 (gY [(cA.cs r6.1)])) (y:=(cA.row [r6.1])) (El.bZ cA [r6.1] rfl (by kernel_rfl)) <|
     .sl 4 2 20 (x:=.c (.own 3 1)) (y:=(.c (.own 3 ([r6.1].length)))) (eA.c (dY.own (by first | (simp;done) | (simp;omega) | omega))) <|
     .fz 4 0 3 <|
     .ok 4 0 1 4 (x:=cA.tree [r6.1]) (y:=tM [r6.1]) (tQ _) <|
     .ret [0,1] _) (
     .call [0] (dL _ _ _) fun r7 =>
     .ite _ (
      .call [0] (aKV _ _) fun r8 =>
      .ob 6 2 3 (x:=.row 195 5 1 (gY [(cA.cs r8.1)])) (y:=(cA.row [r8.1])) (El.bZ cA [r8.1] rfl (by kernel_rfl)) <|
      .sl 6 2 27 (x:=.c (.own 3 1)) (y:=(.c (.own 3 ([r8.1].length)))) (eA.c (dY.own (by first | (simp;done) | (simp;omega) | omega))) <|
      .fz 6 0 3 <|
      .ok 6 0 1 4 (x:=cA.tree [r8.1]) (y:=tM [r8.1]) (tQ _) <|
      .ret [0,1] _) (
      .call [0] (aKV _ _) fun r9 =>
      .call [0] (aRZ _ _) fun jY =>
      .ite _ (
       .ret [0,1] _) (
       .esc [0,1,3] [(cd (bd Tryz.f187) [1,1,1,1,1,1,1,0]),(cd (bd Tryz.f187) [1,1,1,1,1,1,1,1])] ⟨[sP 0 0 0 0,sI 1 a1,sP 4 1 0 0,sP 5 2 0 0,sI 6 jY.1,sB 35 ((jY.1:Int) == 0)],[cK.o jY.2,oX6,cA.o r9.1],[],1⟩ (by
        refine Ref.eH 11 (by kernel_rfl) (by kernel_rfl) ?_
        refine dN.eW (cR:=⟨[sP 4 1 0 0,sP 5 2 0 0,sI 37 jY.1,sP 39 0 0 0,sI 40 a1],[cK.o jY.2,oX6,cA.o r9.1],[],1⟩) (fuel':=5) [0,2,3] [4,5,37,39,40] [0,1,2] rfl (by kernel_rfl) (by kernel_rfl) ?_
        refine dN.qB [4,7] ?_
        refine bO.iA (fun (r11:cL × cB)=>⟨[sP 4 1 0 0],[cK.o r11.2,.cells [iC 9,iC jY.1,.str [],.str [],.own 2 ([r9.1,r11.1].length)],cA.row [r9.1,r11.1]],[],1⟩) (fun (r11:cL × cB)=>(some (.inl ((⟨9,jY.1,([]:Bytes),([]:Bytes),[r9.1,r11.1]⟩:cL),r11.2)))) (fun r11=>?_) (fun hk=>?_)
        ·
         exact Ref.pt (
          .fz 1000000 0 2 <|
          .ok 1000000 0 1 4 (x:=cA.tree [r9.1,r11.1]) (y:=tM [r9.1,r11.1]) (tQ _) <|
          .ret [0,1] _)
        ·
         refine bO.iR (fuel':=4) [[],[(1,38)]] [(1,38)] [4,5,37,39,40] [0,1,2] ⟨[sP 4 1 0 0,sP 5 2 0 0,sI 37 jY.1,(38,.agg (cA.cs r9.1)),sP 39 0 0 0,sI 40 a1],[cK.o jY.2,oX6,cA.o r9.1],[],1⟩ ?_
         refine cO.cM (fuel':=3) 4 ?_
         refine dB.cG (t:=41) 4 [0] rfl (by kernel_rfl) (aKV jY.2 a1) (fun r11=>?_)
         refine cO.close ?_
         refine bO.mX (cR:=⟨[sP 4 1 0 0,sI 37 jY.1,(42,.c (.own 2 2))],[cK.o r11.2,oX6,.row 195 5 2 (gY [(cA.cs r9.1),(cA.cs r11.1)])],[],1⟩) (fuel':=2) 5 [4,37,42] [0,1,4] rfl (by kernel_rfl) (by kernel_rfl) ?_
         refine bO.conv (Conv.ob 2 (cA.row [r9.1,r11.1]) (El.bZ cA [r9.1,r11.1] rfl (by kernel_rfl))) ?_
         refine bO.conv (Conv.sl 42 (.c (.own 2 ([r9.1,r11.1].length))) (eA.c (dY.own (by first | (simp;done) | (simp;omega) | omega)))) ?_
         refine bO.v0 (fuel':=1) [6] [4,43] [0,1,2] ?_
         refine bO.cM (fuel':=0) 7 (by kernel_rfl) ?_
         refine cF.w0 7 [4] [0,1,2] ?_
         refine bO.done (by kernel_rfl) ?_
         refine Ref.ck ⟨[sP 4 1 0 0],[cK.o r11.2,.cells [iC 9,iC jY.1,.str [],.str [],.own 2 ([r9.1,r11.1].length)],cA.row [r9.1,r11.1]],[],1⟩ [4] [0,1,2] ?_
         exact hk r11)))))
  ·
   intro a0 a1 a2
   refine bS.it Tryz.f189 (fun r=>⟨[sP 6 1 0 0],[cK.o r.2,cA.o r.1],[],1⟩) ?_
   rw[aBo]
   exact Ref.pt (
    .call [0] (dG _ _ _) fun r1 =>
    .call [0] (iM _ _) fun r2 =>
    .call [0] (dG _ _ _) fun r3 =>
    .call [0] (dL _ _ _) fun r4 =>
    .ite _ (
     .ok 6 0 2 4 (x:=.nil) (y:=cA.tree []) (El.cN cA) <|
     .ok 6 0 2 4 (x:=cA.tree []) (y:=tM []) (tQ _) <|
     .ret [0,2] _) (
     .bk 0 (fun u59=>⟨[sP 4 1 0 0,sP 6 3 0 0],[cK.o u59.1,.cells [iC 13,iC a1.fN,.str a1.cC,.str r2.1,.own 2 u59.2.length],cA.row u59.2,oX6],[],1⟩) (
      .adc 5 0 1 4 cA.ty cA.w (cA.at []) <|
      .lp [0,1,3,2] (fun fH=>⟨wS a2,[cK.o fH.1,.cells [iC 13,iC a1.fN,.str a1.cC,.str r2.1,.own 2 fH.2.length],cA.row fH.2,oX6],[],1⟩) fun fH =>
      .ite _ (
       .bk 1 (fun xU=>⟨wS a2,[cK.o xU.1,.cells [iC 13,iC a1.fN,.str a1.cC,.str r2.1,.own 2 xU.2.length],cA.row xU.2,oX6],[],1⟩) (
        .look (default:Bool) _ [0] (aGe K fH.1) (fun _=>rfl) fun iS =>
        .jn (fun aHD=>⟨wS a2,[cK.o aHD,.cells [iC 13,iC a1.fN,.str a1.cC,.str r2.1,.own 2 fH.2.length],cA.row fH.2,oX6],[],1⟩) (
         .ite _ (
          .call [0] (qV _ _ _ _) fun jE =>
          .nil [0,1,2,3] _) (
          .nil [0,1,2,3] _)) fun aHD =>
        .esc [0,1,2,3] [(cd (bd Tryz.f189) [1,1,1,1,1,1,0,0,0,1,0,1,0]),(cd (bd Tryz.f189) [1,1,1,1,1,1,0,0,0,1,0,1,1])] ⟨wS a2,[cK.o aHD,.cells [iC 13,iC a1.fN,.str a1.cC,.str r2.1,.own 2 fH.2.length],cA.row fH.2,oX6],[],1⟩ (by
         refine Ref.eH 10 (by kernel_rfl) (by kernel_rfl) ?_
         refine dN.eW (cR:=⟨wS a2++[sP 30 1 0 4,sP 32 0 0 0,sI 34 (IntKind.i64.wrap (a2+1))],[cK.o aHD,.cells [iC 13,iC a1.fN,.str a1.cC,.str r2.1,.own 2 fH.2.length],cA.row fH.2,oX6],[],1⟩) (fuel':=6) [0,2,3,4] [0,2,4,6,30,32,34] [0,1,2,3] rfl (by kernel_rfl) (by kernel_rfl) ?_
         refine dN.qB [5,7,9] ?_
         refine bO.iA (fun (lP:cL × cB)=>⟨[sP 0 0 0 0,sI 2 a2,sP 4 1 0 0,sP 6 2 0 0],[cK.o lP.2,.cells [iC 13,iC a1.fN,.str a1.cC,.str r2.1,.own 3 ((fH.2++[lP.1]).length)],oX6,cA.row (fH.2++[lP.1])],[],1⟩) (fun (lP:cL × cB)=>((bT (fZ K lP.2 ([44]:Bytes))).bind (fun zD=>(if (!zD.1)=true then ((bT (fI K zD.2 ([41]:Bytes))).bind (fun aD7=>(some (.inl (Sum.inr (Sum.inl (aD7,(fH.2++[lP.1])))))))) else (some (.inr (zD.2,(fH.2++[lP.1])))))))) (fun lP=>?_) (fun hk=>?_)
         ·
          exact Ref.pt (
           .call [0] (dL _ _ _) fun zD =>
           .ite _ (
            .call [0] (dG _ _ _) fun aD7 =>
            .ret [0,1,3,2] _) (
            .nil [0,1,3,2] _))
         ·
          refine bO.iR (fuel':=5) [[],[(1,31)]] [(1,31)] [0,2,4,6,30,32,34] [0,1,2,3] ⟨wS a2++[sP 30 1 0 4,(31,.c (.own 2 fH.2.length)),sP 32 0 0 0,sI 34 (IntKind.i64.wrap (a2+1))],[cK.o aHD,.cells [iC 13,iC a1.fN,.str a1.cC,.str r2.1,.own 2 fH.2.length],cA.row fH.2,oX6],[],1⟩ ?_
          refine cO.cM (fuel':=4) 5 ?_
          refine dB.cG (t:=35) 5 [0] rfl (by kernel_rfl) (aKU aHD (IntKind.i64.wrap (a2+1))) (fun lP=>?_)
          refine cO.cM (fuel':=3) 6 ?_
          refine dB.iY (cR:=⟨wS a2++[sP 30 1 0 4,(31,.c (.own 2 fH.2.length)),(36,.c (.own 4 1))],[cK.o lP.2,.cells [iC 13,iC a1.fN,.str a1.cC,.str r2.1,.own 2 fH.2.length],cA.row fH.2,oX6,.row 195 5 1 (gY [(cA.cs lP.1)])],[],1⟩) 6 [0,2,4,6,30,31,36] [0,1,2,3,5] (by kernel_rfl) (by kernel_rfl) ?_
          refine cO.conv (jQ.obj 4 (cA.row [lP.1]) (El.bZ cA [lP.1] rfl (by kernel_rfl)) (by kernel_rfl)) ?_
          refine cO.conv (jQ.slot 36 (.c (.own 4 ([lP.1].length))) (eA.c (dY.own (by first | (simp;done) | (simp;omega) | omega))) (by kernel_rfl)) ?_
          refine cO.close ?_
          refine bO.cM (fuel':=2) 7 (by kernel_rfl) ?_
          refine cF.writes (vs:=[room ((fH.2.length+([lP.1].length)) * 72)]) (cR:=⟨wS a2++[(37,.c (.own 4 (fH.2.length+([lP.1].length))))],[cK.o lP.2,.cells [iC 13,iC a1.fN,.str a1.cC,.str r2.1,.own 2 fH.2.length],.dead,oX6,.row 195 5 (fH.2.length+([lP.1].length)) fun i j=>bif Nat.blt i fH.2.length then cA.at fH.2 i j else (cA.at [lP.1]) (i - fH.2.length) j],[],1⟩) 7 [0,2,4,6,37] [0,1,2,3,5] (by kernel_rfl) (by kernel_rfl) ?_
          refine bO.conv (Conv.ob 4 (cA.row (fH.2++[lP.1])) (El.cI cA fH.2 [lP.1] rfl rfl)) ?_
          refine bO.conv (Conv.sl 37 (.c (.own 4 ((fH.2++[lP.1]).length))) (eA.c (dY.own (by first | (simp;done) | (simp;omega) | omega)))) ?_
          refine bO.v0 (fuel':=1) [8] [0,2,4,6,37,38] [0,1,2,3,4] ?_
          refine bO.cM (fuel':=0) 9 (by kernel_rfl) ?_
          refine cF.w0 9 [0,2,4,6] [0,1,3,4] ?_
          refine bO.done (by kernel_rfl) ?_
          refine Ref.ck ⟨[sP 0 0 0 0,sI 2 a2,sP 4 1 0 0,sP 6 2 0 0],[cK.o lP.2,.cells [iC 13,iC a1.fN,.str a1.cC,.str r2.1,.own 3 ((fH.2++[lP.1]).length)],oX6,cA.row (fH.2++[lP.1])],[],1⟩ [0,2,4,6] [0,1,2,3] ?_
          exact hk lP)) fun xU =>
       .nil [0,1,2,3] _) (
       .ret [0,1,2,3] _)) fun u59 =>
     .fz 13 0 2 <|
     .ok 13 0 3 4 (x:=cA.tree u59.2) (y:=tM u59.2) (tQ _) <|
     .ret [0,3] _))
  ·
   intro a0 a1
   refine bS.it Tryz.f213 (fun r=>⟨[sP 4 1 0 0],[cK.o r.2,cA.o r.1],[],1⟩) ?_
   rw[aGf]
   exact Ref.pt (
    .bk 0 (fun u32=>⟨[sP 4 1 0 0,sP 5 2 0 0],[cK.o u32.1,oX6,.cells [iC u32.2.1,iC u32.2.2.1,.str u32.2.2.2.1,.str u32.2.2.2.2.1,cA.tree u32.2.2.2.2.2]],[],1⟩) (
     .look (default:Bool) _ [0] (lN K a0 3) (fun _=>rfl) fun xG =>
     .ite _ (
      .call [0] (uL _ _) fun r34 =>
      .ok 4 0 2 4 (x:=.nil) (y:=cA.tree []) (El.cN cA) <|
      .nil [0,1,2] _) (
      .call [0] (dL _ _ _) fun r35 =>
      .ite _ (
       .ok 6 0 2 4 (x:=.nil) (y:=cA.tree []) (El.cN cA) <|
       .nil [0,1,2] _) (
       .call [0] (dL _ _ _) fun r36 =>
       .ite _ (
        .ok 8 0 2 4 (x:=.nil) (y:=cA.tree []) (El.cN cA) <|
        .nil [0,1,2] _) (
        .call [0] (dL _ _ _) fun r37 =>
        .ite _ (
         .ok 10 0 2 4 (x:=.nil) (y:=cA.tree []) (El.cN cA) <|
         .nil [0,1,2] _) (
         .call [0] (dL _ _ _) fun r38 =>
         .ite _ (
          .call [0] (aGc _ _) fun r39 =>
          .ok 12 0 2 4 (x:=.nil) (y:=cA.tree []) (El.cN cA) <|
          .nil [0,1,2] _) (
          .call [0] (dL _ _ _) fun mO =>
          .ite _ (
           .call [0] (aGc _ _) fun r41 =>
           .ok 14 0 2 4 (x:=.nil) (y:=cA.tree []) (El.cN cA) <|
           .nil [0,1,2] _) (
           .call [0] (dL _ _ _) fun r42 =>
           .ite _ (
            .call [0] (aGc _ _) fun qR =>
            .ok 16 0 2 4 (x:=.nil) (y:=cA.tree []) (El.cN cA) <|
            .nil [0,1,2] _) (
            .call [0] (dL _ _ _) fun r44 =>
            .ite _ (
             .call [0] (iM _ _) fun r45 =>
             .call [0] (dG _ _ _) fun r46 =>
             .call [0] (aKU _ _) fun r47 =>
             .ob 20 2 4 (x:=.row 195 5 1 (gY [(cA.cs r47.1)])) (y:=(cA.row [r47.1])) (El.bZ cA [r47.1] rfl (by kernel_rfl)) <|
             .sl 20 2 62 (x:=.c (.own 4 1)) (y:=(.c (.own 4 ([r47.1].length)))) (eA.c (dY.own (by first | (simp;done) | (simp;omega) | omega))) <|
             .call [0] (dG _ _ _) fun r48 =>
             .fz 21 0 4 <|
             .nil [0,1,2] _) (
             .call [0] (dL _ _ _) fun r49 =>
             .ite _ (
              .call [0] (aKU _ _) fun r50 =>
              .call [0] (dG _ _ _) fun r51 =>
              .ob 24 0 2 (x:=cA.o r50.1) (y:=(.cells [iC r50.1.bP,iC r50.1.fN,.str r50.1.cC,.str r50.1.wF,cA.tree r50.1.fY])) (OLe.cells (hG.cons (dY.refl _) (hG.cons (dY.refl _) (hG.cons (dY.refl _) (hG.cons (dY.refl _) (hG.cons (wG _) (hG.nil))))))) <|
              .nil [0,1,2] _) (
              .call [0] (dL _ _ _) fun r52 =>
              .ite _ (
               .call [0] (aPa _ _ _) fun r53 =>
               .ret [0,1] _) (
               .call [0] (dL _ _ _) fun zL =>
               .ite _ (
                .call [0] (aPa _ _ _) fun r55 =>
                .ret [0,1] _) (
                .look (default:Bool) _ [0] (lN K zL.2 1) (fun _=>rfl) fun r56 =>
                .ite _ (
                 .call [0] (iM _ _) fun r57 =>
                 .look (default:Bool) _ [0] (lF K r57.2 ([46]:Bytes)) (fun _=>rfl) fun wH =>
                 .ite _ (
                  .call [0] (aPa _ _ _) fun r59 =>
                  .ret [0,1] _) (
                  .call [0] (dL _ _ _) fun r60 =>
                  .ite _ (
                   .call [0] (aKU _ _) fun r61 =>
                   .ob 35 2 4 (x:=.row 195 5 1 (gY [(cA.cs r61.1)])) (y:=(cA.row [r61.1])) (El.bZ cA [r61.1] rfl (by kernel_rfl)) <|
                   .sl 35 2 109 (x:=.c (.own 4 1)) (y:=(.c (.own 4 ([r61.1].length)))) (eA.c (dY.own (by first | (simp;done) | (simp;omega) | omega))) <|
                   .call [0] (dG _ _ _) fun r62 =>
                   .fz 36 0 4 <|
                   .nil [0,1,2] _) (
                   .ok 33 0 2 4 (x:=.nil) (y:=cA.tree []) (El.cN cA) <|
                   .nil [0,1,2] _))) (
                 .call [0] (oB _ _ _) fun tP =>
                 .ok 2 0 2 4 (x:=.nil) (y:=cA.tree []) (El.cN cA) <|
                 .nil [0,1,2] _))))))))))))) fun u32 =>
    .ok 37 0 1 4 (x:=cA.tree u32.2.2.2.2.2) (y:=tM u32.2.2.2.2.2) (tQ _) <|
    .ret [0,1] _)
theorem mA (K:Nat) (a0:cB) (a1:Int):bS Tryz.prog 187 [.c (.ptr 0 0 0),.c (.val (.int .i64 a1))] [cK.o a0] (bT (qX K a0 a1)) (fun r=>.agg (cA.cs r.1)) (fun r=>[cK.o r.2,cA.o r.1]):=(aKT K).1 a0 a1
theorem aGg (K:Nat) (a0:cB) (a1:cL) (a2:Int):bS Tryz.prog 189 [.c (.ptr 0 0 0),.agg [.val (.int .i64 a1.bP),.val (.int .i64 a1.fN),.str a1.cC,.str a1.wF,.nil],.c (.val (.int .i64 a2))] [cK.o a0] (bT (aBo K a0 a1 a2)) (fun r=>.agg (cA.cs r.1)) (fun r=>[cK.o r.2,cA.o r.1]):=(aKT K).2.1 a0 a1 a2
def aPb (K:Nat) (a0:cB):Option ((cJ × cB) ⊕ (cJ × cB)) :=
 ((bT (pJ K a0)).bind (fun r1=>(bL (bJ ((bT (fZ K r1.2 ([58,61]:Bytes))).bind (fun mI=>(if mI.1=true then ((bT (qX K mI.2 1)).bind (fun r17=>(some (.inr (r17.2,1,r1.1,[r17.1]))))) else ((bT (fZ K mI.2 ([63,61]:Bytes))).bind (fun r18=>(if r18.1=true then ((bT (qX K r18.2 1)).bind (fun r19=>(some (.inr (r19.2,3,r1.1,[r19.1]))))) else ((bT (fZ K r18.2 ([91]:Bytes))).bind (fun r20=>(if r20.1=true then ((bT (qX K r20.2 1)).bind (fun r21=>((bT (fI K r21.2 ([93]:Bytes))).bind (fun r22=>((bT (fI K r22 ([58,61]:Bytes))).bind (fun r23=>((bT (qX K r23 1)).bind (fun qF=>(some (.inr (qF.2,2,r1.1,[r21.1,qF.1]))))))))))) else ((cH true (bT (F73 K r20.2 ([46]:Bytes))) default).bind (fun r26=>(if r26=true then ((bT (aBo K r20.2 (⟨0,0,r1.1,([]:Bytes),[]⟩:cL) 1)).bind (fun r27=>(some (.inr (r27.2,4,([]:Bytes),[r27.1]))))) else ((bT (aAy K r20.2 3)).bind (fun r28=>(some (.inr (r28,0,r1.1,[])))))))))))))))))) (fun (wD:cB × Int × Bytes × (List cL))=>(some (.inl ((⟨wD.2.1,0,wD.2.2.1,wD.2.2.2,[],[]⟩:cJ),wD.1)))))))
theorem aR2 (K:Nat) (a0:cB):bS Tryz.prog 190 [.c (.ptr 0 0 0)] [cK.o a0] (bT (aPb K a0)) (fun r=>.agg (dJ.cs r.1)) (fun r=>[cK.o r.2,dJ.o r.1]):=by
 refine bS.it Tryz.f190 (fun r=>⟨[sP 2 1 0 0],[cK.o r.2,dJ.o r.1],[],1⟩) ?_
 unfold aPb
 exact Ref.pt (
  .call [0] (iM _ _) fun r1 =>
  .bk 0 (fun wD=>⟨[sP 2 1 0 0,sP 4 2 0 0],[cK.o wD.1,oI,.cells [iC wD.2.1,iC 0,.str wD.2.2.1,.own 3 wD.2.2.2.length,.nil,.nil],cA.row wD.2.2.2],[],1⟩) (
   .call [0] (dL _ _ _) fun mI =>
   .ite _ (
    .call [0] (mA _ _ _) fun r17 =>
    .ob 5 4 4 (x:=.row 195 5 1 (gY [(cA.cs r17.1)])) (y:=(cA.row [r17.1])) (El.bZ cA [r17.1] rfl (by kernel_rfl)) <|
    .sl 5 4 17 (x:=.c (.own 4 1)) (y:=(.c (.own 4 ([r17.1].length)))) (eA.c (dY.own (by first | (simp;done) | (simp;omega) | omega))) <|
    .nil [0,1,2,4] _) (
    .call [0] (dL _ _ _) fun r18 =>
    .ite _ (
     .call [0] (mA _ _ _) fun r19 =>
     .ob 7 4 4 (x:=.row 195 5 1 (gY [(cA.cs r19.1)])) (y:=(cA.row [r19.1])) (El.bZ cA [r19.1] rfl (by kernel_rfl)) <|
     .sl 7 4 25 (x:=.c (.own 4 1)) (y:=(.c (.own 4 ([r19.1].length)))) (eA.c (dY.own (by first | (simp;done) | (simp;omega) | omega))) <|
     .nil [0,1,2,4] _) (
     .call [0] (dL _ _ _) fun r20 =>
     .ite _ (
      .call [0] (mA _ _ _) fun r21 =>
      .call [0] (dG _ _ _) fun r22 =>
      .call [0] (dG _ _ _) fun r23 =>
      .esc [0,1,2,4] [(cd (bd Tryz.f190) [1,1,1,0,0,1,1,1,1,1,0,1,1,1,1])] ⟨[sP 0 0 0 0,sP 2 1 0 0,sP 4 2 0 0,sP 5 3 0 0,sP 36 0 0 0,(37,.iT [])],[cK.o r23,oI,.cells [iC 2,iC 0,.str r1.1,.nil,.nil,.nil],cA.o r21.1],[],1⟩ (by
       refine Ref.eH 13 (by kernel_rfl) (by kernel_rfl) ?_
       refine dN.eW (cR:=⟨[sP 2 1 0 0,sP 4 2 0 0,sP 5 3 0 0,sP 39 0 0 0],[cK.o r23,oI,.cells [iC 2,iC 0,.str r1.1,.nil,.nil,.nil],cA.o r21.1],[],1⟩) (fuel':=5) [1] [2,4,5,39] [0,1,2,3] rfl (by kernel_rfl) (by kernel_rfl) ?_
       refine dN.qB [2,5] ?_
       refine bO.iA (fun (qF:cL × cB)=>⟨[sP 2 1 0 0,sP 4 2 0 0],[cK.o qF.2,oI,.cells [iC 2,iC 0,.str r1.1,.own 3 ([r21.1,qF.1].length),.nil,.nil],cA.row [r21.1,qF.1]],[],1⟩) (fun (qF:cL × cB)=>(some (.inr (qF.2,2,r1.1,[r21.1,qF.1])))) (fun qF=>?_) (fun hk=>?_)
       ·
        exact Ref.pt (
         .nil [0,1,2,3] _)
       ·
        refine bO.iR (fuel':=4) [[],[(0,38)]] [(0,38)] [2,4,5,39] [0,1,2,3] ⟨[sP 2 1 0 0,sP 4 2 0 0,sP 5 3 0 0,(38,.agg (cA.cs r21.1)),sP 39 0 0 0],[cK.o r23,oI,.cells [iC 2,iC 0,.str r1.1,.nil,.nil,.nil],cA.o r21.1],[],1⟩ ?_
        refine cO.cM (fuel':=3) 2 ?_
        refine dB.cG (t:=40) 2 [0] rfl (by kernel_rfl) (mA K r23 1) (fun qF=>?_)
        refine cO.close ?_
        refine bO.mX (cR:=⟨[sP 2 1 0 0,sP 4 2 0 0,(41,.c (.own 3 2))],[cK.o qF.2,oI,.cells [iC 2,iC 0,.str r1.1,.nil,.nil,.nil],.row 195 5 2 (gY [(cA.cs r21.1),(cA.cs qF.1)])],[],1⟩) (fuel':=2) 3 [2,4,41] [0,1,2,5] rfl (by kernel_rfl) (by kernel_rfl) ?_
        refine bO.conv (Conv.ob 3 (cA.row [r21.1,qF.1]) (El.bZ cA [r21.1,qF.1] rfl (by kernel_rfl))) ?_
        refine bO.conv (Conv.sl 41 (.c (.own 3 ([r21.1,qF.1].length))) (eA.c (dY.own (by first | (simp;done) | (simp;omega) | omega)))) ?_
        refine bO.v0 (fuel':=1) [4] [2,4,41,42] [0,1,2,3] ?_
        refine bO.cM (fuel':=0) 5 (by kernel_rfl) ?_
        refine cF.w0 5 [2,4] [0,1,2,3] ?_
        refine bO.done (by kernel_rfl) ?_
        refine Ref.ck ⟨[sP 2 1 0 0,sP 4 2 0 0],[cK.o qF.2,oI,.cells [iC 2,iC 0,.str r1.1,.own 3 ([r21.1,qF.1].length),.nil,.nil],cA.row [r21.1,qF.1]],[],1⟩ [2,4] [0,1,2,3] ?_
        exact hk qF)) (
      .look (default:Bool) _ [0] (lF K r20.2 ([46]:Bytes)) (fun _=>rfl) fun r26 =>
      .ite _ (
       .call [0] (aGg _ _ _ _) fun r27 =>
       .ob 15 2 4 (x:=.row 195 5 1 (gY [(cA.cs r27.1)])) (y:=(cA.row [r27.1])) (El.bZ cA [r27.1] rfl (by kernel_rfl)) <|
       .sl 15 2 50 (x:=.c (.own 4 1)) (y:=(.c (.own 4 ([r27.1].length)))) (eA.c (dY.own (by first | (simp;done) | (simp;omega) | omega))) <|
       .nil [0,1,2,4] _) (
       .call [0] (oB _ _ _) fun r28 =>
       .adc 3 0 2 3 cA.ty cA.w (cA.at []) <|
       .nil [0,1,2,3] _))))) fun wD =>
  .fz 16 0 3 <|
  .ok 16 0 1 4 (x:=.nil) (y:=lH.tree []) (El.cN lH) <|
  .ok 16 0 1 5 (x:=.nil) (y:=iW.tree []) (El.cN iW) <|
  .ok 16 0 1 5 (x:=iW.tree []) (y:=mZ []) (xH _) <|
  .ret [0,1] _)
mutual
def xV:(K:Nat)→(cB)→(Int)→((List Bytes))→Option (((List cJ) × cB) ⊕ ((List cJ) × cB))
 | 0,_,_,_=>none
 | K+1,a0,a1,a2 =>
 (bL (if (decide ((a1:Int) > 6))=true then ((cH true (bT (aMx K a0)) default).bind (fun r69=>(bL (bJ ((iter K (fun (s6:Bool × Int)=>(bN (decide ((s6.2:Int)<(Int.ofNat a2.length))) (fun (aX3:Bool)=>(if aX3=true then (bL (bJ (bW [!(!s6.1) || cS s6.2 a2.length] ((cH (!s6.1) (bT (F73 K a0 (a2.getD (s6.2:Int).toNat default))) default).bind (fun aDN=>(bW [!(!(s6.1 || aDN)) || cS s6.2 a2.length] ((cH (((a2.getD (s6.2:Int).toNat default) == ([48]:Bytes)) && (!(s6.1 || aDN))) (bT (vE K a0 3)) default).bind (fun aMo=>((cH ((!aMo) && (((a2.getD (s6.2:Int).toNat default) == ([48]:Bytes)) && (!(s6.1 || aDN)))) (bT (F73 K a0 ([45]:Bytes))) default).bind (fun aX4=>(bN ((s6.1 || aDN) || (((a2.getD (s6.2:Int).toNat default) == ([48]:Bytes)) && (aMo || aX4))) (fun (aX5:Bool)=>(some (.inr (aX5)))))))))))))) (fun (aR3:Bool)=>(some (.inr (aR3,(IntKind.i64.wrap (s6.2+1))))))) else (some (.inl (Sum.inl (s6.1)))))))) (r69,0)).map .inl)) (fun (aI5:Bool)=>(if aI5=true then ((bT (aAy K a0 4)).bind (fun aX6=>(some (.inr (aX6))))) else (some (.inr (a0)))))))) else (some (.inr (a0)))) (fun (u68:cB)=>(bL (bJ ((iter K (fun (rP:cB × (List cJ))=>((cH true (bT (aMx K rP.1)) default).bind (fun aX7=>(if aX7=true then (bL (bJ ((bT (F74 K rP.1 (Int.ofNat rP.2.length) 24)).bind (fun aR4=>(if ((aR4.iL:Int) == 0)=true then ((bT (aMy K aR4 a1)).bind (fun aAA=>(bW [room ((rP.2.length+([aAA.1].length)) * 104)] (some (.inr (aAA.2,(rP.2++[aAA.1]))))))) else (some (.inr (aR4,rP.2))))))) (fun (aJn:cB × (List cJ))=>(some (.inr (aJn.1,aJn.2))))) else (some (.inl (Sum.inl (rP.1,rP.2)))))))) (u68,[])).map .inl)) (fun (aJo:cB × (List cJ))=>(some (.inl (aJo.2,aJo.1)))))))
def aMy:(K:Nat)→(cB)→(Int)→Option ((cJ × cB) ⊕ (cJ × cB))
 | 0,_,_=>none
 | K+1,a0,a1 =>
 (bL (bJ ((bT (fZ K a0 ([73,70]:Bytes))).bind (fun mO=>(if mO.1=true then ((bT (aMz K mO.2 a1)).bind (fun r41=>(some (.inr (r41.2,r41.1.bP,r41.1.fN,r41.1.cC,r41.1.cT,r41.1.eL,r41.1.bY))))) else ((bT (fZ K mO.2 ([67,65,83,69]:Bytes))).bind (fun r42=>(if r42.1=true then ((bT (aMA K r42.2 a1)).bind (fun qR=>(some (.inr (qR.2,qR.1.bP,qR.1.fN,qR.1.cC,qR.1.cT,qR.1.eL,qR.1.bY))))) else ((bT (fZ K r42.2 ([87,72,73,76,69]:Bytes))).bind (fun r44=>(if r44.1=true then ((bT (qX K r44.2 1)).bind (fun r45=>((bT (fI K r45.2 ([68,79]:Bytes))).bind (fun r46=>((bT (xV K r46 (IntKind.i64.wrap (a1+1)) ([[69,78,68,95,87,72,73,76,69]]:List Bytes))).bind (fun r47=>((bT (fI K r47.2 ([69,78,68,95,87,72,73,76,69]:Bytes))).bind (fun r48=>(some (.inr (r48,7,0,([]:Bytes),[r45.1],[],[r47.1]))))))))))) else ((bT (fZ K r44.2 ([70,79,82]:Bytes))).bind (fun r49=>(if r49.1=true then ((bT (pJ K r49.2)).bind (fun r50=>((bT (fI K r50.2 ([58,61]:Bytes))).bind (fun r51=>((bT (qX K r51 1)).bind (fun r52=>((bT (fI K r52.2 ([84,79]:Bytes))).bind (fun r53=>((bT (qX K r53 1)).bind (fun zL=>((bT (fI K zL.2 ([66,89]:Bytes))).bind (fun r56=>((bT (aEQ K r56)).bind (fun r57=>((bT (fI K r57.2 ([68,79]:Bytes))).bind (fun wH=>((bT (xV K wH (IntKind.i64.wrap (a1+1)) ([[69,78,68,95,70,79,82]]:List Bytes))).bind (fun r59=>((bT (fI K r59.2 ([69,78,68,95,70,79,82]:Bytes))).bind (fun r60=>(some (.inr (r60,8,r57.1,r50.1,[r52.1,zL.1],[],[r59.1]))))))))))))))))))))))) else ((bT (fZ K r49.2 ([82,69,84,85,82,78]:Bytes))).bind (fun r61=>(if r61.1=true then ((cH true (bT (aJk K r61.2)) default).bind (fun r62=>(if r62=true then ((bT (qX K r61.2 1)).bind (fun tP=>(some (.inr (tP.2,9,0,([]:Bytes),[tP.1],[],[]))))) else (some (.inr (r61.2,9,0,([]:Bytes),[],[],[])))))) else ((bT (fZ K r61.2 ([69,88,73,84]:Bytes))).bind (fun vC=>(if vC.1=true then (some (.inr (vC.2,10,0,([]:Bytes),[],[],[]))) else ((bT (fZ K vC.2 ([83,84,69,80]:Bytes))).bind (fun r65=>(if r65.1=true then ((bT (pJ K r65.2)).bind (fun r66=>((bT (fI K r66.2 ([40]:Bytes))).bind (fun l9=>((bT (qX K l9 1)).bind (fun r68=>((bT (fI K r68.2 ([44]:Bytes))).bind (fun r69=>((bT (qX K r69 1)).bind (fun r70=>((bT (fI K r70.2 ([41]:Bytes))).bind (fun r72=>(some (.inr (r72,11,0,r66.1,[r68.1,r70.1],[],[]))))))))))))))) else ((bT (fZ K r65.2 ([84,72,73,83]:Bytes))).bind (fun r73=>(if r73.1=true then ((bT (aBo K r73.2 (⟨0,1,([]:Bytes),([]:Bytes),[]⟩:cL) 1)).bind (fun r74=>(some (.inr (r74.2,4,0,([]:Bytes),[r74.1],[],[]))))) else ((bT (fZ K r73.2 ([83,85,80,69,82]:Bytes))).bind (fun r75=>(if r75.1=true then ((bT (aBo K r75.2 (⟨0,2,([]:Bytes),([]:Bytes),[]⟩:cL) 1)).bind (fun r76=>(some (.inr (r76.2,4,0,([]:Bytes),[r76.1],[],[]))))) else ((bT (aPb K r75.2)).bind (fun r77=>(some (.inr (r77.2,r77.1.bP,r77.1.fN,r77.1.cC,r77.1.cT,r77.1.eL,r77.1.bY))))))))))))))))))))))))))))))))) (fun (u39:cB × Int × Int × Bytes × (List cL) × (List (List Int)) × (List (List cJ)))=>((bT (fI K u39.1 ([59]:Bytes))).bind (fun r78=>(some (.inl ((⟨u39.2.1,u39.2.2.1,u39.2.2.2.1,u39.2.2.2.2.1,u39.2.2.2.2.2.1,u39.2.2.2.2.2.2⟩:cJ),r78)))))))
def aMz:(K:Nat)→(cB)→(Int)→Option ((cJ × cB) ⊕ (cJ × cB))
 | 0,_,_=>none
 | K+1,a0,a1 =>
 (bL (bJ ((iter K (fun (fH:cB × (List cL) × (List (List cJ)) × (List Bytes))=>(if ((fH.1.iL:Int) == 0)=true then (bL (bJ ((bT (qX K fH.1 1)).bind (fun iS=>(bW [room ((fH.2.1.length+([iS.1].length)) * 72)] ((bT (fI K iS.2 ([84,72,69,78]:Bytes))).bind (fun aDI=>((bT (xV K aDI (IntKind.i64.wrap (a1+1)) fH.2.2.2)).bind (fun jE=>(bW [room ((fH.2.2.1.length+([jE.1].length)) * 24)] ((cH true (bT (F73 K jE.2 ([69,76,83,73,70]:Bytes))) default).bind (fun aMB=>(if (!aMB)=true then (some (.inl (Sum.inr (Sum.inl (jE.2,(fH.2.1++[iS.1]),(fH.2.2.1++[jE.1])))))) else ((bT (F74 K jE.2 (Int.ofNat ((fH.2.1++[iS.1]).length)) 6)).bind (fun zD=>((bT (fI K zD ([69,76,83,73,70]:Bytes))).bind (fun aD7=>(some (.inr (aD7,(fH.2.1++[iS.1]),(fH.2.2.1++[jE.1])))))))))))))))))))) (fun (xU:cB × (List cL) × (List (List cJ)))=>(some (.inr (xU.1,xU.2.1,xU.2.2,fH.2.2.2))))) else (some (.inl (Sum.inl (fH.1,fH.2.1,fH.2.2.1)))))) (a0,[],[],[([69,76,83,73,70]:Bytes),([69,76,83,69]:Bytes),([69,78,68,95,73,70]:Bytes)])).map .inl)) (fun (rQ:cB × (List cL) × (List (List cJ)))=>((bT (aJq K rQ.1 a1 ([69,78,68,95,73,70]:Bytes))).bind (fun mE=>(bW [room ((rQ.2.2.length+([mE.1].length)) * 24)] ((bT (fI K mE.2 ([69,78,68,95,73,70]:Bytes))).bind (fun aR5=>(some (.inl ((⟨5,0,([]:Bytes),rQ.2.1,[],(rQ.2.2++[mE.1])⟩:cJ),aR5))))))))))
def aMA:(K:Nat)→(cB)→(Int)→Option ((cJ × cB) ⊕ (cJ × cB))
 | 0,_,_=>none
 | K+1,a0,a1 =>
 ((bT (qX K a0 1)).bind (fun r1=>((bT (fI K r1.2 ([79,70]:Bytes))).bind (fun r2=>(bL (bJ ((iter K (fun (eO:cB × (List (List Int)) × (List (List cJ)))=>((cH true (bT (vE K eO.1 3)) default).bind (fun aPc=>((cH (!aPc) (bT (F73 K eO.1 ([45]:Bytes))) default).bind (fun aTo=>(if (aPc || aTo)=true then (bL (bJ ((bT (F74 K eO.1 (Int.ofNat eO.2.1.length) 6)).bind (fun aTp=>(bL (bJ ((iter K (fun (j7:cB × (List Int))=>(if ((j7.1.iL:Int) == 0)=true then (bL (bJ ((cH true (bT (vE K j7.1 3)) default).bind (fun aPd=>((cH (!aPd) (bT (F73 K j7.1 ([45]:Bytes))) default).bind (fun aTq=>(bL (if (aPd || aTq)=true then ((bT (F74 K j7.1 (Int.ofNat j7.2.length) 8)).bind (fun aTr=>(some (.inr (aTr))))) else (some (.inr (j7.1)))) (fun (aKW:cB)=>((bT (aEQ K aKW)).bind (fun qY=>(bW [room ((j7.2.length+([qY.1].length)) * 8)] ((bT (fZ K qY.2 ([44]:Bytes))).bind (fun aKX=>(if (!aKX.1)=true then (some (.inl (Sum.inr (Sum.inl (aKX.2,(j7.2++[qY.1])))))) else (some (.inr (aKX.2,(j7.2++[qY.1]))))))))))))))))) (fun (aEa:cB × (List Int))=>(some (.inr (aEa.1,aEa.2))))) else (some (.inl (Sum.inl (j7.1,j7.2)))))) (aTp,[])).map .inl)) (fun (gS:cB × (List Int))=>((bT (fI K gS.1 ([58]:Bytes))).bind (fun aBZ=>(bW [room ((eO.2.1.length+([gS.2].length)) * 24)] ((bT (xV K aBZ (IntKind.i64.wrap (a1+1)) [([48]:Bytes),([69,76,83,69]:Bytes),([69,78,68,95,67,65,83,69]:Bytes)])).bind (fun jU=>(bW [room ((eO.2.2.length+([jU.1].length)) * 24)] (some (.inr (jU.2,(eO.2.1++[gS.2]),(eO.2.2++[jU.1]))))))))))))))) (fun (aAB:cB × (List (List Int)) × (List (List cJ)))=>(some (.inr (aAB.1,aAB.2.1,aAB.2.2))))) else (some (.inl (Sum.inl (eO.1,eO.2.1,eO.2.2)))))))))) (r2,[],[])).map .inl)) (fun (iF:cB × (List (List Int)) × (List (List cJ)))=>((bT (aJq K iF.1 a1 ([69,78,68,95,67,65,83,69]:Bytes))).bind (fun jA=>(bW [room ((iF.2.2.length+([jA.1].length)) * 24)] ((bT (fI K jA.2 ([69,78,68,95,67,65,83,69]:Bytes))).bind (fun aKY=>(some (.inl ((⟨6,0,([]:Bytes),[r1.1],iF.2.1,(iF.2.2++[jA.1])⟩:cJ),aKY))))))))))))))
def aJq:(K:Nat)→(cB)→(Int)→(Bytes)→Option (((List cJ) × cB) ⊕ ((List cJ) × cB))
 | 0,_,_,_=>none
 | K+1,a0,a1,a2 =>
 ((bT (fZ K a0 ([69,76,83,69]:Bytes))).bind (fun r1=>(if (!r1.1)=true then (some (.inl ([],r1.2))) else ((bT (xV K r1.2 (IntKind.i64.wrap (a1+1)) [a2])).bind (fun r2=>(some (.inl (r2.1,r2.2))))))))
end
abbrev eU (v0:Int):List (Nat × D):=[sP 0 0 0 0,sI 1 v0,sP 4 1 0 0,sP 5 2 0 0]
abbrev zE (v0:cB × (List cL) × (List (List cJ)) × (List Bytes)) (v1:cL × cB):List Go.Dl.Obj:=[oI,.cells [iC 5,iC 0,.str [],.own 3 ((v0.2.1++[v1.1]).length),.nil,.own 4 v0.2.2.1.length],cA.row (v0.2.1++[v1.1])]
abbrev j4:List (Nat × D):=[sP 0 0 0 0,sP 4 1 0 0,sP 5 2 0 0]
abbrev zF (v0:cB × (List cL) × (List (List cJ))):List Go.Dl.Obj:=[oI,.cells [iC 5,iC 0,.str [],.own 3 v0.2.1.length,.nil,.own 4 v0.2.2.length],cA.row v0.2.1]
abbrev aEb (v0:cB × (List cL) × (List (List cJ)) × (List Bytes)):List Go.Dl.Obj:=[oI,.cells [iC 5,iC 0,.str [],.own 3 v0.2.1.length,.nil,.own 4 v0.2.2.1.length],cA.row v0.2.1,iW.row v0.2.2.1]
abbrev qZ (v0:cB × (List (List Int)) × (List (List cJ))):List Go.Dl.Obj:=[lH.row v0.2.1,iW.row v0.2.2]
theorem aR6:∀ K:Nat,(∀ (a0:cB),∀ (a1:Int),∀ (a2:(List Bytes)),bS Tryz.prog 114 [.c (.ptr 0 0 0),.c (.val (.int .i64 a1)),.c (E9.tree a2)] [cK.o a0] (bT (xV K a0 a1 a2)) (fun r=>.c (dJ.tree r.1)) (fun r=>[cK.o r.2]))∧(∀ (a0:cB),∀ (a1:Int),bS Tryz.prog 143 [.c (.ptr 0 0 0),.c (.val (.int .i64 a1))] [cK.o a0] (bT (aMy K a0 a1)) (fun r=>.agg (dJ.cs r.1)) (fun r=>[cK.o r.2,dJ.o r.1]))∧(∀ (a0:cB),∀ (a1:Int),bS Tryz.prog 185 [.c (.ptr 0 0 0),.c (.val (.int .i64 a1))] [cK.o a0] (bT (aMz K a0 a1)) (fun r=>.agg (dJ.cs r.1)) (fun r=>[cK.o r.2,dJ.o r.1]))∧(∀ (a0:cB),∀ (a1:Int),bS Tryz.prog 186 [.c (.ptr 0 0 0),.c (.val (.int .i64 a1))] [cK.o a0] (bT (aMA K a0 a1)) (fun r=>.agg (dJ.cs r.1)) (fun r=>[cK.o r.2,dJ.o r.1]))∧(∀ (a0:cB),∀ (a1:Int),∀ (a2:Bytes),bS Tryz.prog 212 [.c (.ptr 0 0 0),.c (.val (.int .i64 a1)),.c (.str a2)] [cK.o a0] (bT (aJq K a0 a1 a2)) (fun r=>.c (dJ.tree r.1)) (fun r=>[cK.o r.2])):=by
 intro K
 induction K with
 | zero=>exact ⟨fun a0 a1 a2=>bS.none (by rw[xV];rfl),fun a0 a1=>bS.none (by rw[aMy];rfl),fun a0 a1=>bS.none (by rw[aMz];rfl),fun a0 a1=>bS.none (by rw[aMA];rfl),fun a0 a1 a2=>bS.none (by rw[aJq];rfl)⟩
 | succ K ih =>
  obtain ⟨aHF,aX8,aX9,aYa,aTs⟩:=ih
  refine ⟨?_,?_,?_,?_,?_⟩
  ·
   intro a0 a1 a2
   refine bS.it Tryz.f114 (fun r=>⟨[(6,.c (dJ.tree r.1))],[cK.o r.2],[],1⟩) ?_
   rw[xV]
   exact Ref.pt (
    .jn (fun u68=>⟨[sP 0 0 0 0,sI 1 a1],[cK.o u68],[],1⟩) (
     .ite _ (
      .look (default:Bool) _ [0] (aKR K a0) (fun _=>rfl) fun r69 =>
      .bk 0 (fun aI5=>⟨[sP 0 0 0 0,sI 1 a1,sB 7 aI5],[cK.o a0],[],1⟩) (
       .lp [0] (fun s6=>⟨[sP 0 0 0 0,sI 1 a1,(2,.c (E9.tree a2)),sB 7 s6.1,sI 8 s6.2],[cK.o a0],[],1⟩) fun s6 =>
       .lt _ fun aX3 =>
       .ite _ (
        .bk 1 (fun aR3=>⟨[sP 0 0 0 0,sI 1 a1,(2,.c (E9.tree a2)),sB 7 aR3,sI 8 s6.2],[cK.o a0],[],1⟩) (
         .ck _ <|
         .look (default:Bool) _ [0] (lF K a0 (a2.getD (s6.2:Int).toNat default)) (fun _=>rfl) fun aDN =>
         .ck _ <|
         .look (default:Bool) _ [0] (lN K a0 3) (fun _=>rfl) fun aMo =>
         .look (default:Bool) _ [0] (lF K a0 uN) (fun _=>rfl) fun aX4 =>
         .lt _ fun aX5 =>
         .nil [0] _) fun aR3 =>
        .nil [0] _) (
        .ret [0] _)) fun aI5 =>
      .ite _ (
       .call [0] (oB _ _ _) fun aX6 =>
       .nil [0] _) (
       .nil [0] _)) (
      .nil [0] _)) fun u68 =>
    .bk 2 (fun aJo=>⟨[(9,.c (.own 1 aJo.2.length))],[cK.o aJo.1,dJ.row aJo.2],[],1⟩) (
     .ad 9 0 9 dJ.ty dJ.w (dJ.at []) <|
     .lp [0,1] (fun rP=>⟨[sP 0 0 0 0,sI 1 a1,(9,.c (.own 1 rP.2.length))],[cK.o rP.1,dJ.row rP.2],[],1⟩) fun rP =>
     .look (default:Bool) _ [0] (aKR K rP.1) (fun _=>rfl) fun aX7 =>
     .ite _ (
      .bk 3 (fun aJn=>⟨[sP 0 0 0 0,sI 1 a1,(9,.c (.own 1 aJn.2.length))],[cK.o aJn.1,dJ.row aJn.2],[],1⟩) (
       .call [0] (qV _ _ _ _) fun aR4 =>
       .ite _ (
        .call [0] (aX8 _ _) fun aAA =>
        .ob 13 2 3 (x:=.row 179 6 1 (gY [(dJ.cs aAA.1)])) (y:=(dJ.row [aAA.1])) (El.bZ dJ [aAA.1] rfl (by kernel_rfl)) <|
        .sl 13 2 62 (x:=.c (.own 3 1)) (y:=(.c (.own 3 ([aAA.1].length)))) (eA.c (dY.own (by first | (simp;done) | (simp;omega) | omega))) <|
        .ck _ <|
        .ob 13 1 4 (x:=.row 179 6 (rP.2.length+([aAA.1].length)) fun i j=>bif Nat.blt i rP.2.length then dJ.at rP.2 i j else (dJ.at [aAA.1]) (i - rP.2.length) j) (y:=(dJ.row (rP.2++[aAA.1]))) (El.cI dJ rP.2 [aAA.1] rfl rfl) <|
        .sl 13 1 63 (x:=.c (.own 4 (rP.2.length+([aAA.1].length)))) (y:=(.c (.own 4 ((rP.2++[aAA.1]).length)))) (eA.c (dY.own (by first | (simp;done) | (simp;omega) | omega))) <|
        .nil [0,4] _) (
        .nil [0,1] _)) fun aJn =>
      .nil [0,1] _) (
      .ret [0,1] _)) fun aJo =>
    .fz 14 0 1 <|
    .ret [0] _)
  ·
   intro a0 a1
   refine bS.it Tryz.f143 (fun r=>⟨[sP 4 1 0 0],[cK.o r.2,dJ.o r.1],[],1⟩) ?_
   rw[aMy]
   exact Ref.pt (
    .bk 0 (fun u39=>⟨j4,[cK.o u39.1,oI,.cells [iC u39.2.1,iC u39.2.2.1,.str u39.2.2.2.1,cA.tree u39.2.2.2.2.1,lH.tree u39.2.2.2.2.2.1,iW.tree u39.2.2.2.2.2.2]],[],1⟩) (
     .call [0] (dL _ _ _) fun mO =>
     .ite _ (
      .call [0] (aX9 _ _) fun r41 =>
      .ob 4 0 2 (x:=dJ.o r41.1) (y:=(.cells [iC r41.1.bP,iC r41.1.fN,.str r41.1.cC,cA.tree r41.1.cT,lH.tree r41.1.eL,iW.tree r41.1.bY])) (OLe.cells (hG.cons (dY.refl _) (hG.cons (dY.refl _) (hG.cons (dY.refl _) (hG.cons (dY.refl _) (hG.cons (dY.refl _) (hG.cons (kS _) (hG.nil)))))))) <|
      .nil [0,1,2] _) (
      .call [0] (dL _ _ _) fun r42 =>
      .ite _ (
       .call [0] (aYa _ _) fun qR =>
       .ob 6 0 2 (x:=dJ.o qR.1) (y:=(.cells [iC qR.1.bP,iC qR.1.fN,.str qR.1.cC,cA.tree qR.1.cT,lH.tree qR.1.eL,iW.tree qR.1.bY])) (OLe.cells (hG.cons (dY.refl _) (hG.cons (dY.refl _) (hG.cons (dY.refl _) (hG.cons (dY.refl _) (hG.cons (dY.refl _) (hG.cons (kS _) (hG.nil)))))))) <|
       .nil [0,1,2] _) (
       .call [0] (dL _ _ _) fun r44 =>
       .ite _ (
        .call [0] (mA _ _ _) fun r45 =>
        .ob 9 2 4 (x:=.row 195 5 1 (gY [(cA.cs r45.1)])) (y:=(cA.row [r45.1])) (El.bZ cA [r45.1] rfl (by kernel_rfl)) <|
        .sl 9 2 29 (x:=.c (.own 4 1)) (y:=(.c (.own 4 ([r45.1].length)))) (eA.c (dY.own (by first | (simp;done) | (simp;omega) | omega))) <|
        .call [0] (dG _ _ _) fun r46 =>
        .aEK [0,1,2,4] 11 (rg (cd (bd Tryz.f143) [1,1,0,0,1,1,1,1,1,0,1,1,1,0])) ((rg (cd (bd Tryz.f143) [1,1,0,0,1,1,1,1,1,0,1,1,1,0])).toList.drop 3) [(cd (bd Tryz.f143) [1,1,0,0,1,1,1,1,1,0,1,1,1,1])] ⟨j4++[sP 33 0 0 0,sI 35 (IntKind.i64.wrap (a1+1))],[cK.o r46,oI,.cells [iC 7,iC 0,.str [],.own 3 ([r45.1].length),.nil,.nil],cA.row [r45.1]],[],1⟩ (by
         refine c6.li 36 [] E9 ([[69,78,68,95,87,72,73,76,69]]:List Bytes) 3 4 ?_
         exact c6.pt (id:=11) (
          .call [0] (aHF _ _ _) fun r47 =>
          .ob 11 2 5 (x:=.row 33 1 1 (gY [[dJ.tree r47.1]])) (y:=(iW.row [r47.1])) (El.bZ iW [r47.1] rfl (by kernel_rfl)) <|
          .sl 11 2 38 (x:=.c (.own 5 1)) (y:=(.c (.own 5 ([r47.1].length)))) (eA.c (dY.own (by first | (simp;done) | (simp;omega) | omega))) <|
          .call [0] (dG _ _ _) fun r48 =>
          .fz 12 0 3 <|
          .ok 12 0 2 4 (x:=.nil) (y:=lH.tree []) (El.cN lH) <|
          .fz 12 0 5 <|
          .nil [0,1,2] _))) (
        .call [0] (dL _ _ _) fun r49 =>
        .ite _ (
         .call [0] (iM _ _) fun r50 =>
         .call [0] (dG _ _ _) fun r51 =>
         .call [0] (mA _ _ _) fun r52 =>
         .call [0] (dG _ _ _) fun r53 =>
         .esc [0,1,2,4] [(cd (bd Tryz.f143) [1,1,0,0,1,1,1,1,1,1,1,0,1,1,1,1,0]),(cd (bd Tryz.f143) [1,1,0,0,1,1,1,1,1,1,1,0,1,1,1,1,1])] ⟨eU a1++[sP 6 3 0 0,sP 53 0 0 0,(54,.iT [])],[cK.o r53,oI,.cells [iC 8,iC 0,.str r50.1,.nil,.nil,.nil],cA.o r52.1],[],1⟩ (by
          refine Ref.eH 18 (by kernel_rfl) (by kernel_rfl) ?_
          refine dN.eW (cR:=⟨eU a1++[sP 6 3 0 0,sP 56 0 0 0],[cK.o r53,oI,.cells [iC 8,iC 0,.str r50.1,.nil,.nil,.nil],cA.o r52.1],[],1⟩) (fuel':=5) [1] [0,1,4,5,6,56] [0,1,2,3] rfl (by kernel_rfl) (by kernel_rfl) ?_
          refine dN.qB [2,5] ?_
          refine bO.iA (fun (zL:cL × cB)=>⟨eU a1,[cK.o zL.2,oI,.cells [iC 8,iC 0,.str r50.1,.own 3 ([r52.1,zL.1].length),.nil,.nil],cA.row [r52.1,zL.1]],[],1⟩) (fun (zL:cL × cB)=>((bT (fI K zL.2 ([66,89]:Bytes))).bind (fun r56=>((bT (aEQ K r56)).bind (fun r57=>((bT (fI K r57.2 ([68,79]:Bytes))).bind (fun wH=>((bT (xV K wH (IntKind.i64.wrap (a1+1)) ([[69,78,68,95,70,79,82]]:List Bytes))).bind (fun r59=>((bT (fI K r59.2 ([69,78,68,95,70,79,82]:Bytes))).bind (fun r60=>(some (.inr (r60,8,r57.1,r50.1,[r52.1,zL.1],[],[r59.1])))))))))))))) (fun zL=>?_) (fun hk=>?_)
          ·
           exact Ref.pt (
            .call [0] (dG _ _ _) fun r56 =>
            .call [0] (aAz _ _) fun r57 =>
            .call [0] (dG _ _ _) fun wH =>
            .aEK [0,1,2,3] 22 (rg (cd (bd Tryz.f143) [1,1,0,0,1,1,1,1,1,1,1,0,1,1,1,1,1,1,1,1,0])) ((rg (cd (bd Tryz.f143) [1,1,0,0,1,1,1,1,1,1,1,0,1,1,1,1,1,1,1,1,0])).toList.drop 3) [(cd (bd Tryz.f143) [1,1,0,0,1,1,1,1,1,1,1,0,1,1,1,1,1,1,1,1,1])] ⟨j4++[sP 67 0 0 0,sI 69 (IntKind.i64.wrap (a1+1))],[cK.o wH,oI,.cells [iC 8,iC r57.1,.str r50.1,.own 3 ([r52.1,zL.1].length),.nil,.nil],cA.row [r52.1,zL.1]],[],1⟩ (by
             refine c6.li 70 [] E9 ([[69,78,68,95,70,79,82]]:List Bytes) 3 4 ?_
             exact c6.pt (id:=22) (
              .call [0] (aHF _ _ _) fun r59 =>
              .ob 22 2 5 (x:=.row 33 1 1 (gY [[dJ.tree r59.1]])) (y:=(iW.row [r59.1])) (El.bZ iW [r59.1] rfl (by kernel_rfl)) <|
              .sl 22 2 72 (x:=.c (.own 5 1)) (y:=(.c (.own 5 ([r59.1].length)))) (eA.c (dY.own (by first | (simp;done) | (simp;omega) | omega))) <|
              .call [0] (dG _ _ _) fun r60 =>
              .fz 23 0 3 <|
              .ok 23 0 2 4 (x:=.nil) (y:=lH.tree []) (El.cN lH) <|
              .fz 23 0 5 <|
              .nil [0,1,2] _)))
          ·
           refine bO.iR (fuel':=4) [[],[(0,55)]] [(0,55)] [0,1,4,5,6,56] [0,1,2,3] ⟨eU a1++[sP 6 3 0 0,(55,.agg (cA.cs r52.1)),sP 56 0 0 0],[cK.o r53,oI,.cells [iC 8,iC 0,.str r50.1,.nil,.nil,.nil],cA.o r52.1],[],1⟩ ?_
           refine cO.cM (fuel':=3) 2 ?_
           refine dB.cG (t:=57) 2 [0] rfl (by kernel_rfl) (mA K r53 1) (fun zL=>?_)
           refine cO.close ?_
           refine bO.mX (cR:=⟨eU a1++[(58,.c (.own 3 2))],[cK.o zL.2,oI,.cells [iC 8,iC 0,.str r50.1,.nil,.nil,.nil],.row 195 5 2 (gY [(cA.cs r52.1),(cA.cs zL.1)])],[],1⟩) (fuel':=2) 3 [0,1,4,5,58] [0,1,2,5] rfl (by kernel_rfl) (by kernel_rfl) ?_
           refine bO.conv (Conv.ob 3 (cA.row [r52.1,zL.1]) (El.bZ cA [r52.1,zL.1] rfl (by kernel_rfl))) ?_
           refine bO.conv (Conv.sl 58 (.c (.own 3 ([r52.1,zL.1].length))) (eA.c (dY.own (by first | (simp;done) | (simp;omega) | omega)))) ?_
           refine bO.v0 (fuel':=1) [4] [0,1,4,5,58,59] [0,1,2,3] ?_
           refine bO.cM (fuel':=0) 5 (by kernel_rfl) ?_
           refine cF.w0 5 [0,1,4,5] [0,1,2,3] ?_
           refine bO.done (by kernel_rfl) ?_
           refine Ref.ck ⟨eU a1,[cK.o zL.2,oI,.cells [iC 8,iC 0,.str r50.1,.own 3 ([r52.1,zL.1].length),.nil,.nil],cA.row [r52.1,zL.1]],[],1⟩ [0,1,4,5] [0,1,2,3] ?_
           exact hk zL)) (
         .call [0] (dL _ _ _) fun r61 =>
         .ite _ (
          .look (default:Bool) _ [0] (aGe K r61.2) (fun _=>rfl) fun r62 =>
          .ite _ (
           .call [0] (mA _ _ _) fun tP =>
           .ob 27 2 4 (x:=.row 195 5 1 (gY [(cA.cs tP.1)])) (y:=(cA.row [tP.1])) (El.bZ cA [tP.1] rfl (by kernel_rfl)) <|
           .sl 27 2 84 (x:=.c (.own 4 1)) (y:=(.c (.own 4 ([tP.1].length)))) (eA.c (dY.own (by first | (simp;done) | (simp;omega) | omega))) <|
           .fz 27 0 4 <|
           .ok 27 0 2 4 (x:=.nil) (y:=lH.tree []) (El.cN lH) <|
           .ok 27 0 2 5 (x:=.nil) (y:=iW.tree []) (El.cN iW) <|
           .nil [0,1,2] _) (
           .ok 26 0 2 3 (x:=.nil) (y:=cA.tree []) (El.cN cA) <|
           .ok 26 0 2 4 (x:=.nil) (y:=lH.tree []) (El.cN lH) <|
           .ok 26 0 2 5 (x:=.nil) (y:=iW.tree []) (El.cN iW) <|
           .nil [0,1,2] _)) (
          .call [0] (dL _ _ _) fun vC =>
          .ite _ (
           .ok 29 0 2 3 (x:=.nil) (y:=cA.tree []) (El.cN cA) <|
           .ok 29 0 2 4 (x:=.nil) (y:=lH.tree []) (El.cN lH) <|
           .ok 29 0 2 5 (x:=.nil) (y:=iW.tree []) (El.cN iW) <|
           .nil [0,1,2] _) (
           .call [0] (dL _ _ _) fun r65 =>
           .ite _ (
            .call [0] (iM _ _) fun r66 =>
            .call [0] (dG _ _ _) fun l9 =>
            .call [0] (mA _ _ _) fun r68 =>
            .call [0] (dG _ _ _) fun r69 =>
            .esc [0,1,2,4] [(cd (bd Tryz.f143) [1,1,0,0,1,1,1,1,1,1,1,1,1,1,1,1,1,0,1,1,1,1,0]),(cd (bd Tryz.f143) [1,1,0,0,1,1,1,1,1,1,1,1,1,1,1,1,1,0,1,1,1,1,1])] ⟨j4++[sP 7 3 0 0,sP 101 0 0 0,(102,.iT [])],[cK.o r69,oI,.cells [iC 11,iC 0,.str r66.1,.nil,.nil,.nil],cA.o r68.1],[],1⟩ (by
             refine Ref.eH 35 (by kernel_rfl) (by kernel_rfl) ?_
             refine dN.eW (cR:=⟨j4++[sP 7 3 0 0,sP 104 0 0 0],[cK.o r69,oI,.cells [iC 11,iC 0,.str r66.1,.nil,.nil,.nil],cA.o r68.1],[],1⟩) (fuel':=5) [1] [0,4,5,7,104] [0,1,2,3] rfl (by kernel_rfl) (by kernel_rfl) ?_
             refine dN.qB [2,5] ?_
             refine bO.iA (fun (r70:cL × cB)=>⟨j4,[cK.o r70.2,oI,.cells [iC 11,iC 0,.str r66.1,.own 3 ([r68.1,r70.1].length),.nil,.nil],cA.row [r68.1,r70.1]],[],1⟩) (fun (r70:cL × cB)=>((bT (fI K r70.2 ([41]:Bytes))).bind (fun r72=>(some (.inr (r72,11,0,r66.1,[r68.1,r70.1],[],[])))))) (fun r70=>?_) (fun hk=>?_)
             ·
              exact Ref.pt (
               .call [0] (dG _ _ _) fun r72 =>
               .fz 36 0 3 <|
               .ok 36 0 2 4 (x:=.nil) (y:=lH.tree []) (El.cN lH) <|
               .ok 36 0 2 5 (x:=.nil) (y:=iW.tree []) (El.cN iW) <|
               .nil [0,1,2] _)
             ·
              refine bO.iR (fuel':=4) [[],[(0,103)]] [(0,103)] [0,4,5,7,104] [0,1,2,3] ⟨j4++[sP 7 3 0 0,(103,.agg (cA.cs r68.1)),sP 104 0 0 0],[cK.o r69,oI,.cells [iC 11,iC 0,.str r66.1,.nil,.nil,.nil],cA.o r68.1],[],1⟩ ?_
              refine cO.cM (fuel':=3) 2 ?_
              refine dB.cG (t:=105) 2 [0] rfl (by kernel_rfl) (mA K r69 1) (fun r70=>?_)
              refine cO.close ?_
              refine bO.mX (cR:=⟨j4++[(106,.c (.own 3 2))],[cK.o r70.2,oI,.cells [iC 11,iC 0,.str r66.1,.nil,.nil,.nil],.row 195 5 2 (gY [(cA.cs r68.1),(cA.cs r70.1)])],[],1⟩) (fuel':=2) 3 [0,4,5,106] [0,1,2,5] rfl (by kernel_rfl) (by kernel_rfl) ?_
              refine bO.conv (Conv.ob 3 (cA.row [r68.1,r70.1]) (El.bZ cA [r68.1,r70.1] rfl (by kernel_rfl))) ?_
              refine bO.conv (Conv.sl 106 (.c (.own 3 ([r68.1,r70.1].length))) (eA.c (dY.own (by first | (simp;done) | (simp;omega) | omega)))) ?_
              refine bO.v0 (fuel':=1) [4] [0,4,5,106,107] [0,1,2,3] ?_
              refine bO.cM (fuel':=0) 5 (by kernel_rfl) ?_
              refine cF.w0 5 [0,4,5] [0,1,2,3] ?_
              refine bO.done (by kernel_rfl) ?_
              refine Ref.ck ⟨j4,[cK.o r70.2,oI,.cells [iC 11,iC 0,.str r66.1,.own 3 ([r68.1,r70.1].length),.nil,.nil],cA.row [r68.1,r70.1]],[],1⟩ [0,4,5] [0,1,2,3] ?_
              exact hk r70)) (
            .call [0] (dL _ _ _) fun r73 =>
            .ite _ (
             .call [0] (aGg _ _ _ _) fun r74 =>
             .ob 38 4 4 (x:=.row 195 5 1 (gY [(cA.cs r74.1)])) (y:=(cA.row [r74.1])) (El.bZ cA [r74.1] rfl (by kernel_rfl)) <|
             .sl 38 4 116 (x:=.c (.own 4 1)) (y:=(.c (.own 4 ([r74.1].length)))) (eA.c (dY.own (by first | (simp;done) | (simp;omega) | omega))) <|
             .fz 38 0 4 <|
             .ok 38 0 2 4 (x:=.nil) (y:=lH.tree []) (El.cN lH) <|
             .ok 38 0 2 5 (x:=.nil) (y:=iW.tree []) (El.cN iW) <|
             .nil [0,1,2] _) (
             .call [0] (dL _ _ _) fun r75 =>
             .ite _ (
              .call [0] (aGg _ _ _ _) fun r76 =>
              .ob 40 4 4 (x:=.row 195 5 1 (gY [(cA.cs r76.1)])) (y:=(cA.row [r76.1])) (El.bZ cA [r76.1] rfl (by kernel_rfl)) <|
              .sl 40 4 125 (x:=.c (.own 4 1)) (y:=(.c (.own 4 ([r76.1].length)))) (eA.c (dY.own (by first | (simp;done) | (simp;omega) | omega))) <|
              .fz 40 0 4 <|
              .ok 40 0 2 4 (x:=.nil) (y:=lH.tree []) (El.cN lH) <|
              .ok 40 0 2 5 (x:=.nil) (y:=iW.tree []) (El.cN iW) <|
              .nil [0,1,2] _) (
              .call [0] (aR2 _ _) fun r77 =>
              .ob 2 0 2 (x:=dJ.o r77.1) (y:=(.cells [iC r77.1.bP,iC r77.1.fN,.str r77.1.cC,cA.tree r77.1.cT,lH.tree r77.1.eL,iW.tree r77.1.bY])) (OLe.cells (hG.cons (dY.refl _) (hG.cons (dY.refl _) (hG.cons (dY.refl _) (hG.cons (dY.refl _) (hG.cons (dY.refl _) (hG.cons (kS _) (hG.nil)))))))) <|
              .nil [0,1,2] _)))))))))) fun u39 =>
    .call [0] (dG _ _ _) fun r78 =>
    .ok 42 0 1 5 (x:=iW.tree u39.2.2.2.2.2.2) (y:=mZ u39.2.2.2.2.2.2) (xH _) <|
    .ret [0,1] _)
  ·
   intro a0 a1
   refine bS.it Tryz.f185 (fun r=>⟨[sP 4 1 0 0],[cK.o r.2,dJ.o r.1],[],1⟩) ?_
   rw[aMz]
   exact Ref.pt (
    .ob 2 1 3 (x:=.row 9 1 3 (gY [[.str uO],[.str yG],[.str xI]])) (y:=(E9.row [uO,yG,xI])) (El.bZ E9 [uO,yG,xI] rfl (by kernel_rfl)) <|
    .sl 2 1 8 (x:=.c (.own 3 3)) (y:=(.c (.own 3 ([uO,yG,xI].length)))) (eA.c (dY.own (by first | (simp;done) | (simp;omega) | omega))) <|
    .bk 0 (fun rQ=>⟨eU a1,cK.o rQ.1::(zF rQ++[iW.row rQ.2.2]),[],1⟩) (
     .fz 2 0 3 <|
     .adc 2 0 2 3 cA.ty cA.w (cA.at []) <|
     .adc 2 0 2 5 iW.ty iW.w (iW.at []) <|
     .lp [0,1,2,4,5] (fun fH=>⟨eU a1++[(6,.c (E9.tree fH.2.2.2))],cK.o fH.1::aEb fH,[],1⟩) fun fH =>
     .ite _ (
      .bk 1 (fun xU=>⟨eU a1++[(6,.c (E9.tree fH.2.2.2))],cK.o xU.1::(zF xU++[iW.row xU.2.2]),[],1⟩) (
       .esc [0,1,2,3,4] [(cd (bd Tryz.f185) [1,1,1,0,0,0,1,0,0]),(cd (bd Tryz.f185) [1,1,1,0,0,0,1,0,1])] ⟨eU a1++[(6,.c (E9.tree fH.2.2.2)),sB 13 ((fH.1.iL:Int) == 0)],cK.o fH.1::aEb fH,[],1⟩ (by
        refine Ref.eH 4 (by kernel_rfl) (by kernel_rfl) ?_
        refine dN.eW (cR:=⟨eU a1++[(6,.c (E9.tree fH.2.2.2)),sP 14 2 0 3,sP 16 0 0 0],cK.o fH.1::aEb fH,[],1⟩) (fuel':=6) [0,2] [0,1,4,5,6,14,16] [0,1,2,3,4] rfl (by kernel_rfl) (by kernel_rfl) ?_
        refine dN.qB [3,5,7] ?_
        refine bO.iA (fun (iS:cL × cB)=>⟨eU a1++[(6,.c (E9.tree fH.2.2.2))],cK.o iS.2::(zE fH iS++[iW.row fH.2.2.1]),[],1⟩) (fun (iS:cL × cB)=>((bT (fI K iS.2 ([84,72,69,78]:Bytes))).bind (fun aDI=>((bT (xV K aDI (IntKind.i64.wrap (a1+1)) fH.2.2.2)).bind (fun jE=>(bW [room ((fH.2.2.1.length+([jE.1].length)) * 24)] ((cH true (bT (F73 K jE.2 uO)) default).bind (fun aMB=>(if (!aMB)=true then (some (.inl (Sum.inr (Sum.inl (jE.2,(fH.2.1++[iS.1]),(fH.2.2.1++[jE.1])))))) else ((bT (F74 K jE.2 (Int.ofNat ((fH.2.1++[iS.1]).length)) 6)).bind (fun zD=>((bT (fI K zD uO)).bind (fun aD7=>(some (.inr (aD7,(fH.2.1++[iS.1]),(fH.2.2.1++[jE.1]))))))))))))))))) (fun iS=>?_) (fun hk=>?_)
        ·
         exact Ref.pt (
          .call [0] (dG _ _ _) fun aDI =>
          .esc [0,1,2,3,4] [(cd (bd Tryz.f185) [1,1,1,0,0,0,1,0,1,1,0]),(cd (bd Tryz.f185) [1,1,1,0,0,0,1,0,1,1,1])] ⟨eU a1++[(6,.c (E9.tree fH.2.2.2)),sP 21 0 0 0,(22,.iT [])],cK.o aDI::(zE fH iS++[iW.row fH.2.2.1]),[],1⟩ (by
           refine Ref.eH 6 (by kernel_rfl) (by kernel_rfl) ?_
           refine dN.eW (cR:=⟨eU a1++[(6,.c (E9.tree fH.2.2.2)),sP 23 2 0 5,sP 25 0 0 0,sI 27 (IntKind.i64.wrap (a1+1)),(28,.c (E9.tree fH.2.2.2))],cK.o aDI::(zE fH iS++[iW.row fH.2.2.1]),[],1⟩) (fuel':=6) [0,2,3,4,5] [0,1,4,5,6,23,25,27,28] [0,1,2,3,4] rfl (by kernel_rfl) (by kernel_rfl) ?_
           refine dN.qB [6,8,10] ?_
           refine bO.iA (fun (jE:(List cJ) × cB)=>⟨eU a1++[(6,.c (E9.tree fH.2.2.2))],[cK.o jE.2,oI,.cells [iC 5,iC 0,.str [],.own 3 ((fH.2.1++[iS.1]).length),.nil,.own 4 ((fH.2.2.1++[jE.1]).length)],cA.row (fH.2.1++[iS.1]),iW.row (fH.2.2.1++[jE.1])],[],1⟩) (fun (jE:(List cJ) × cB)=>((cH true (bT (F73 K jE.2 uO)) default).bind (fun aMB=>(if (!aMB)=true then (some (.inl (Sum.inr (Sum.inl (jE.2,(fH.2.1++[iS.1]),(fH.2.2.1++[jE.1])))))) else ((bT (F74 K jE.2 (Int.ofNat ((fH.2.1++[iS.1]).length)) 6)).bind (fun zD=>((bT (fI K zD uO)).bind (fun aD7=>(some (.inr (aD7,(fH.2.1++[iS.1]),(fH.2.2.1++[jE.1])))))))))))) (fun jE=>?_) (fun hk=>?_)
           ·
            exact Ref.pt (
             .look (default:Bool) _ [0] (lF K jE.2 uO) (fun _=>rfl) fun aMB =>
             .ite _ (
              .ret [0,1,2,3,4] _) (
              .call [0] (qV _ _ _ _) fun zD =>
              .call [0] (dG _ _ _) fun aD7 =>
              .nil [0,1,2,3,4] _))
           ·
            refine bO.iR (fuel':=5) [[],[(1,24)]] [(1,24)] [0,1,4,5,6,23,25,27,28] [0,1,2,3,4] ⟨eU a1++[(6,.c (E9.tree fH.2.2.2)),sP 23 2 0 5,(24,.c (.own 4 fH.2.2.1.length)),sP 25 0 0 0,sI 27 (IntKind.i64.wrap (a1+1)),(28,.c (E9.tree fH.2.2.2))],cK.o aDI::(zE fH iS++[iW.row fH.2.2.1]),[],1⟩ ?_
            refine cO.cM (fuel':=4) 6 ?_
            refine dB.cG (t:=29) 6 [0] rfl (by kernel_rfl) (aHF aDI (IntKind.i64.wrap (a1+1)) fH.2.2.2) (fun jE=>?_)
            refine cO.cM (fuel':=3) 7 ?_
            refine dB.iY (cR:=⟨eU a1++[(6,.c (E9.tree fH.2.2.2)),sP 23 2 0 5,(24,.c (.own 4 fH.2.2.1.length)),(30,.c (.own 5 1))],cK.o jE.2::(zE fH iS++[iW.row fH.2.2.1,.row 33 1 1 (gY [[dJ.tree jE.1]])]),[],1⟩) 7 [0,1,4,5,6,23,24,30] [0,1,2,3,4,5] (by kernel_rfl) (by kernel_rfl) ?_
            refine cO.conv (jQ.obj 5 (iW.row [jE.1]) (El.bZ iW [jE.1] rfl (by kernel_rfl)) (by kernel_rfl)) ?_
            refine cO.conv (jQ.slot 30 (.c (.own 5 ([jE.1].length))) (eA.c (dY.own (by first | (simp;done) | (simp;omega) | omega))) (by kernel_rfl)) ?_
            refine cO.close ?_
            refine bO.cM (fuel':=2) 8 (by kernel_rfl) ?_
            refine cF.writes (vs:=[room ((fH.2.2.1.length+([jE.1].length)) * 24)]) (cR:=⟨eU a1++[(6,.c (E9.tree fH.2.2.2)),(31,.c (.own 5 (fH.2.2.1.length+([jE.1].length))))],cK.o jE.2::(zE fH iS++[.dead,.row 33 1 (fH.2.2.1.length+([jE.1].length)) fun i j=>bif Nat.blt i fH.2.2.1.length then iW.at fH.2.2.1 i j else (iW.at [jE.1]) (i - fH.2.2.1.length) j]),[],1⟩) 8 [0,1,4,5,6,31] [0,1,2,3,4,6] (by kernel_rfl) (by kernel_rfl) ?_
            refine bO.conv (Conv.ob 5 (iW.row (fH.2.2.1++[jE.1])) (El.cI iW fH.2.2.1 [jE.1] rfl rfl)) ?_
            refine bO.conv (Conv.sl 31 (.c (.own 5 ((fH.2.2.1++[jE.1]).length))) (eA.c (dY.own (by first | (simp;done) | (simp;omega) | omega)))) ?_
            refine bO.v0 (fuel':=1) [9] [0,1,4,5,6,31,32] [0,1,2,3,4,5] ?_
            refine bO.cM (fuel':=0) 10 (by kernel_rfl) ?_
            refine cF.w0 10 [0,1,4,5,6] [0,1,2,3,5] ?_
            refine bO.done (by kernel_rfl) ?_
            refine Ref.ck ⟨eU a1++[(6,.c (E9.tree fH.2.2.2))],[cK.o jE.2,oI,.cells [iC 5,iC 0,.str [],.own 3 ((fH.2.1++[iS.1]).length),.nil,.own 4 ((fH.2.2.1++[jE.1]).length)],cA.row (fH.2.1++[iS.1]),iW.row (fH.2.2.1++[jE.1])],[],1⟩ [0,1,4,5,6] [0,1,2,3,4] ?_
            exact hk jE))
        ·
         refine bO.iR (fuel':=5) [[],[(1,15)]] [(1,15)] [0,1,4,5,6,14,16] [0,1,2,3,4] ⟨eU a1++[(6,.c (E9.tree fH.2.2.2)),sP 14 2 0 3,(15,.c (.own 3 fH.2.1.length)),sP 16 0 0 0],cK.o fH.1::aEb fH,[],1⟩ ?_
         refine cO.cM (fuel':=4) 3 ?_
         refine dB.cG (t:=17) 3 [0] rfl (by kernel_rfl) (mA K fH.1 1) (fun iS=>?_)
         refine cO.cM (fuel':=3) 4 ?_
         refine dB.iY (cR:=⟨eU a1++[(6,.c (E9.tree fH.2.2.2)),sP 14 2 0 3,(15,.c (.own 3 fH.2.1.length)),(18,.c (.own 5 1))],cK.o iS.2::(aEb fH++[.row 195 5 1 (gY [(cA.cs iS.1)])]),[],1⟩) 4 [0,1,4,5,6,14,15,18] [0,1,2,3,4,6] (by kernel_rfl) (by kernel_rfl) ?_
         refine cO.conv (jQ.obj 5 (cA.row [iS.1]) (El.bZ cA [iS.1] rfl (by kernel_rfl)) (by kernel_rfl)) ?_
         refine cO.conv (jQ.slot 18 (.c (.own 5 ([iS.1].length))) (eA.c (dY.own (by first | (simp;done) | (simp;omega) | omega))) (by kernel_rfl)) ?_
         refine cO.close ?_
         refine bO.cM (fuel':=2) 5 (by kernel_rfl) ?_
         refine cF.writes (vs:=[room ((fH.2.1.length+([iS.1].length)) * 72)]) (cR:=⟨eU a1++[(6,.c (E9.tree fH.2.2.2)),(19,.c (.own 5 (fH.2.1.length+([iS.1].length))))],[cK.o iS.2,oI,.cells [iC 5,iC 0,.str [],.own 3 fH.2.1.length,.nil,.own 4 fH.2.2.1.length],.dead,iW.row fH.2.2.1,.row 195 5 (fH.2.1.length+([iS.1].length)) fun i j=>bif Nat.blt i fH.2.1.length then cA.at fH.2.1 i j else (cA.at [iS.1]) (i - fH.2.1.length) j],[],1⟩) 5 [0,1,4,5,6,19] [0,1,2,3,4,6] (by kernel_rfl) (by kernel_rfl) ?_
         refine bO.conv (Conv.ob 5 (cA.row (fH.2.1++[iS.1])) (El.cI cA fH.2.1 [iS.1] rfl rfl)) ?_
         refine bO.conv (Conv.sl 19 (.c (.own 5 ((fH.2.1++[iS.1]).length))) (eA.c (dY.own (by first | (simp;done) | (simp;omega) | omega)))) ?_
         refine bO.v0 (fuel':=1) [6] [0,1,4,5,6,19,20] [0,1,2,3,4,5] ?_
         refine bO.cM (fuel':=0) 7 (by kernel_rfl) ?_
         refine cF.w0 7 [0,1,4,5,6] [0,1,2,4,5] ?_
         refine bO.done (by kernel_rfl) ?_
         refine Ref.ck ⟨eU a1++[(6,.c (E9.tree fH.2.2.2))],cK.o iS.2::(zE fH iS++[iW.row fH.2.2.1]),[],1⟩ [0,1,4,5,6] [0,1,2,4,3] ?_
         exact hk iS)) fun xU =>
      .nil [0,1,2,3,4] _) (
      .ret [0,1,2,3,4] _)) fun rQ =>
    .esc [0,1,2,3,4] [(cd (bd Tryz.f185) [1,1,1,1,0]),(cd (bd Tryz.f185) [1,1,1,1,1])] ⟨eU a1,cK.o rQ.1::(zF rQ++[iW.row rQ.2.2]),[],1⟩ (by
     refine Ref.eH 10 (by kernel_rfl) (by kernel_rfl) ?_
     refine dN.eW (cR:=⟨j4++[sP 43 2 0 5,sP 45 0 0 0,sI 46 a1],cK.o rQ.1::(zF rQ++[iW.row rQ.2.2]),[],1⟩) (fuel':=6) [0,2,3] [0,4,5,43,45,46] [0,1,2,3,4] rfl (by kernel_rfl) (by kernel_rfl) ?_
     refine dN.qB [4,6,8] ?_
     refine bO.iA (fun (mE:(List cJ) × cB)=>⟨j4,[cK.o mE.2,oI,.cells [iC 5,iC 0,.str [],.own 3 rQ.2.1.length,.nil,.own 4 ((rQ.2.2++[mE.1]).length)],cA.row rQ.2.1,iW.row (rQ.2.2++[mE.1])],[],1⟩) (fun (mE:(List cJ) × cB)=>((bT (fI K mE.2 xI)).bind (fun aR5=>(some (.inl ((⟨5,0,([]:Bytes),rQ.2.1,[],(rQ.2.2++[mE.1])⟩:cJ),aR5)))))) (fun mE=>?_) (fun hk=>?_)
     ·
      exact Ref.pt (
       .call [0] (dG _ _ _) fun aR5 =>
       .fz 12 0 3 <|
       .ok 12 0 1 4 (x:=.nil) (y:=lH.tree []) (El.cN lH) <|
       .fz 12 0 4 <|
       .ok 12 0 1 5 (x:=iW.tree (rQ.2.2++[mE.1])) (y:=mZ (rQ.2.2++[mE.1])) (xH _) <|
       .ret [0,1] _)
     ·
      refine bO.iR (fuel':=5) [[],[(1,44)]] [(1,44)] [0,4,5,43,45,46] [0,1,2,3,4] ⟨j4++[sP 43 2 0 5,(44,.c (.own 4 rQ.2.2.length)),sP 45 0 0 0,sI 46 a1],cK.o rQ.1::(zF rQ++[iW.row rQ.2.2]),[],1⟩ ?_
      refine cO.cM (fuel':=4) 4 ?_
      refine dB.cG (t:=47) 4 [0] rfl (by kernel_rfl) (aTs rQ.1 a1 xI) (fun mE=>?_)
      refine cO.cM (fuel':=3) 5 ?_
      refine dB.iY (cR:=⟨j4++[sP 43 2 0 5,(44,.c (.own 4 rQ.2.2.length)),(48,.c (.own 5 1))],cK.o mE.2::(zF rQ++[iW.row rQ.2.2,.row 33 1 1 (gY [[dJ.tree mE.1]])]),[],1⟩) 5 [0,4,5,43,44,48] [0,1,2,3,4,5] (by kernel_rfl) (by kernel_rfl) ?_
      refine cO.conv (jQ.obj 5 (iW.row [mE.1]) (El.bZ iW [mE.1] rfl (by kernel_rfl)) (by kernel_rfl)) ?_
      refine cO.conv (jQ.slot 48 (.c (.own 5 ([mE.1].length))) (eA.c (dY.own (by first | (simp;done) | (simp;omega) | omega))) (by kernel_rfl)) ?_
      refine cO.close ?_
      refine bO.cM (fuel':=2) 6 (by kernel_rfl) ?_
      refine cF.writes (vs:=[room ((rQ.2.2.length+([mE.1].length)) * 24)]) (cR:=⟨j4++[(49,.c (.own 5 (rQ.2.2.length+([mE.1].length))))],cK.o mE.2::(zF rQ++[.dead,.row 33 1 (rQ.2.2.length+([mE.1].length)) fun i j=>bif Nat.blt i rQ.2.2.length then iW.at rQ.2.2 i j else (iW.at [mE.1]) (i - rQ.2.2.length) j]),[],1⟩) 6 [0,4,5,49] [0,1,2,3,4,6] (by kernel_rfl) (by kernel_rfl) ?_
      refine bO.conv (Conv.ob 5 (iW.row (rQ.2.2++[mE.1])) (El.cI iW rQ.2.2 [mE.1] rfl rfl)) ?_
      refine bO.conv (Conv.sl 49 (.c (.own 5 ((rQ.2.2++[mE.1]).length))) (eA.c (dY.own (by first | (simp;done) | (simp;omega) | omega)))) ?_
      refine bO.v0 (fuel':=1) [7] [0,4,5,49,50] [0,1,2,3,4,5] ?_
      refine bO.cM (fuel':=0) 8 (by kernel_rfl) ?_
      refine cF.w0 8 [0,4,5] [0,1,2,3,5] ?_
      refine bO.done (by kernel_rfl) ?_
      refine Ref.ck ⟨j4,[cK.o mE.2,oI,.cells [iC 5,iC 0,.str [],.own 3 rQ.2.1.length,.nil,.own 4 ((rQ.2.2++[mE.1]).length)],cA.row rQ.2.1,iW.row (rQ.2.2++[mE.1])],[],1⟩ [0,4,5] [0,1,2,3,4] ?_
      exact hk mE))
  ·
   intro a0 a1
   refine bS.it Tryz.f186 (fun r=>⟨[sP 4 1 0 0],[cK.o r.2,dJ.o r.1],[],1⟩) ?_
   rw[aMA]
   exact Ref.pt (
    .call [0] (mA _ _ _) fun r1 =>
    .ob 1 3 3 (x:=.row 195 5 1 (gY [(cA.cs r1.1)])) (y:=(cA.row [r1.1])) (El.bZ cA [r1.1] rfl (by kernel_rfl)) <|
    .sl 1 3 9 (x:=.c (.own 3 1)) (y:=(.c (.own 3 ([r1.1].length)))) (eA.c (dY.own (by first | (simp;done) | (simp;omega) | omega))) <|
    .call [0] (dG _ _ _) fun r2 =>
    .bk 0 (fun iF=>⟨eU a1,cK.o iF.1::oI::.cells [iC 6,iC 0,.str [],.own 3 ([r1.1].length),.own 4 iF.2.1.length,.own 5 iF.2.2.length]::cA.row [r1.1]::qZ iF,[],1⟩) (
     .adc 2 0 4 4 lH.ty lH.w (lH.at []) <|
     .adc 2 0 4 5 iW.ty iW.w (iW.at []) <|
     .lp [0,1,4,3,5,6] (fun eO=>⟨eU a1,cK.o eO.1::oI::.cells [iC 6,iC 0,.str [],.own 3 ([r1.1].length),.own 4 eO.2.1.length,.own 5 eO.2.2.length]::cA.row [r1.1]::qZ eO,[],1⟩) fun eO =>
     .look (default:Bool) _ [0] (lN K eO.1 3) (fun _=>rfl) fun aPc =>
     .look (default:Bool) _ [0] (lF K eO.1 uN) (fun _=>rfl) fun aTo =>
     .ite _ (
      .bk 1 (fun aAB=>⟨eU a1,cK.o aAB.1::oI::.cells [iC 6,iC 0,.str [],.own 3 ([r1.1].length),.own 4 aAB.2.1.length,.own 5 aAB.2.2.length]::cA.row [r1.1]::qZ aAB,[],1⟩) (
       .call [0] (qV _ _ _ _) fun aTp =>
       .bk 2 (fun gS=>⟨eU a1++[(6,.c (.own 6 gS.2.length))],cK.o gS.1::oI::.cells [iC 6,iC 0,.str [],.own 3 ([r1.1].length),.own 4 eO.2.1.length,.own 5 eO.2.2.length]::cA.row [r1.1]::(qZ eO++[E3.row gS.2]),[],1⟩) (
        .ad 5 0 6 E3.ty E3.w (E3.at []) <|
        .lp [0,1,2,3,4,5,6] (fun j7=>⟨eU a1++[(6,.c (.own 6 j7.2.length))],cK.o j7.1::oI::.cells [iC 6,iC 0,.str [],.own 3 ([r1.1].length),.own 4 eO.2.1.length,.own 5 eO.2.2.length]::cA.row [r1.1]::(qZ eO++[E3.row j7.2]),[],1⟩) fun j7 =>
        .ite _ (
         .bk 3 (fun aEa=>⟨eU a1++[(6,.c (.own 6 aEa.2.length))],cK.o aEa.1::oI::.cells [iC 6,iC 0,.str [],.own 3 ([r1.1].length),.own 4 eO.2.1.length,.own 5 eO.2.2.length]::cA.row [r1.1]::(qZ eO++[E3.row aEa.2]),[],1⟩) (
          .look (default:Bool) _ [0] (lN K j7.1 3) (fun _=>rfl) fun aPd =>
          .look (default:Bool) _ [0] (lF K j7.1 uN) (fun _=>rfl) fun aTq =>
          .jn (fun aKW=>⟨eU a1++[(6,.c (.own 6 j7.2.length))],cK.o aKW::oI::.cells [iC 6,iC 0,.str [],.own 3 ([r1.1].length),.own 4 eO.2.1.length,.own 5 eO.2.2.length]::cA.row [r1.1]::(qZ eO++[E3.row j7.2]),[],1⟩) (
           .ite _ (
            .call [0] (qV _ _ _ _) fun aTr =>
            .nil [0,1,2,3,4,5,6] _) (
            .nil [0,1,2,3,4,5,6] _)) fun aKW =>
          .call [0] (aAz _ _) fun qY =>
          .ob 9 2 7 (x:=.row 3 1 1 (gY [[iC qY.1]])) (y:=(E3.row [qY.1])) (El.bZ E3 [qY.1] rfl (by kernel_rfl)) <|
          .sl 9 2 42 (x:=.c (.own 7 1)) (y:=(.c (.own 7 ([qY.1].length)))) (eA.c (dY.own (by first | (simp;done) | (simp;omega) | omega))) <|
          .ck _ <|
          .ob 9 1 8 (x:=.row 3 1 (j7.2.length+([qY.1].length)) fun i j=>bif Nat.blt i j7.2.length then E3.at j7.2 i j else (E3.at [qY.1]) (i - j7.2.length) j) (y:=(E3.row (j7.2++[qY.1]))) (El.cI E3 j7.2 [qY.1] rfl rfl) <|
          .sl 9 1 43 (x:=.c (.own 8 (j7.2.length+([qY.1].length)))) (y:=(.c (.own 8 ((j7.2++[qY.1]).length)))) (eA.c (dY.own (by first | (simp;done) | (simp;omega) | omega))) <|
          .call [0] (dL _ _ _) fun aKX =>
          .ite _ (
           .ret [0,1,2,3,4,5,8] _) (
           .nil [0,1,2,3,4,5,8] _)) fun aEa =>
         .nil [0,1,2,3,4,5,6] _) (
         .ret [0,1,2,3,4,5,6] _)) fun gS =>
       .call [0] (dG _ _ _) fun aBZ =>
       .fz 12 4 6 <|
       .ob 12 3 7 (x:=.row 45 1 1 (gY [[E3.tree gS.2]])) (y:=(lH.row [gS.2])) (El.bZ lH [gS.2] rfl (by kernel_rfl)) <|
       .sl 12 3 52 (x:=.c (.own 7 1)) (y:=(.c (.own 7 ([gS.2].length)))) (eA.c (dY.own (by first | (simp;done) | (simp;omega) | omega))) <|
       .ck _ <|
       .ob 12 2 8 (x:=.row 45 1 (eO.2.1.length+([gS.2].length)) fun i j=>bif Nat.blt i eO.2.1.length then lH.at eO.2.1 i j else (lH.at [gS.2]) (i - eO.2.1.length) j) (y:=(lH.row (eO.2.1++[gS.2]))) (El.cI lH eO.2.1 [gS.2] rfl rfl) <|
       .sl 12 2 53 (x:=.c (.own 8 (eO.2.1.length+([gS.2].length)))) (y:=(.c (.own 8 ((eO.2.1++[gS.2]).length)))) (eA.c (dY.own (by first | (simp;done) | (simp;omega) | omega))) <|
       .esc [0,1,2,3,5,8] [(cd (bd Tryz.f186) [1,1,1,0,0,0,1,0,1,1,1,1,1])] ⟨eU a1,[cK.o aBZ,oI,.cells [iC 6,iC 0,.str [],.own 3 ([r1.1].length),.own 5 ((eO.2.1++[gS.2]).length),.own 4 eO.2.2.length],cA.row [r1.1],iW.row eO.2.2,lH.row (eO.2.1++[gS.2])],[],1⟩ (by
        refine Ref.eH 13 (by kernel_rfl) (by kernel_rfl) ?_
        refine dN.eW (cR:=⟨eU a1++[sP 55 2 0 5,sP 57 0 0 0,sI 59 (IntKind.i64.wrap (a1+1))],[cK.o aBZ,oI,.cells [iC 6,iC 0,.str [],.own 3 ([r1.1].length),.own 5 ((eO.2.1++[gS.2]).length),.own 4 eO.2.2.length],cA.row [r1.1],iW.row eO.2.2,lH.row (eO.2.1++[gS.2])],[],1⟩) (fuel':=7) [0,2,3,4] [0,1,4,5,55,57,59] [0,1,2,3,4,5] rfl (by kernel_rfl) (by kernel_rfl) ?_
        refine dN.qB [6,8,10] ?_
        refine bO.iA (fun (jU:(List cJ) × cB)=>⟨eU a1,[cK.o jU.2,oI,.cells [iC 6,iC 0,.str [],.own 3 ([r1.1].length),.own 4 ((eO.2.1++[gS.2]).length),.own 5 ((eO.2.2++[jU.1]).length)],cA.row [r1.1],lH.row (eO.2.1++[gS.2]),iW.row (eO.2.2++[jU.1])],[],1⟩) (fun (jU:(List cJ) × cB)=>(some (.inr (jU.2,(eO.2.1++[gS.2]),(eO.2.2++[jU.1]))))) (fun jU=>?_) (fun hk=>?_)
        ·
         exact Ref.pt (
          .nil [0,1,2,3,4,5] _)
        ·
         refine bO.iR (fuel':=6) [[],[(1,56)]] [(1,56)] [0,1,4,5,55,57,59] [0,1,2,3,4,5] ⟨eU a1++[sP 55 2 0 5,(56,.c (.own 4 eO.2.2.length)),sP 57 0 0 0,sI 59 (IntKind.i64.wrap (a1+1))],[cK.o aBZ,oI,.cells [iC 6,iC 0,.str [],.own 3 ([r1.1].length),.own 5 ((eO.2.1++[gS.2]).length),.own 4 eO.2.2.length],cA.row [r1.1],iW.row eO.2.2,lH.row (eO.2.1++[gS.2])],[],1⟩ ?_
         refine cO.cM (fuel':=5) 5 ?_
         refine dB.iY (cR:=⟨eU a1++[sP 55 2 0 5,(56,.c (.own 4 eO.2.2.length)),sP 57 0 0 0,sI 59 (IntKind.i64.wrap (a1+1)),(60,.c (.own 6 3))],[cK.o aBZ,oI,.cells [iC 6,iC 0,.str [],.own 3 ([r1.1].length),.own 5 ((eO.2.1++[gS.2]).length),.own 4 eO.2.2.length],cA.row [r1.1],iW.row eO.2.2,lH.row (eO.2.1++[gS.2]),.row 9 1 3 (gY [[.str aMC],[.str yG],[.str mK]])],[],1⟩) 5 [0,1,4,5,55,56,57,59,60] [0,1,2,3,4,5,6] (by kernel_rfl) (by kernel_rfl) ?_
         refine cO.conv (jQ.obj 6 (E9.row [aMC,yG,mK]) (El.bZ E9 [aMC,yG,mK] rfl (by kernel_rfl)) (by kernel_rfl)) ?_
         refine cO.conv (jQ.slot 60 (.c (.own 6 ([aMC,yG,mK].length))) (eA.c (dY.own (by first | (simp;done) | (simp;omega) | omega))) (by kernel_rfl)) ?_
         refine cO.cM (fuel':=4) 6 ?_
         refine dB.conv (jQ.freeze (cR:=⟨(60,.c (E9.tree [aMC,yG,mK]))::(eU a1++[sP 55 2 0 5,(56,.c (.own 4 eO.2.2.length)),sP 57 0 0 0,sI 59 (IntKind.i64.wrap (a1+1))]),[cK.o aBZ,oI,.cells [iC 6,iC 0,.str [],.own 3 ([r1.1].length),.own 5 ((eO.2.1++[gS.2]).length),.own 4 eO.2.2.length],cA.row [r1.1],iW.row eO.2.2,lH.row (eO.2.1++[gS.2]),.dead],[],1⟩) 6 (by kernel_rfl)) ?_
         refine dB.cG (t:=61) 6 [0] rfl (by kernel_rfl) (aHF aBZ (IntKind.i64.wrap (a1+1)) [aMC,yG,mK]) (fun jU=>?_)
         refine cO.cM (fuel':=3) 7 ?_
         refine dB.iY (cR:=⟨eU a1++[sP 55 2 0 5,(56,.c (.own 4 eO.2.2.length)),(62,.c (.own 6 1))],[cK.o jU.2,oI,.cells [iC 6,iC 0,.str [],.own 3 ([r1.1].length),.own 5 ((eO.2.1++[gS.2]).length),.own 4 eO.2.2.length],cA.row [r1.1],iW.row eO.2.2,lH.row (eO.2.1++[gS.2]),.row 33 1 1 (gY [[dJ.tree jU.1]])],[],1⟩) 7 [0,1,4,5,55,56,62] [0,1,2,3,4,5,7] (by kernel_rfl) (by kernel_rfl) ?_
         refine cO.conv (jQ.obj 6 (iW.row [jU.1]) (El.bZ iW [jU.1] rfl (by kernel_rfl)) (by kernel_rfl)) ?_
         refine cO.conv (jQ.slot 62 (.c (.own 6 ([jU.1].length))) (eA.c (dY.own (by first | (simp;done) | (simp;omega) | omega))) (by kernel_rfl)) ?_
         refine cO.close ?_
         refine bO.cM (fuel':=2) 8 (by kernel_rfl) ?_
         refine cF.writes (vs:=[room ((eO.2.2.length+([jU.1].length)) * 24)]) (cR:=⟨eU a1++[(63,.c (.own 6 (eO.2.2.length+([jU.1].length))))],[cK.o jU.2,oI,.cells [iC 6,iC 0,.str [],.own 3 ([r1.1].length),.own 5 ((eO.2.1++[gS.2]).length),.own 4 eO.2.2.length],cA.row [r1.1],.dead,lH.row (eO.2.1++[gS.2]),.row 33 1 (eO.2.2.length+([jU.1].length)) fun i j=>bif Nat.blt i eO.2.2.length then iW.at eO.2.2 i j else (iW.at [jU.1]) (i - eO.2.2.length) j],[],1⟩) 8 [0,1,4,5,63] [0,1,2,3,4,5,7] (by kernel_rfl) (by kernel_rfl) ?_
         refine bO.conv (Conv.ob 6 (iW.row (eO.2.2++[jU.1])) (El.cI iW eO.2.2 [jU.1] rfl rfl)) ?_
         refine bO.conv (Conv.sl 63 (.c (.own 6 ((eO.2.2++[jU.1]).length))) (eA.c (dY.own (by first | (simp;done) | (simp;omega) | omega)))) ?_
         refine bO.v0 (fuel':=1) [9] [0,1,4,5,63,64] [0,1,2,3,4,5,6] ?_
         refine bO.cM (fuel':=0) 10 (by kernel_rfl) ?_
         refine cF.w0 10 [0,1,4,5] [0,1,2,3,5,6] ?_
         refine bO.done (by kernel_rfl) ?_
         refine Ref.ck ⟨eU a1,[cK.o jU.2,oI,.cells [iC 6,iC 0,.str [],.own 3 ([r1.1].length),.own 4 ((eO.2.1++[gS.2]).length),.own 5 ((eO.2.2++[jU.1]).length)],cA.row [r1.1],lH.row (eO.2.1++[gS.2]),iW.row (eO.2.2++[jU.1])],[],1⟩ [0,1,4,5] [0,1,2,3,4,5] ?_
         exact hk jU)) fun aAB =>
      .nil [0,1,2,3,4,5] _) (
      .ret [0,1,2,3,4,5] _)) fun iF =>
    .esc [0,1,2,3,4,5] [(cd (bd Tryz.f186) [1,1,1,1,0]),(cd (bd Tryz.f186) [1,1,1,1,1])] ⟨eU a1,cK.o iF.1::oI::.cells [iC 6,iC 0,.str [],.own 3 ([r1.1].length),.own 4 iF.2.1.length,.own 5 iF.2.2.length]::cA.row [r1.1]::qZ iF,[],1⟩ (by
     refine Ref.eH 14 (by kernel_rfl) (by kernel_rfl) ?_
     refine dN.eW (cR:=⟨j4++[sP 65 2 0 5,sP 67 0 0 0,sI 68 a1],cK.o iF.1::oI::.cells [iC 6,iC 0,.str [],.own 3 ([r1.1].length),.own 4 iF.2.1.length,.own 5 iF.2.2.length]::cA.row [r1.1]::qZ iF,[],1⟩) (fuel':=6) [0,2,3] [0,4,5,65,67,68] [0,1,2,3,4,5] rfl (by kernel_rfl) (by kernel_rfl) ?_
     refine dN.qB [4,6,8] ?_
     refine bO.iA (fun (jA:(List cJ) × cB)=>⟨j4,[cK.o jA.2,oI,.cells [iC 6,iC 0,.str [],.own 3 ([r1.1].length),.own 4 iF.2.1.length,.own 5 ((iF.2.2++[jA.1]).length)],cA.row [r1.1],lH.row iF.2.1,iW.row (iF.2.2++[jA.1])],[],1⟩) (fun (jA:(List cJ) × cB)=>((bT (fI K jA.2 mK)).bind (fun aKY=>(some (.inl ((⟨6,0,([]:Bytes),[r1.1],iF.2.1,(iF.2.2++[jA.1])⟩:cJ),aKY)))))) (fun jA=>?_) (fun hk=>?_)
     ·
      exact Ref.pt (
       .call [0] (dG _ _ _) fun aKY =>
       .fz 16 0 3 <|
       .fz 16 0 4 <|
       .fz 16 0 5 <|
       .ok 16 0 1 5 (x:=iW.tree (iF.2.2++[jA.1])) (y:=mZ (iF.2.2++[jA.1])) (xH _) <|
       .ret [0,1] _)
     ·
      refine bO.iR (fuel':=5) [[],[(1,66)]] [(1,66)] [0,4,5,65,67,68] [0,1,2,3,4,5] ⟨j4++[sP 65 2 0 5,(66,.c (.own 5 iF.2.2.length)),sP 67 0 0 0,sI 68 a1],cK.o iF.1::oI::.cells [iC 6,iC 0,.str [],.own 3 ([r1.1].length),.own 4 iF.2.1.length,.own 5 iF.2.2.length]::cA.row [r1.1]::qZ iF,[],1⟩ ?_
      refine cO.cM (fuel':=4) 4 ?_
      refine dB.cG (t:=69) 4 [0] rfl (by kernel_rfl) (aTs iF.1 a1 mK) (fun jA=>?_)
      refine cO.cM (fuel':=3) 5 ?_
      refine dB.iY (cR:=⟨j4++[sP 65 2 0 5,(66,.c (.own 5 iF.2.2.length)),(70,.c (.own 6 1))],cK.o jA.2::oI::.cells [iC 6,iC 0,.str [],.own 3 ([r1.1].length),.own 4 iF.2.1.length,.own 5 iF.2.2.length]::cA.row [r1.1]::(qZ iF++[.row 33 1 1 (gY [[dJ.tree jA.1]])]),[],1⟩) 5 [0,4,5,65,66,70] [0,1,2,3,4,5,6] (by kernel_rfl) (by kernel_rfl) ?_
      refine cO.conv (jQ.obj 6 (iW.row [jA.1]) (El.bZ iW [jA.1] rfl (by kernel_rfl)) (by kernel_rfl)) ?_
      refine cO.conv (jQ.slot 70 (.c (.own 6 ([jA.1].length))) (eA.c (dY.own (by first | (simp;done) | (simp;omega) | omega))) (by kernel_rfl)) ?_
      refine cO.close ?_
      refine bO.cM (fuel':=2) 6 (by kernel_rfl) ?_
      refine cF.writes (vs:=[room ((iF.2.2.length+([jA.1].length)) * 24)]) (cR:=⟨j4++[(71,.c (.own 6 (iF.2.2.length+([jA.1].length))))],[cK.o jA.2,oI,.cells [iC 6,iC 0,.str [],.own 3 ([r1.1].length),.own 4 iF.2.1.length,.own 5 iF.2.2.length],cA.row [r1.1],lH.row iF.2.1,.dead,.row 33 1 (iF.2.2.length+([jA.1].length)) fun i j=>bif Nat.blt i iF.2.2.length then iW.at iF.2.2 i j else (iW.at [jA.1]) (i - iF.2.2.length) j],[],1⟩) 6 [0,4,5,71] [0,1,2,3,4,5,7] (by kernel_rfl) (by kernel_rfl) ?_
      refine bO.conv (Conv.ob 6 (iW.row (iF.2.2++[jA.1])) (El.cI iW iF.2.2 [jA.1] rfl rfl)) ?_
      refine bO.conv (Conv.sl 71 (.c (.own 6 ((iF.2.2++[jA.1]).length))) (eA.c (dY.own (by first | (simp;done) | (simp;omega) | omega)))) ?_
      refine bO.v0 (fuel':=1) [7] [0,4,5,71,72] [0,1,2,3,4,5,6] ?_
      refine bO.cM (fuel':=0) 8 (by kernel_rfl) ?_
      refine cF.w0 8 [0,4,5] [0,1,2,3,4,6] ?_
      refine bO.done (by kernel_rfl) ?_
      refine Ref.ck ⟨j4,[cK.o jA.2,oI,.cells [iC 6,iC 0,.str [],.own 3 ([r1.1].length),.own 4 iF.2.1.length,.own 5 ((iF.2.2++[jA.1]).length)],cA.row [r1.1],lH.row iF.2.1,iW.row (iF.2.2++[jA.1])],[],1⟩ [0,4,5] [0,1,2,3,4,5] ?_
      exact hk jA))
  ·
   intro a0 a1 a2
   refine bS.it Tryz.f212 (fun r=>⟨[(6,.c (dJ.tree r.1))],[cK.o r.2],[],1⟩) ?_
   rw[aJq]
   exact Ref.pt (
    .call [0] (dL _ _ _) fun r1 =>
    .ite _ (
     .sl 2 0 6 (x:=.c (.nil)) (y:=(.c (dJ.tree []))) (eA.c (El.cN dJ)) <|
     .ret [0] _) (
     .ob 3 2 1 (x:=.row 9 1 1 (gY [[.str a2]])) (y:=(E9.row [a2])) (El.bZ E9 [a2] rfl (by kernel_rfl)) <|
     .sl 3 2 14 (x:=.c (.own 1 1)) (y:=(.c (.own 1 ([a2].length)))) (eA.c (dY.own (by first | (simp;done) | (simp;omega) | omega))) <|
     .fz 3 2 1 <|
     .call [0] (aHF _ _ _) fun r2 =>
     .ret [0] _))
theorem aKZ (K:Nat) (a0:cB) (a1:Int) (a2:(List Bytes)):bS Tryz.prog 114 [.c (.ptr 0 0 0),.c (.val (.int .i64 a1)),.c (E9.tree a2)] [cK.o a0] (bT (xV K a0 a1 a2)) (fun r=>.c (dJ.tree r.1)) (fun r=>[cK.o r.2]):=(aR6 K).1 a0 a1 a2
def aPe (K:Nat) (a0:cB):Option ((jG × cB) ⊕ (jG × cB)) :=
 ((bT (fZ K a0 ([65,66,83,84,82,65,67,84]:Bytes))).bind (fun r1=>((bT (fZ K r1.2 ([70,73,78,65,76]:Bytes))).bind (fun r2=>((bT (pJ K r2.2)).bind (fun r3=>((bT (fZ K r3.2 ([69,88,84,69,78,68,83]:Bytes))).bind (fun r4=>(bL (if r4.1=true then ((bT (pJ K r4.2)).bind (fun r7=>(some (.inr (r7.2,r7.1))))) else (some (.inr (r4.2,([]:Bytes))))) (fun (u6:cB × Bytes)=>((bT (fZ K u6.1 ([73,77,80,76,69,77,69,78,84,83]:Bytes))).bind (fun r8=>(bL (if r8.1=true then (bL (bJ ((iter K (fun (kO:cB × (List Bytes))=>(if ((kO.1.iL:Int) == 0)=true then (bL (bJ ((cH true (bT (vE K kO.1 1)) default).bind (fun aYb=>(bL (if aYb=true then ((bT (F74 K kO.1 (Int.ofNat kO.2.length) 4)).bind (fun aYc=>(some (.inr (aYc))))) else (some (.inr (kO.1)))) (fun (aAu:cB)=>((bT (pJ K aAu)).bind (fun mF=>(bW [room ((kO.2.length+([mF.1].length)) * 16)] ((bT (fZ K mF.2 ([44]:Bytes))).bind (fun aHG=>(if (!aHG.1)=true then (some (.inl (Sum.inr (Sum.inl (aHG.2,(kO.2++[mF.1])))))) else (some (.inr (aHG.2,(kO.2++[mF.1]))))))))))))))) (fun (aMD:cB × (List Bytes))=>(some (.inr (aMD.1,aMD.2))))) else (some (.inl (Sum.inl (kO.1,kO.2)))))) (r8.2,[])).map .inl)) (fun (aME:cB × (List Bytes))=>(some (.inr (aME.1,aME.2))))) else (some (.inr (r8.2,[])))) (fun (aCm:cB × (List Bytes))=>((bT (fI K aCm.1 ([59]:Bytes))).bind (fun aYd=>((bT (aJg K aYd)).bind (fun aMF=>(bL (bJ ((iter K (fun (s7:cB × (List hU))=>((cH true (bT (F73 K s7.1 ([77,69,84,72,79,68]:Bytes))) default).bind (fun aYe=>(if aYe=true then (bL (bJ ((bT (F74 K s7.1 (Int.ofNat s7.2.length) 6)).bind (fun aYf=>((bT (fI K aYf ([77,69,84,72,79,68]:Bytes))).bind (fun aYg=>((bT (fZ K aYg ([79,86,69,82,82,73,68,69]:Bytes))).bind (fun aAC=>((bT (fZ K aAC.2 ([65,66,83,84,82,65,67,84]:Bytes))).bind (fun aAD=>((bT (fZ K aAD.2 ([70,73,78,65,76]:Bytes))).bind (fun aAE=>((bT (pJ K aAE.2)).bind (fun aAF=>((bT (aMu K aAF.2)).bind (fun aAG=>((bT (aMv K aAG.2)).bind (fun wT=>((bT (fI K wT.2 ([59]:Bytes))).bind (fun aYh=>((bT (aJg K aYh)).bind (fun aAH=>((bT (xV K aAH.2 1 [])).bind (fun aAI=>((bT (fI K aAI.2 ([69,78,68,95,77,69,84,72,79,68]:Bytes))).bind (fun aF9=>(bW [room ((s7.2.length+([(⟨aAF.1,aAC.1,aAD.1,aAE.1,aAG.1,wT.1,aAH.1,aAI.1⟩:hU)].length)) * 136)] (some (.inr (aF9,(s7.2++[(⟨aAF.1,aAC.1,aAD.1,aAE.1,aAG.1,wT.1,aAH.1,aAI.1⟩:hU)])))))))))))))))))))))))))))))) (fun (aJr:cB × (List hU))=>(some (.inr (aJr.1,aJr.2))))) else (some (.inl (Sum.inl (s7.1,s7.2)))))))) (aMF.2,[])).map .inl)) (fun (aJs:cB × (List hU))=>((bT (fI K aJs.1 ([69,78,68,95,67,76,65,83,83]:Bytes))).bind (fun aYi=>(some (.inl ((⟨2,r3.1,u6.2,aCm.2,r1.1,r2.1,aMF.1,aJs.2,[],0,0⟩:jG),aYi)))))))))))))))))))))))))
abbrev uP (v0:Bytes × cB) (v1:cB × Bytes) (v2:cB × (List Bytes)) (v3:Bool × cB) (v4:Bool × cB):List Go.Dl.Obj:=[oX3,.cells [iC 2,.str v0.1,.str v1.2,.own 3 v2.2.length,bC v3.1,bC v4.1,.nil,.nil,.nil,iC 0,iC 0],E9.row v2.2]
abbrev lY:List (Nat × D):=[sP 0 0 0 0,sP 2 1 0 0,sP 3 2 0 0]
theorem aR7 (K:Nat) (a0:cB):bS Tryz.prog 110 [.c (.ptr 0 0 0)] [cK.o a0] (bT (aPe K a0)) (fun r=>.agg (jR.cs r.1)) (fun r=>[cK.o r.2,jR.o r.1]):=by
 refine bS.it Tryz.f110 (fun r=>⟨[sP 2 1 0 0],[cK.o r.2,jR.o r.1],[],1⟩) ?_
 unfold aPe
 exact Ref.pt (
  .call [0] (dL _ _ _) fun r1 =>
  .call [0] (dL _ _ _) fun r2 =>
  .call [0] (iM _ _) fun r3 =>
  .call [0] (dL _ _ _) fun r4 =>
  .jn (fun u6=>⟨lY,[cK.o u6.1,oX3,.cells [iC 2,.str r3.1,.str u6.2,.nil,bC r1.1,bC r2.1,.nil,.nil,.nil,iC 0,iC 0]],[],1⟩) (
   .ite _ (
    .call [0] (iM _ _) fun r7 =>
    .nil [0,1,2] _) (
    .nil [0,1,2] _)) fun u6 =>
  .call [0] (dL _ _ _) fun r8 =>
  .jn (fun aCm=>⟨lY,cK.o aCm.1::uP r3 u6 aCm r1 r2,[],1⟩) (
   .ite _ (
    .bk 0 (fun aME=>⟨lY,cK.o aME.1::uP r3 u6 aME r1 r2,[],1⟩) (
     .adc 7 0 2 3 E9.ty E9.w (E9.at []) <|
     .lp [0,1,2,3] (fun kO=>⟨lY,cK.o kO.1::uP r3 u6 kO r1 r2,[],1⟩) fun kO =>
     .ite _ (
      .bk 1 (fun aMD=>⟨lY,cK.o aMD.1::uP r3 u6 aMD r1 r2,[],1⟩) (
       .look (default:Bool) _ [0] (lN K kO.1 1) (fun _=>rfl) fun aYb =>
       .jn (fun aAu=>⟨lY,cK.o aAu::uP r3 u6 kO r1 r2,[],1⟩) (
        .ite _ (
         .call [0] (qV _ _ _ _) fun aYc =>
         .nil [0,1,2,3] _) (
         .nil [0,1,2,3] _)) fun aAu =>
       .esc [0,1,2,3] [(cd (bd Tryz.f110) [1,1,1,1,1,1,0,1,0,0,0,1,0,1,0]),(cd (bd Tryz.f110) [1,1,1,1,1,1,0,1,0,0,0,1,0,1,1])] ⟨lY,cK.o aAu::uP r3 u6 kO r1 r2,[],1⟩ (by
        refine Ref.eH 11 (by kernel_rfl) (by kernel_rfl) ?_
        refine dN.eW (cR:=⟨lY++[sP 34 2 0 3,sP 36 0 0 0],cK.o aAu::uP r3 u6 kO r1 r2,[],1⟩) (fuel':=6) [0,2] [0,2,3,34,36] [0,1,2,3] rfl (by kernel_rfl) (by kernel_rfl) ?_
        refine dN.qB [3,5,7] ?_
        refine bO.iA (fun (mF:Bytes × cB)=>⟨lY,[cK.o mF.2,oX3,.cells [iC 2,.str r3.1,.str u6.2,.own 3 ((kO.2++[mF.1]).length),bC r1.1,bC r2.1,.nil,.nil,.nil,iC 0,iC 0],E9.row (kO.2++[mF.1])],[],1⟩) (fun (mF:Bytes × cB)=>((bT (fZ K mF.2 ([44]:Bytes))).bind (fun aHG=>(if (!aHG.1)=true then (some (.inl (Sum.inr (Sum.inl (aHG.2,(kO.2++[mF.1])))))) else (some (.inr (aHG.2,(kO.2++[mF.1])))))))) (fun mF=>?_) (fun hk=>?_)
        ·
         exact Ref.pt (
          .call [0] (dL _ _ _) fun aHG =>
          .ite _ (
           .ret [0,1,2,3] _) (
           .nil [0,1,2,3] _))
        ·
         refine bO.iR (fuel':=5) [[],[(1,35)]] [(1,35)] [0,2,3,34,36] [0,1,2,3] ⟨lY++[sP 34 2 0 3,(35,.c (.own 3 kO.2.length)),sP 36 0 0 0],cK.o aAu::uP r3 u6 kO r1 r2,[],1⟩ ?_
         refine cO.cM (fuel':=4) 3 ?_
         refine dB.cG (t:=37) 3 [0] rfl (by kernel_rfl) (iM K aAu) (fun mF=>?_)
         refine cO.cM (fuel':=3) 4 ?_
         refine dB.iY (cR:=⟨lY++[sP 34 2 0 3,(35,.c (.own 3 kO.2.length)),(38,.c (.own 4 1))],cK.o mF.2::(uP r3 u6 kO r1 r2++[.row 9 1 1 (gY [[.str mF.1]])]),[],1⟩) 4 [0,2,3,34,35,38] [0,1,2,3,4] (by kernel_rfl) (by kernel_rfl) ?_
         refine cO.conv (jQ.obj 4 (E9.row [mF.1]) (El.bZ E9 [mF.1] rfl (by kernel_rfl)) (by kernel_rfl)) ?_
         refine cO.conv (jQ.slot 38 (.c (.own 4 ([mF.1].length))) (eA.c (dY.own (by first | (simp;done) | (simp;omega) | omega))) (by kernel_rfl)) ?_
         refine cO.close ?_
         refine bO.cM (fuel':=2) 5 (by kernel_rfl) ?_
         refine cF.writes (vs:=[room ((kO.2.length+([mF.1].length)) * 16)]) (cR:=⟨lY++[(39,.c (.own 4 (kO.2.length+([mF.1].length))))],[cK.o mF.2,oX3,.cells [iC 2,.str r3.1,.str u6.2,.own 3 kO.2.length,bC r1.1,bC r2.1,.nil,.nil,.nil,iC 0,iC 0],.dead,.row 9 1 (kO.2.length+([mF.1].length)) fun i j=>bif Nat.blt i kO.2.length then E9.at kO.2 i j else (E9.at [mF.1]) (i - kO.2.length) j],[],1⟩) 5 [0,2,3,39] [0,1,2,3,5] (by kernel_rfl) (by kernel_rfl) ?_
         refine bO.conv (Conv.ob 4 (E9.row (kO.2++[mF.1])) (El.cI E9 kO.2 [mF.1] rfl rfl)) ?_
         refine bO.conv (Conv.sl 39 (.c (.own 4 ((kO.2++[mF.1]).length))) (eA.c (dY.own (by first | (simp;done) | (simp;omega) | omega)))) ?_
         refine bO.v0 (fuel':=1) [6] [0,2,3,39,40] [0,1,2,3,4] ?_
         refine bO.cM (fuel':=0) 7 (by kernel_rfl) ?_
         refine cF.w0 7 [0,2,3] [0,1,2,4] ?_
         refine bO.done (by kernel_rfl) ?_
         refine Ref.ck ⟨lY,[cK.o mF.2,oX3,.cells [iC 2,.str r3.1,.str u6.2,.own 3 ((kO.2++[mF.1]).length),bC r1.1,bC r2.1,.nil,.nil,.nil,iC 0,iC 0],E9.row (kO.2++[mF.1])],[],1⟩ [0,2,3] [0,1,2,3] ?_
         exact hk mF)) fun aMD =>
      .nil [0,1,2,3] _) (
      .ret [0,1,2,3] _)) fun aME =>
    .nil [0,1,2,3] _) (
    .adc 7 0 2 3 E9.ty E9.w (E9.at []) <|
    .nil [0,1,2,3] _)) fun aCm =>
  .call [0] (dG _ _ _) fun aYd =>
  .call [0] (aGb _ _) fun aMF =>
  .bk 2 (fun aJs=>⟨lY,[cK.o aJs.1,oX3,.cells [iC 2,.str r3.1,.str u6.2,.own 3 aCm.2.length,bC r1.1,bC r2.1,eN.tree aMF.1,.own 4 aJs.2.length,.nil,iC 0,iC 0],E9.row aCm.2,kJ.row aJs.2],[],1⟩) (
   .adc 14 0 2 7 kJ.ty kJ.w (kJ.at []) <|
   .lp [0,1,2,3,4] (fun s7=>⟨lY,[cK.o s7.1,oX3,.cells [iC 2,.str r3.1,.str u6.2,.own 3 aCm.2.length,bC r1.1,bC r2.1,eN.tree aMF.1,.own 4 s7.2.length,.nil,iC 0,iC 0],E9.row aCm.2,kJ.row s7.2],[],1⟩) fun s7 =>
   .look (default:Bool) _ [0] (lF K s7.1 ([77,69,84,72,79,68]:Bytes)) (fun _=>rfl) fun aYe =>
   .ite _ (
    .bk 3 (fun aJr=>⟨lY,[cK.o aJr.1,oX3,.cells [iC 2,.str r3.1,.str u6.2,.own 3 aCm.2.length,bC r1.1,bC r2.1,eN.tree aMF.1,.own 4 aJr.2.length,.nil,iC 0,iC 0],E9.row aCm.2,kJ.row aJr.2],[],1⟩) (
     .call [0] (qV _ _ _ _) fun aYf =>
     .call [0] (dG _ _ _) fun aYg =>
     .call [0] (dL _ _ _) fun aAC =>
     .call [0] (dL _ _ _) fun aAD =>
     .call [0] (dL _ _ _) fun aAE =>
     .call [0] (iM _ _) fun aAF =>
     .call [0] (aKN _ _) fun aAG =>
     .call [0] (aKO _ _) fun wT =>
     .call [0] (dG _ _ _) fun aYh =>
     .call [0] (aGb _ _) fun aAH =>
     .call [0] (bS.le (aKZ _ _ _ _) (hG.cons (eA.refl _) (hG.cons (eA.refl _) (hG.cons (eA.c (El.cN _)) hG.nil)))) fun aAI =>
     .call [0] (dG _ _ _) fun aF9 =>
     .ob 29 3 7 (x:=.row 39 11 1 (gY [[.str aAF.1,bC aAC.1,bC aAD.1,bC aAE.1,eN.tree aAG.1,iC wT.1.bP,iC wT.1.fLo,iC wT.1.fHi,.str wT.1.cC,eN.tree aAH.1,dJ.tree aAI.1]])) (y:=(kJ.row [(⟨aAF.1,aAC.1,aAD.1,aAE.1,aAG.1,wT.1,aAH.1,aAI.1⟩:hU)])) (El.bZ kJ [(⟨aAF.1,aAC.1,aAD.1,aAE.1,aAG.1,wT.1,aAH.1,aAI.1⟩:hU)] rfl (by kernel_rfl)) <|
     .sl 29 3 90 (x:=.c (.own 7 1)) (y:=(.c (.own 7 ([(⟨aAF.1,aAC.1,aAD.1,aAE.1,aAG.1,wT.1,aAH.1,aAI.1⟩:hU)].length)))) (eA.c (dY.own (by first | (simp;done) | (simp;omega) | omega))) <|
     .ck _ <|
     .ob 29 2 8 (x:=.row 39 11 (s7.2.length+([(⟨aAF.1,aAC.1,aAD.1,aAE.1,aAG.1,wT.1,aAH.1,aAI.1⟩:hU)].length)) fun i j=>bif Nat.blt i s7.2.length then kJ.at s7.2 i j else (kJ.at [(⟨aAF.1,aAC.1,aAD.1,aAE.1,aAG.1,wT.1,aAH.1,aAI.1⟩:hU)]) (i - s7.2.length) j) (y:=(kJ.row (s7.2++[(⟨aAF.1,aAC.1,aAD.1,aAE.1,aAG.1,wT.1,aAH.1,aAI.1⟩:hU)]))) (El.cI kJ s7.2 [(⟨aAF.1,aAC.1,aAD.1,aAE.1,aAG.1,wT.1,aAH.1,aAI.1⟩:hU)] rfl rfl) <|
     .sl 29 2 91 (x:=.c (.own 8 (s7.2.length+([(⟨aAF.1,aAC.1,aAD.1,aAE.1,aAG.1,wT.1,aAH.1,aAI.1⟩:hU)].length)))) (y:=(.c (.own 8 ((s7.2++[(⟨aAF.1,aAC.1,aAD.1,aAE.1,aAG.1,wT.1,aAH.1,aAI.1⟩:hU)]).length)))) (eA.c (dY.own (by first | (simp;done) | (simp;omega) | omega))) <|
     .nil [0,1,2,3,8] _) fun aJr =>
    .nil [0,1,2,3,4] _) (
    .ret [0,1,2,3,4] _)) fun aJs =>
  .call [0] (dG _ _ _) fun aYi =>
  .fz 31 0 3 <|
  .fz 31 0 4 <|
  .ok 31 0 1 8 (x:=.nil) (y:=dJ.tree []) (El.cN dJ) <|
  .ret [0,1] _)
def F76 (K:Nat) (a0:cB):Option ((jG × cB) ⊕ (jG × cB)) :=
 (bL (bJ ((bT (fZ K a0 ([73,78,84,69,82,70,65,67,69]:Bytes))).bind (fun qF=>(if qF.1=true then ((bT (aO8 K qF.2)).bind (fun r25=>(some (.inl (Sum.inr (r25.1,r25.2)))))) else ((bT (fZ K qF.2 ([67,76,65,83,83]:Bytes))).bind (fun r26=>(if r26.1=true then ((bT (aPe K r26.2)).bind (fun r27=>(some (.inl (Sum.inr (r27.1,r27.2)))))) else ((bT (fZ K r26.2 ([80,82,79,71,82,65,77]:Bytes))).bind (fun r28=>(if r28.1=true then ((bT (pJ K r28.2)).bind (fun r29=>((bT (fI K r29.2 ([59]:Bytes))).bind (fun r30=>((bT (aJg K r30)).bind (fun xF=>((bT (xV K xF.2 1 [])).bind (fun r32=>((bT (fI K r32.2 ([69,78,68,95,80,82,79,71,82,65,77]:Bytes))).bind (fun xG=>(some (.inl (Sum.inr ((⟨3,r29.1,([]:Bytes),[],false,false,xF.1,[],r32.1,0,0⟩:jG),xG)))))))))))))) else ((bT (fZ K r28.2 ([84,65,83,75]:Bytes))).bind (fun r34=>(if r34.1=true then ((bT (pJ K r34.2)).bind (fun r35=>((bT (fI K r35.2 ([40]:Bytes))).bind (fun r36=>((bT (fI K r36 ([73,78,84,69,82,86,65,76]:Bytes))).bind (fun r37=>((bT (aD6 K r37)).bind (fun r38=>((bT (fI K r38.2 ([44]:Bytes))).bind (fun r39=>((bT (fI K r39 ([80,82,73,79,82,73,84,89]:Bytes))).bind (fun mO=>((bT (aD6 K mO)).bind (fun r41=>((bT (fI K r41.2 ([41]:Bytes))).bind (fun r42=>((bT (fI K r42 ([58]:Bytes))).bind (fun qR=>((bT (pJ K qR)).bind (fun r44=>((bT (fI K r44.2 ([59]:Bytes))).bind (fun r45=>(some (.inl (Sum.inr ((⟨4,r35.1,r44.1,[],false,false,[],[],[],r38.1,r41.1⟩:jG),r45)))))))))))))))))))))))))) else (some (.inr (r34.2)))))))))))))))) (fun (kB:cB)=>((bT (aAy K kB 3)).bind (fun r46=>(some (.inl ((⟨0,([]:Bytes),([]:Bytes),[],false,false,[],[],[],0,0⟩:jG),r46)))))))
theorem aVc (K:Nat) (a0:cB):bS Tryz.prog 76 [.c (.ptr 0 0 0)] [cK.o a0] (bT (F76 K a0)) (fun r=>.agg (jR.cs r.1)) (fun r=>[cK.o r.2,jR.o r.1]):=by
 refine bS.it Tryz.f76 (fun r=>⟨[sP 2 1 0 0],[cK.o r.2,jR.o r.1],[],1⟩) ?_
 unfold F76
 exact Ref.pt (
  .bk 0 (fun kB=>⟨[sP 0 0 0 0,sP 2 1 0 0],[cK.o kB,oX3],[],1⟩) (
   .call [0] (dL _ _ _) fun qF =>
   .ite _ (
    .call [0] (aRV _ _) fun r25 =>
    .ret [0,1] _) (
    .call [0] (dL _ _ _) fun r26 =>
    .ite _ (
     .call [0] (aR7 _ _) fun r27 =>
     .ret [0,1] _) (
     .call [0] (dL _ _ _) fun r28 =>
     .ite _ (
      .call [0] (iM _ _) fun r29 =>
      .call [0] (dG _ _ _) fun r30 =>
      .call [0] (aGb _ _) fun xF =>
      .call [0] (bS.le (aKZ _ _ _ _) (hG.cons (eA.refl _) (hG.cons (eA.refl _) (hG.cons (eA.c (El.cN _)) hG.nil)))) fun r32 =>
      .call [0] (dG _ _ _) fun xG =>
      .ok 11 0 1 3 (x:=.nil) (y:=E9.tree []) (El.cN E9) <|
      .ok 11 0 1 7 (x:=.nil) (y:=kJ.tree []) (El.cN kJ) <|
      .ret [0,1] _) (
      .call [0] (dL _ _ _) fun r34 =>
      .ite _ (
       .call [0] (iM _ _) fun r35 =>
       .call [0] (dG _ _ _) fun r36 =>
       .call [0] (dG _ _ _) fun r37 =>
       .call [0] (uL _ _) fun r38 =>
       .call [0] (dG _ _ _) fun r39 =>
       .call [0] (dG _ _ _) fun mO =>
       .call [0] (uL _ _) fun r41 =>
       .call [0] (dG _ _ _) fun r42 =>
       .call [0] (dG _ _ _) fun qR =>
       .call [0] (iM _ _) fun r44 =>
       .call [0] (dG _ _ _) fun r45 =>
       .ok 24 0 1 3 (x:=.nil) (y:=E9.tree []) (El.cN E9) <|
       .ok 24 0 1 6 (x:=.nil) (y:=eN.tree []) (El.cN eN) <|
       .ok 24 0 1 7 (x:=.nil) (y:=kJ.tree []) (El.cN kJ) <|
       .ok 24 0 1 8 (x:=.nil) (y:=dJ.tree []) (El.cN dJ) <|
       .ret [0,1] _) (
       .nil [0,1] _))))) fun kB =>
  .call [0] (oB _ _ _) fun r46 =>
  .ok 26 0 1 3 (x:=.nil) (y:=E9.tree []) (El.cN E9) <|
  .ok 26 0 1 6 (x:=.nil) (y:=eN.tree []) (El.cN eN) <|
  .ok 26 0 1 7 (x:=.nil) (y:=kJ.tree []) (El.cN kJ) <|
  .ok 26 0 1 8 (x:=.nil) (y:=dJ.tree []) (El.cN dJ) <|
  .ret [0,1] _)
end Go.Proofs.YtdbfbedholdjaaaGreat
