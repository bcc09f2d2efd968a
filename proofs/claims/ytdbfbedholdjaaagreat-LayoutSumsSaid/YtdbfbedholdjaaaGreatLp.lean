/- No conditions. -/
import Derived.Test.YtdbfbedholdjaaaGreatLx
import Derived.Test.YtdbfbedholdjaaaGreatProg
set_option linter.unusedVariables false
set_option linter.unusedSimpArgs false
set_option linter.unusedSectionVars false
namespace Go.Proofs.YtdbfbedholdjaaaGreat
open Go Go.Proofs Go.Dl
variable [eC]
set_option maxRecDepth 100000
set_option maxHeartbeats 4000000
def F73 (K:Nat) (a0:cB) (a1:Bytes):Option ((Bool) ⊕ (Bool)) :=
 (bO (((a0.iN:Int) != 0) || (decide ((a0.qE:Int) ≥ (Int.ofNat a0.ft.length)))) (fun (x1:Bool)=>(if x1=true then (some (.inl (false))) else (bW [cS a0.qE a0.ft.length] (bO ((((a0.ft.getD (a0.qE:Int).toNat default).aBP) == a1) && (((((a0.ft.getD (a0.qE:Int).toNat default).bP):Int) == 2) || ((((a0.ft.getD (a0.qE:Int).toNat default).bP):Int) == 4))) (fun (x3:Bool)=>(some (.inl (x3)))))))))
theorem lG (K:Nat) (a0:cB) (a1:Bytes):bR Tryz.prog 73 [.c (cL.ep a0 0),.c (.str a1)] [] (bU (F73 K a0 a1)) (fun r=>.c (.val (.bool r))) (fun r=>[]):=by
 refine bR.it Tryz.f73 (fun r=>⟨[sB 4 r],[],[],0⟩) ?_
 unfold F73
 exact Ref.pt (
  .ex [0,1,2] <|
  .tx [] <|
  .ex [3,4,5,6,7,8,9,10,11,12,13,14,15,16] <|
  .lt _ fun x1 =>
  .ite _ (
   .ret [] _) (
   .esc [] [(cd (bd Tryz.f73) [1,1,0]),(cd (bd Tryz.f73) [1,1,1])] ⟨[(0,.c (cL.ep a0 0)),sS 1 a1,sB 22 x1],[],[],0⟩ (by
    refine Ref.eR 3 (by kernel_rfl) (by kernel_rfl) ?_
    refine dV.fE (cR:=⟨[sS 1 a1,(25,.c (cL.ep a0 0)),(29,.c (cL.ep a0 1))],[],[],0⟩) (fuel':=6) [0,1,2,4,5,6] [1,25,29] [] rfl (by kernel_rfl) (by kernel_rfl) ?_
    refine dV.rG [11] ?_
    refine bQ.aC9 (⟨[sS 1 a1,sP 5 0 0 0],[mI.o (a0.ft.getD (a0.qE:Int).toNat default)],[],0⟩) ((bO ((((a0.ft.getD (a0.qE:Int).toNat default).aBP) == a1) && (((((a0.ft.getD (a0.qE:Int).toNat default).bP):Int) == 2) || ((((a0.ft.getD (a0.qE:Int).toNat default).bP):Int) == 4))) (fun (x3:Bool)=>(some (.inl (x3)))))) ?_ (fun hk=>?_)
    ·
     exact Ref.pt (
      .lt _ fun x3 =>
      .ret [] _)
    ·
     refine bQ.v1 (fuel':=2) [cS a0.qE a0.ft.length] [3,7,8,9] [1,32] [] ?_
     refine bQ.cP (fuel':=1) 10 (by kernel_rfl) ?_
     refine cE.kC (cR:=⟨[sS 1 a1,sP 5 0 0 0,(32,.agg (mI.cs (a0.ft.getD (a0.qE:Int).toNat default)))],[oX7],[],0⟩) 10 [1,5,32] [0] (by kernel_rfl) (by kernel_rfl) ?_
     refine bQ.qM [11] rfl (by kernel_rfl) ?_
     refine cY.e0 (cR:=⟨[sS 1 a1,sP 5 0 0 0],[mI.o (a0.ft.getD (a0.qE:Int).toNat default)],[],0⟩) 0 1 1 [1,5] [0] ?_
     refine cY.nl 1 ?_
     refine Ref.ck ⟨[sS 1 a1,sP 5 0 0 0],[mI.o (a0.ft.getD (a0.qE:Int).toNat default)],[],0⟩ [1,5] [0] ?_
     exact hk)))
def F75 (K:Nat) (a0:cB):Option ((Int × cB) ⊕ (Int × cB)) :=
 (bO (decide ((a0.qE:Int)<(Int.ofNat a0.ft.length))) (fun (x1:Bool)=>(if x1=true then (bW [cS a0.qE a0.ft.length] (bO ((a0.ft.getD (a0.qE:Int).toNat default).zF) (fun (x2:Int)=>(some (.inl (x2,a0)))))) else (some (.inl (a0.aG8,a0))))))
theorem aOO (K:Nat) (a0:cB):bR Tryz.prog 75 [.c (.ptr 0 0 0)] [cL.o a0] (bU (F75 K a0)) (fun r=>.c (.val (.int .i64 r.1))) (fun r=>[cL.o r.2]):=by
 refine bR.it Tryz.f75 (fun r=>⟨[sI 2 r.1],[cL.o r.2],[],1⟩) ?_
 unfold F75
 exact Ref.pt (
  .ex [0,1,2,4,5,6] <|
  .tx [] <|
  .ex [3,7,8,9] <|
  .lt _ fun x1 =>
  .ite _ (
   .ex [0,1,2,4,5,6] <|
   .tx [] <|
   .mT [3,7,8,9,10,11] _ <|
   .lt _ fun x2 =>
   .ret [0] _) (
   .ret [0] _))
def aAu (K:Nat) (a0:cB) (a1:Int):Option ((cB) ⊕ (cB)) :=
 (if ((a0.iN:Int) == 0)=true then ((bU (F75 K a0)).bind (fun r1=>(some (.inr ((⟨r1.2.ft,(Int.ofNat r1.2.ft.length),r1.2.aG8,a1,r1.1⟩:cB)))))) else (some (.inr (a0))))
theorem oD (K:Nat) (a0:cB) (a1:Int):bR Tryz.prog 107 [.c (.ptr 0 0 0),.c (.val (.int .i64 a1))] [cL.o a0] (bU (aAu K a0 a1)) (fun r=>.iV []) (fun r=>[cL.o r]):=by
 refine bR.it Tryz.f107 (fun r=>⟨[],[cL.o r],[],1⟩) ?_
 unfold aAu
 exact Ref.pt (
  .ite _ (
   .call [0] (aOO _ _) fun r1 =>
   .nil [0] _) (
   .nil [0] _))
def F74 (K:Nat) (a0:cB) (a1:Int) (a2:Int):Option ((cB) ⊕ (cB)) :=
 (if (decide ((a1:Int) ≥ a2))=true then ((bU (aAu K a0 5)).bind (fun r1=>(some (.inr (r1))))) else (some (.inr (a0))))
theorem qR (K:Nat) (a0:cB) (a1:Int) (a2:Int):bR Tryz.prog 74 [.c (.ptr 0 0 0),.c (.val (.int .i64 a1)),.c (.val (.int .i64 a2))] [cL.o a0] (bU (F74 K a0 a1 a2)) (fun r=>.iV []) (fun r=>[cL.o r]):=by
 refine bR.it Tryz.f74 (fun r=>⟨[],[cL.o r],[],1⟩) ?_
 unfold F74
 exact Ref.pt (
  .ite _ (
   .call [0] (oD _ _ _) fun r1 =>
   .nil [0] _) (
   .nil [0] _))
def gE (K:Nat) (a0:cB) (a1:Bytes):Option ((Bool × cB) ⊕ (Bool × cB)) :=
 ((cK true (bU (F73 K a0 a1)) default).bind (fun r1=>(if r1=true then (some (.inl (true,(⟨a0.ft,(IntKind.i64.wrap (a0.qE+1)),a0.aG8,a0.iN,a0.aCe⟩:cB)))) else (some (.inl (false,a0))))))
theorem dO (K:Nat) (a0:cB) (a1:Bytes):bR Tryz.prog 108 [.c (.ptr 0 0 0),.c (.str a1)] [cL.o a0] (bU (gE K a0 a1)) (fun r=>.c (.val (.bool r.1))) (fun r=>[cL.o r.2]):=by
 refine bR.it Tryz.f108 (fun r=>⟨[sB 4 r.1],[cL.o r.2],[],1⟩) ?_
 unfold gE
 exact Ref.pt (
  .look (default:Bool) _ [0] (lG K a0 a1) (fun _=>rfl) fun r1 =>
  .ite _ (
   .ret [0] _) (
   .ret [0] _))
def vD (K:Nat) (a0:cB) (a1:Int):Option ((Bool) ⊕ (Bool)) :=
 (bW [!(((a0.iN:Int) == 0) && (decide ((a0.qE:Int)<(Int.ofNat a0.ft.length)))) || cS a0.qE a0.ft.length] (bO ((((a0.iN:Int) == 0) && (decide ((a0.qE:Int)<(Int.ofNat a0.ft.length)))) && ((((a0.ft.getD (a0.qE:Int).toNat default).bP):Int) == a1)) (fun (x1:Bool)=>(some (.inl (x1))))))
theorem lQ (K:Nat) (a0:cB) (a1:Int):bR Tryz.prog 139 [.c (cL.ep a0 0),.c (.val (.int .i64 a1))] [] (bU (vD K a0 a1)) (fun r=>.c (.val (.bool r))) (fun r=>[]):=by
 refine bR.it Tryz.f139 (fun r=>⟨[sB 4 r],[],[],0⟩) ?_
 unfold vD
 exact Ref.pt (
  .ex [0,1,2] <|
  .tx [] <|
  .mT [3,4,5,6,7,8,9,10,11,12,13,14,15,16,17,18,19,20,21,22,23,24,25,26,27,28,29,30,31,32] _ <|
  .lt _ fun x1 =>
  .ret [] _)
def pK (K:Nat) (a0:cB):Option ((Bytes × cB) ⊕ (Bytes × cB)) :=
 ((cK true (bU (vD K a0 1)) default).bind (fun r1=>(if (!r1)=true then ((bU (aAu K a0 3)).bind (fun r2=>(some (.inl (([]:Bytes),r2))))) else (bW [cS (IntKind.i64.wrap ((IntKind.i64.wrap (a0.qE+1)) - 1)) a0.ft.length] (bO ((a0.ft.getD ((IntKind.i64.wrap ((IntKind.i64.wrap (a0.qE+1)) - 1)):Int).toNat default).aBP) (fun (x3:Bytes)=>(some (.inl (x3,(⟨a0.ft,(IntKind.i64.wrap (a0.qE+1)),a0.aG8,a0.iN,a0.aCe⟩:cB))))))))))
theorem iO (K:Nat) (a0:cB):bR Tryz.prog 111 [.c (.ptr 0 0 0)] [cL.o a0] (bU (pK K a0)) (fun r=>.c (.str r.1)) (fun r=>[cL.o r.2]):=by
 refine bR.it Tryz.f111 (fun r=>⟨[sS 2 r.1],[cL.o r.2],[],1⟩) ?_
 unfold pK
 exact Ref.pt (
  .look (default:Bool) _ [0] (lQ K a0 1) (fun _=>rfl) fun r1 =>
  .ite _ (
   .call [0] (oD _ _ _) fun r2 =>
   .ret [0] _) (
   .ex [0,1,2,4,5,6] <|
   .tx [] <|
   .mT [3,7,8,9,10,11,12] _ <|
   .lt _ fun x3 =>
   .ret [0] _))
def fJ (K:Nat) (a0:cB) (a1:Bytes):Option ((cB) ⊕ (cB)) :=
 ((bU (gE K a0 a1)).bind (fun r1=>(if (!r1.1)=true then ((bU (aAu K r1.2 3)).bind (fun r2=>(some (.inr (r2))))) else (some (.inr (r1.2))))))
theorem dJ (K:Nat) (a0:cB) (a1:Bytes):bR Tryz.prog 112 [.c (.ptr 0 0 0),.c (.str a1)] [cL.o a0] (bU (fJ K a0 a1)) (fun r=>.iV []) (fun r=>[cL.o r]):=by
 refine bR.it Tryz.f112 (fun r=>⟨[],[cL.o r],[],1⟩) ?_
 unfold fJ
 exact Ref.pt (
  .call [0] (dO _ _ _) fun r1 =>
  .ite _ (
   .call [0] (oD _ _ _) fun r2 =>
   .nil [0] _) (
   .nil [0] _))
def aDW (K:Nat) (a0:cB):Option ((Int × cB) ⊕ (Int × cB)) :=
 ((cK true (bU (vD K a0 3)) default).bind (fun r1=>(if (!r1)=true then ((bU (aAu K a0 3)).bind (fun r2=>(some (.inl (0,r2))))) else (bW [cS (IntKind.i64.wrap ((IntKind.i64.wrap (a0.qE+1)) - 1)) a0.ft.length] (bO ((a0.ft.getD ((IntKind.i64.wrap ((IntKind.i64.wrap (a0.qE+1)) - 1)):Int).toNat default).fN) (fun (x3:Int)=>(some (.inl (x3,(⟨a0.ft,(IntKind.i64.wrap (a0.qE+1)),a0.aG8,a0.iN,a0.aCe⟩:cB))))))))))
theorem uK (K:Nat) (a0:cB):bR Tryz.prog 115 [.c (.ptr 0 0 0)] [cL.o a0] (bU (aDW K a0)) (fun r=>.c (.val (.int .i64 r.1))) (fun r=>[cL.o r.2]):=by
 refine bR.it Tryz.f115 (fun r=>⟨[sI 2 r.1],[cL.o r.2],[],1⟩) ?_
 unfold aDW
 exact Ref.pt (
  .look (default:Bool) _ [0] (lQ K a0 3) (fun _=>rfl) fun r1 =>
  .ite _ (
   .call [0] (oD _ _ _) fun r2 =>
   .ret [0] _) (
   .ex [0,1,2,4,5,6] <|
   .tx [] <|
   .mT [3,7,8,9,10,11,12] _ <|
   .lt _ fun x3 =>
   .ret [0] _))
def aEI (K:Nat) (a0:cB):Option ((Int × cB) ⊕ (Int × cB)) :=
 ((bU (gE K a0 ([45]:Bytes))).bind (fun r1=>(if r1.1=true then ((bU (aDW K r1.2)).bind (fun r2=>(some (.inl ((IntKind.i64.wrap (0 - r2.1)),r2.2))))) else ((bU (aDW K r1.2)).bind (fun r3=>(some (.inl (r3.1,r3.2))))))))
theorem aAv (K:Nat) (a0:cB):bR Tryz.prog 141 [.c (.ptr 0 0 0)] [cL.o a0] (bU (aEI K a0)) (fun r=>.c (.val (.int .i64 r.1))) (fun r=>[cL.o r.2]):=by
 refine bR.it Tryz.f141 (fun r=>⟨[sI 2 r.1],[cL.o r.2],[],1⟩) ?_
 unfold aEI
 exact Ref.pt (
  .call [0] (dO _ _ _) fun r1 =>
  .ite _ (
   .call [0] (uK _ _) fun r2 =>
   .ret [0] _) (
   .call [0] (uK _ _) fun r3 =>
   .ret [0] _))
def aOP (K:Nat) (a0:cB):Option ((Int × cB) ⊕ (Int × cB)) :=
 (bM (bL ((iter K (fun (eZ:cB × Int)=>(bO (decide ((eZ.2:Int)<(Int.ofNat ([([]:Bytes),([84,79,78]:Bytes),([84,79,70]:Bytes),([84,80]:Bytes),([67,84,85]:Bytes),([67,84,68]:Bytes),([82,95,84,82,73,71]:Bytes),([70,95,84,82,73,71]:Bytes)].length)))) (fun (x38:Bool)=>(if x38=true then (bM (bL (bW [cS eZ.2 ([([]:Bytes),([84,79,78]:Bytes),([84,79,70]:Bytes),([84,80]:Bytes),([67,84,85]:Bytes),([67,84,68]:Bytes),([82,95,84,82,73,71]:Bytes),([70,95,84,82,73,71]:Bytes)].length)] (bO ([([]:Bytes),([84,79,78]:Bytes),([84,79,70]:Bytes),([84,80]:Bytes),([67,84,85]:Bytes),([67,84,68]:Bytes),([82,95,84,82,73,71]:Bytes),([70,95,84,82,73,71]:Bytes)].getD ((eZ.2:Int).toNat) default) (fun (x42:Bytes)=>((bU (gE K eZ.1 x42)).bind (fun qO=>(if qO.1=true then (some (.inl (Sum.inr (Sum.inr (eZ.2,qO.2))))) else (some (.inr (qO.2)))))))))) (fun (u41:cB)=>(some (.inr (u41,(IntKind.i64.wrap (eZ.2+1))))))) else (some (.inl (Sum.inl (eZ.1)))))))) (a0,1)).map .inl)) (fun (dY:cB)=>(some (.inl (0,dY)))))
theorem aRv (K:Nat) (a0:cB):bR Tryz.prog 184 [.c (.ptr 0 0 0)] [cL.o a0] (bU (aOP K a0)) (fun r=>.c (.val (.int .i64 r.1))) (fun r=>[cL.o r.2]):=by
 refine bR.it Tryz.f184 (fun r=>⟨[sI 2 r.1],[cL.o r.2],[],1⟩) ?_
 unfold aOP
 exact Ref.pt (
  .ob 1 1 1 (x:=.row 9 1 8 (hG [[.str []],[.str aHa],[.str aHb],[.str wTP],[.str aHc],[.str aHd],[.str rY],[.str rZ]])) (y:=(E9.row [([]:Bytes),aHa,aHb,wTP,aHc,aHd,rY,rZ])) (El.bZ E9 [([]:Bytes),aHa,aHb,wTP,aHc,aHd,rY,rZ] rfl (by kernel_rfl)) <|
  .sl 1 1 5 (x:=.c (.own 1 8)) (y:=(.c (.own 1 ([([]:Bytes),aHa,aHb,wTP,aHc,aHd,rY,rZ].length)))) (eG.c (eD.own (by first | (simp;done) | (simp;omega) | omega))) <|
  .bk 0 (fun dY=>⟨[],[cL.o dY],[],1⟩) (
   .lp [0,1] (fun eZ=>⟨[sP 0 0 0 0,(3,.c (.own 1 ([([]:Bytes),aHa,aHb,wTP,aHc,aHd,rY,rZ].length))),sI 4 eZ.2],[cL.o eZ.1,E9.row [([]:Bytes),aHa,aHb,wTP,aHc,aHd,rY,rZ]],[],1⟩) fun eZ =>
   .lt _ fun x38 =>
   .ite _ (
    .bk 1 (fun u41=>⟨[sP 0 0 0 0,(3,.c (.own 1 ([([]:Bytes),aHa,aHb,wTP,aHc,aHd,rY,rZ].length))),sI 4 eZ.2],[cL.o u41,E9.row [([]:Bytes),aHa,aHb,wTP,aHc,aHd,rY,rZ]],[],1⟩) (
     .ck _ <|
     .lt _ fun x42 =>
     .call [0] (dO _ _ _) fun qO =>
     .ite _ (
      .ret [0] _) (
      .nil [0,1] _)) fun u41 =>
    .nil [0,1] _) (
    .ret [0] _)) fun dY =>
  .ret [0] _)
def aI4 (K:Nat) (a0:cB):Option ((fP × cB) ⊕ (fP × cB)) :=
 (bM (bL ((bU (gE K a0 ([73,78,84]:Bytes))).bind (fun r21=>(if r21.1=true then ((bU (gE K r21.2 ([40]:Bytes))).bind (fun r22=>(if r22.1=true then ((bU (aEI K r22.2)).bind (fun r23=>((bU (fJ K r23.2 ([46,46]:Bytes))).bind (fun qD=>((bU (aEI K qD)).bind (fun r25=>((bU (fJ K r25.2 ([41]:Bytes))).bind (fun r26=>(some (.inr (r26,3,r23.1,r25.1,([]:Bytes)))))))))))) else (some (.inr (r22.2,1,0,0,([]:Bytes))))))) else ((bU (gE K r21.2 ([66,79,79,76]:Bytes))).bind (fun r27=>(if r27.1=true then (some (.inr (r27.2,2,0,0,([]:Bytes)))) else ((bU (gE K r27.2 ([65,82,82,65,89]:Bytes))).bind (fun r28=>(if r28.1=true then ((bU (fJ K r28.2 ([91]:Bytes))).bind (fun r29=>((bU (aDW K r29)).bind (fun r30=>((bU (fJ K r30.2 ([93]:Bytes))).bind (fun xC=>((bU (fJ K xC ([79,70]:Bytes))).bind (fun r32=>((bU (fJ K r32 ([73,78,84]:Bytes))).bind (fun xD=>(some (.inr (xD,4,0,r30.1,([]:Bytes)))))))))))))) else ((bU (gE K r28.2 ([82,69,70,95,84,79]:Bytes))).bind (fun r34=>(if r34.1=true then ((bU (pK K r34.2)).bind (fun r35=>(some (.inr (r35.2,5,0,0,r35.1))))) else ((cK true (bU (vD K r34.2 1)) default).bind (fun r36=>(if r36=true then ((bU (pK K r34.2)).bind (fun r37=>(some (.inr (r37.2,6,0,0,r37.1))))) else ((bU (aOP K r34.2)).bind (fun r38=>(if ((r38.1:Int) == 0)=true then ((bU (aAu K r38.2 3)).bind (fun r39=>(some (.inr (r39,7,r38.1,0,([]:Bytes)))))) else (some (.inr (r38.2,7,r38.1,0,([]:Bytes))))))))))))))))))))))) (fun (jH:cB × Int × Int × Int × Bytes)=>(some (.inl ((⟨jH.2.1,jH.2.2.1,jH.2.2.2.1,jH.2.2.2.2⟩:fP),jH.1)))))
theorem aF2 (K:Nat) (a0:cB):bR Tryz.prog 140 [.c (.ptr 0 0 0)] [cL.o a0] (bU (aI4 K a0)) (fun r=>.agg (gC.cs r.1)) (fun r=>[cL.o r.2,.cells (gC.cs r.1)]):=by
 refine bR.it Tryz.f140 (fun r=>⟨[sP 2 1 0 0],[cL.o r.2,.cells (gC.cs r.1)],[],1⟩) ?_
 unfold aI4
 exact Ref.pt (
  .bk 0 (fun jH=>⟨[sP 2 1 0 0,sP 3 2 0 0],[cL.o jH.1,qC,.cells [iC jH.2.1,iC jH.2.2.1,iC jH.2.2.2.1,.str jH.2.2.2.2]],[],1⟩) (
   .call [0] (dO _ _ _) fun r21 =>
   .ite _ (
    .call [0] (dO _ _ _) fun r22 =>
    .ite _ (
     .call [0] (aAv _ _) fun r23 =>
     .call [0] (dJ _ _ _) fun qD =>
     .call [0] (aAv _ _) fun r25 =>
     .call [0] (dJ _ _ _) fun r26 =>
     .nil [0,1,2] _) (
     .nil [0,1,2] _)) (
    .call [0] (dO _ _ _) fun r27 =>
    .ite _ (
     .nil [0,1,2] _) (
     .call [0] (dO _ _ _) fun r28 =>
     .ite _ (
      .call [0] (dJ _ _ _) fun r29 =>
      .call [0] (uK _ _) fun r30 =>
      .call [0] (dJ _ _ _) fun xC =>
      .call [0] (dJ _ _ _) fun r32 =>
      .call [0] (dJ _ _ _) fun xD =>
      .nil [0,1,2] _) (
      .call [0] (dO _ _ _) fun r34 =>
      .ite _ (
       .call [0] (iO _ _) fun r35 =>
       .nil [0,1,2] _) (
       .look (default:Bool) _ [0] (lQ K r34.2 1) (fun _=>rfl) fun r36 =>
       .ite _ (
        .call [0] (iO _ _) fun r37 =>
        .nil [0,1,2] _) (
        .call [0] (aRv _ _) fun r38 =>
        .ite _ (
         .call [0] (oD _ _ _) fun r39 =>
         .nil [0,1,2] _) (
         .nil [0,1,2] _))))))) fun jH =>
  .ret [0,1] _)
def aMf (K:Nat) (a0:cB):Option (((List fG) × cB) ⊕ ((List fG) × cB)) :=
 ((bU (fJ K a0 ([40]:Bytes))).bind (fun r1=>((bU (gE K r1 ([41]:Bytes))).bind (fun r2=>(if r2.1=true then (some (.inl ([],r2.2))) else (bM (bL ((iter K (fun (u84:cB × (List fG))=>(if ((u84.1.iN:Int) == 0)=true then (bM (bL ((cK true (bU (vD K u84.1 1)) default).bind (fun aXx=>(bM (if aXx=true then ((bU (F74 K u84.1 (Int.ofNat u84.2.length) 3)).bind (fun aXy=>(some (.inr (aXy))))) else (some (.inr (u84.1)))) (fun (aRx:cB)=>((bU (pK K aRx)).bind (fun y6=>((bU (fJ K y6.2 ([58]:Bytes))).bind (fun aHe=>((bU (aI4 K aHe)).bind (fun qS=>(bW [room ((u84.2.length+([(⟨y6.1,qS.1,0,0,0⟩:fG)].length)) * 80)] ((bU (gE K qS.2 ([44]:Bytes))).bind (fun aHf=>(if (!aHf.1)=true then ((bU (fJ K aHf.2 ([41]:Bytes))).bind (fun aOR=>(some (.inl (Sum.inr (Sum.inl (aOR,(u84.2++[(⟨y6.1,qS.1,0,0,0⟩:fG)])))))))) else (some (.inr (aHf.2,(u84.2++[(⟨y6.1,qS.1,0,0,0⟩:fG)]))))))))))))))))))) (fun (aI6:cB × (List fG))=>(some (.inr (aI6.1,aI6.2))))) else (some (.inl (Sum.inl (u84.1,u84.2)))))) (r2.2,[])).map .inl)) (fun (u63:cB × (List fG))=>(some (.inl (u63.2,u63.1))))))))))
theorem aKC (K:Nat) (a0:cB):bR Tryz.prog 137 [.c (.ptr 0 0 0)] [cL.o a0] (bU (aMf K a0)) (fun r=>.c (eU.tree r.1)) (fun r=>[cL.o r.2]):=by
 refine bR.it Tryz.f137 (fun r=>⟨[(2,.c (eU.tree r.1))],[cL.o r.2],[],1⟩) ?_
 unfold aMf
 exact Ref.pt (
  .call [0] (dJ _ _ _) fun r1 =>
  .call [0] (dO _ _ _) fun r2 =>
  .ite _ (
   .sl 4 0 2 (x:=.c (.nil)) (y:=(.c (eU.tree []))) (eG.c (El.cO eU)) <|
   .ret [0] _) (
   .bk 0 (fun u63=>⟨[(3,.c (.own 1 u63.2.length))],[cL.o u63.1,eU.row u63.2],[],1⟩) (
    .ad 3 0 3 eU.ty eU.w (eU.at []) <|
    .lp [0,1] (fun u84=>⟨[sP 0 0 0 0,(3,.c (.own 1 u84.2.length))],[cL.o u84.1,eU.row u84.2],[],1⟩) fun u84 =>
    .ite _ (
     .bk 1 (fun aI6=>⟨[sP 0 0 0 0,(3,.c (.own 1 aI6.2.length))],[cL.o aI6.1,eU.row aI6.2],[],1⟩) (
      .look (default:Bool) _ [0] (lQ K u84.1 1) (fun _=>rfl) fun aXx =>
      .jn (fun aRx=>⟨[sP 0 0 0 0,(3,.c (.own 1 u84.2.length))],[cL.o aRx,eU.row u84.2],[],1⟩) (
       .ite _ (
        .call [0] (qR _ _ _ _) fun aXy =>
        .nil [0,1] _) (
        .nil [0,1] _)) fun aRx =>
      .call [0] (iO _ _) fun y6 =>
      .call [0] (dJ _ _ _) fun aHe =>
      .call [0] (aF2 _ _) fun qS =>
      .ob 11 2 4 (x:=.row 41 8 1 (hG [[.str y6.1,iC qS.1.bP,iC qS.1.fLo,iC qS.1.vG,.str qS.1.cG,iC 0,iC 0,iC 0]])) (y:=(eU.row [(⟨y6.1,qS.1,0,0,0⟩:fG)])) (El.bZ eU [(⟨y6.1,qS.1,0,0,0⟩:fG)] rfl (by kernel_rfl)) <|
      .sl 11 2 30 (x:=.c (.own 4 1)) (y:=(.c (.own 4 ([(⟨y6.1,qS.1,0,0,0⟩:fG)].length)))) (eG.c (eD.own (by first | (simp;done) | (simp;omega) | omega))) <|
      .ck _ <|
      .ob 11 1 5 (x:=.row 41 8 (u84.2.length+([(⟨y6.1,qS.1,0,0,0⟩:fG)].length)) fun i j=>bif Nat.blt i u84.2.length then eU.at u84.2 i j else (eU.at [(⟨y6.1,qS.1,0,0,0⟩:fG)]) (i - u84.2.length) j) (y:=(eU.row (u84.2++[(⟨y6.1,qS.1,0,0,0⟩:fG)]))) (El.cH eU u84.2 [(⟨y6.1,qS.1,0,0,0⟩:fG)] rfl rfl) <|
      .sl 11 1 31 (x:=.c (.own 5 (u84.2.length+([(⟨y6.1,qS.1,0,0,0⟩:fG)].length)))) (y:=(.c (.own 5 ((u84.2++[(⟨y6.1,qS.1,0,0,0⟩:fG)]).length)))) (eG.c (eD.own (by first | (simp;done) | (simp;omega) | omega))) <|
      .call [0] (dO _ _ _) fun aHf =>
      .ite _ (
       .call [0] (dJ _ _ _) fun aOR =>
       .ret [0,5] _) (
       .nil [0,5] _)) fun aI6 =>
     .nil [0,1] _) (
     .ret [0,1] _)) fun u63 =>
   .fz 14 0 1 <|
   .ret [0] _))
def aMg (K:Nat) (a0:cB):Option ((fP × cB) ⊕ (fP × cB)) :=
 ((bU (gE K a0 ([58]:Bytes))).bind (fun r1=>(if r1.1=true then ((bU (aI4 K r1.2)).bind (fun r2=>(some (.inl (r2.1,r2.2))))) else (some (.inl ((⟨0,0,0,([]:Bytes)⟩:fP),r1.2))))))
theorem aKD (K:Nat) (a0:cB):bR Tryz.prog 138 [.c (.ptr 0 0 0)] [cL.o a0] (bU (aMg K a0)) (fun r=>.agg (gC.cs r.1)) (fun r=>[cL.o r.2,.cells (gC.cs r.1)]):=by
 refine bR.it Tryz.f138 (fun r=>⟨[sP 2 1 0 0],[cL.o r.2,.cells (gC.cs r.1)],[],1⟩) ?_
 unfold aMg
 exact Ref.pt (
  .call [0] (dO _ _ _) fun r1 =>
  .ite _ (
   .call [0] (aF2 _ _) fun r2 =>
   .ret [0,1] _) (
   .ret [0,1] _))
def aOS (K:Nat) (a0:cB):Option ((jX × cB) ⊕ (jX × cB)) :=
 ((bU (pK K a0)).bind (fun r1=>((bU (fJ K r1.2 ([59]:Bytes))).bind (fun r2=>(bM (bL ((iter K (fun (u64:cB × (List iI))=>((cK true (bU (F73 K u64.1 ([77,69,84,72,79,68]:Bytes))) default).bind (fun r80=>(if r80=true then (bM (bL ((bU (F74 K u64.1 (Int.ofNat u64.2.length) 6)).bind (fun r88=>((bU (fJ K r88 ([77,69,84,72,79,68]:Bytes))).bind (fun r89=>((bU (pK K r89)).bind (fun r90=>((bU (aMf K r90.2)).bind (fun r91=>((bU (aMg K r91.2)).bind (fun r92=>((bU (fJ K r92.2 ([59]:Bytes))).bind (fun r93=>(bW [room ((u64.2.length+([(⟨r90.1,false,false,false,r91.1,r92.1,[],[]⟩:iI)].length)) * 136)] (some (.inr (r93,(u64.2++[(⟨r90.1,false,false,false,r91.1,r92.1,[],[]⟩:iI)])))))))))))))))))) (fun (jJ:cB × (List iI))=>(some (.inr (jJ.1,jJ.2))))) else (some (.inl (Sum.inl (u64.1,u64.2)))))))) (r2,[])).map .inl)) (fun (gZ:cB × (List iI))=>((bU (fJ K gZ.1 ([69,78,68,95,73,78,84,69,82,70,65,67,69]:Bytes))).bind (fun r94=>(some (.inl ((⟨1,r1.1,([]:Bytes),[],false,false,[],gZ.2,[],0,0⟩:jX),r94)))))))))))
abbrev aI7 (v0:cB × (List iI)) (v1:Bytes × cB):List Go.Dl.Obj:=[cL.o v0.1,oX3,.cells [iC 1,.str v1.1,.str [],.nil,bC false,bC false,.nil,.own 3 v0.2.length,.nil,iC 0,iC 0],kT.row v0.2]
theorem aRy (K:Nat) (a0:cB):bR Tryz.prog 109 [.c (.ptr 0 0 0)] [cL.o a0] (bU (aOS K a0)) (fun r=>.agg (iY.cs r.1)) (fun r=>[cL.o r.2,iY.o r.1]):=by
 refine bR.it Tryz.f109 (fun r=>⟨[sP 2 1 0 0],[cL.o r.2,iY.o r.1],[],1⟩) ?_
 unfold aOS
 exact Ref.pt (
  .call [0] (iO _ _) fun r1 =>
  .call [0] (dJ _ _ _) fun r2 =>
  .bk 0 (fun gZ=>⟨[sP 0 0 0 0,sP 2 1 0 0,sP 3 2 0 0],aI7 gZ r1,[],1⟩) (
   .adc 2 0 2 7 kT.ty kT.w (kT.at []) <|
   .lp [0,1,2,3] (fun u64=>⟨[sP 0 0 0 0,sP 2 1 0 0,sP 3 2 0 0],aI7 u64 r1,[],1⟩) fun u64 =>
   .look (default:Bool) _ [0] (lG K u64.1 ([77,69,84,72,79,68]:Bytes)) (fun _=>rfl) fun r80 =>
   .ite _ (
    .bk 1 (fun jJ=>⟨[sP 0 0 0 0,sP 2 1 0 0,sP 3 2 0 0],aI7 jJ r1,[],1⟩) (
     .call [0] (qR _ _ _ _) fun r88 =>
     .call [0] (dJ _ _ _) fun r89 =>
     .call [0] (iO _ _) fun r90 =>
     .call [0] (aKC _ _) fun r91 =>
     .call [0] (aKD _ _) fun r92 =>
     .call [0] (dJ _ _ _) fun r93 =>
     .sk 10 4 32 9 (x:=.nil) (y:=eU.tree []) (El.cO eU) <|
     .sk 10 4 32 10 (x:=.nil) (y:=dL.tree []) (El.cO dL) <|
     .ob 10 3 6 (x:=.row 39 11 1 (hG [[.str r90.1,bC false,bC false,bC false,eU.tree r91.1,iC r92.1.bP,iC r92.1.fLo,iC r92.1.vG,.str r92.1.cG,eU.tree [],dL.tree []]])) (y:=(kT.row [(⟨r90.1,false,false,false,r91.1,r92.1,[],[]⟩:iI)])) (El.bZ kT [(⟨r90.1,false,false,false,r91.1,r92.1,[],[]⟩:iI)] rfl (by kernel_rfl)) <|
     .sl 10 3 33 (x:=.c (.own 6 1)) (y:=(.c (.own 6 ([(⟨r90.1,false,false,false,r91.1,r92.1,[],[]⟩:iI)].length)))) (eG.c (eD.own (by first | (simp;done) | (simp;omega) | omega))) <|
     .ck _ <|
     .ob 10 2 7 (x:=.row 39 11 (u64.2.length+([(⟨r90.1,false,false,false,r91.1,r92.1,[],[]⟩:iI)].length)) fun i j=>bif Nat.blt i u64.2.length then kT.at u64.2 i j else (kT.at [(⟨r90.1,false,false,false,r91.1,r92.1,[],[]⟩:iI)]) (i - u64.2.length) j) (y:=(kT.row (u64.2++[(⟨r90.1,false,false,false,r91.1,r92.1,[],[]⟩:iI)]))) (El.cH kT u64.2 [(⟨r90.1,false,false,false,r91.1,r92.1,[],[]⟩:iI)] rfl rfl) <|
     .sl 10 2 34 (x:=.c (.own 7 (u64.2.length+([(⟨r90.1,false,false,false,r91.1,r92.1,[],[]⟩:iI)].length)))) (y:=(.c (.own 7 ((u64.2++[(⟨r90.1,false,false,false,r91.1,r92.1,[],[]⟩:iI)]).length)))) (eG.c (eD.own (by first | (simp;done) | (simp;omega) | omega))) <|
     .nil [0,1,2,7] _) fun jJ =>
    .nil [0,1,2,3] _) (
    .ret [0,1,2,3] _)) fun gZ =>
  .call [0] (dJ _ _ _) fun r94 =>
  .ok 12 0 1 3 (x:=.nil) (y:=E9.tree []) (El.cO E9) <|
  .ok 12 0 1 6 (x:=.nil) (y:=eU.tree []) (El.cO eU) <|
  .fz 12 0 3 <|
  .ok 12 0 1 8 (x:=.nil) (y:=dL.tree []) (El.cO dL) <|
  .ret [0,1] _)
def aI8 (K:Nat) (a0:cB):Option (((List fG) × cB) ⊕ ((List fG) × cB)) :=
 (bM (bL ((iter K (fun (nZ:cB × (List fG))=>((cK true (bU (F73 K nZ.1 ([86,65,82]:Bytes))) default).bind (fun aG6=>(if aG6=true then (bM (bL ((bU (F74 K nZ.1 (Int.ofNat nZ.2.length) 8)).bind (fun aXz=>((bU (fJ K aXz ([86,65,82]:Bytes))).bind (fun aXA=>((bU (pK K aXA)).bind (fun wM=>((bU (fJ K wM.2 ([58]:Bytes))).bind (fun aXB=>((bU (aI4 K aXB)).bind (fun nG=>((bU (gE K nG.2 ([58,61]:Bytes))).bind (fun aRz=>(bM (if aRz.1=true then ((bU (aEI K aRz.2)).bind (fun aUP=>(some (.inr (aUP.2,aUP.1))))) else (some (.inr (aRz.2,0)))) (fun (uL:cB × Int)=>((bU (gE K uL.1 ([65,84]:Bytes))).bind (fun aRA=>(bM (if aRA.1=true then ((bU (gE K aRA.2 ([73,78]:Bytes))).bind (fun aRB=>(bM (if (!aRB.1)=true then ((bU (fJ K aRB.2 ([79,85,84]:Bytes))).bind (fun aXC=>(some (.inr (aXC,2))))) else (some (.inr (aRB.2,1)))) (fun (aMh:cB × Int)=>((bU (aDW K aMh.1)).bind (fun aUQ=>(some (.inr (aUQ.2,aMh.2,aUQ.1))))))))) else (some (.inr (aRA.2,0,0)))) (fun (mR:cB × Int × Int)=>((bU (fJ K mR.1 ([59]:Bytes))).bind (fun aXD=>(bW [room ((nZ.2.length+([(⟨wM.1,nG.1,uL.2,mR.2.1,mR.2.2⟩:fG)].length)) * 80)] (some (.inr (aXD,(nZ.2++[(⟨wM.1,nG.1,uL.2,mR.2.1,mR.2.2⟩:fG)])))))))))))))))))))))))))) (fun (aI9:cB × (List fG))=>(some (.inr (aI9.1,aI9.2))))) else (some (.inl (Sum.inl (nZ.1,nZ.2)))))))) (a0,[])).map .inl)) (fun (aJa:cB × (List fG))=>(some (.inl (aJa.2,aJa.1)))))
theorem aF3 (K:Nat) (a0:cB):bR Tryz.prog 113 [.c (.ptr 0 0 0)] [cL.o a0] (bU (aI8 K a0)) (fun r=>.c (eU.tree r.1)) (fun r=>[cL.o r.2]):=by
 refine bR.it Tryz.f113 (fun r=>⟨[(2,.c (eU.tree r.1))],[cL.o r.2],[],1⟩) ?_
 unfold aI8
 exact Ref.pt (
  .bk 0 (fun aJa=>⟨[(3,.c (.own 1 aJa.2.length))],[cL.o aJa.1,eU.row aJa.2],[],1⟩) (
   .ad 1 0 3 eU.ty eU.w (eU.at []) <|
   .lp [0,1] (fun nZ=>⟨[sP 0 0 0 0,(3,.c (.own 1 nZ.2.length))],[cL.o nZ.1,eU.row nZ.2],[],1⟩) fun nZ =>
   .look (default:Bool) _ [0] (lG K nZ.1 ([86,65,82]:Bytes)) (fun _=>rfl) fun aG6 =>
   .ite _ (
    .bk 1 (fun aI9=>⟨[sP 0 0 0 0,(3,.c (.own 1 aI9.2.length))],[cL.o aI9.1,eU.row aI9.2],[],1⟩) (
     .call [0] (qR _ _ _ _) fun aXz =>
     .call [0] (dJ _ _ _) fun aXA =>
     .call [0] (iO _ _) fun wM =>
     .call [0] (dJ _ _ _) fun aXB =>
     .call [0] (aF2 _ _) fun nG =>
     .call [0] (dO _ _ _) fun aRz =>
     .jn (fun uL=>⟨[sP 0 0 0 0,(3,.c (.own 1 nZ.2.length)),sP 4 2 0 0],[cL.o uL.1,eU.row nZ.2,.cells [.str wM.1,iC nG.1.bP,iC nG.1.fLo,iC nG.1.vG,.str nG.1.cG,iC uL.2,iC 0,iC 0]],[],1⟩) (
      .ite _ (
       .call [0] (aAv _ _) fun aUP =>
       .nil [0,1,2] _) (
       .nil [0,1,2] _)) fun uL =>
     .call [0] (dO _ _ _) fun aRA =>
     .jn (fun mR=>⟨[sP 0 0 0 0,(3,.c (.own 1 nZ.2.length)),sP 4 2 0 0],[cL.o mR.1,eU.row nZ.2,.cells [.str wM.1,iC nG.1.bP,iC nG.1.fLo,iC nG.1.vG,.str nG.1.cG,iC uL.2,iC mR.2.1,iC mR.2.2]],[],1⟩) (
      .ite _ (
       .call [0] (dO _ _ _) fun aRB =>
       .jn (fun aMh=>⟨[sP 0 0 0 0,(3,.c (.own 1 nZ.2.length)),sP 4 2 0 0],[cL.o aMh.1,eU.row nZ.2,.cells [.str wM.1,iC nG.1.bP,iC nG.1.fLo,iC nG.1.vG,.str nG.1.cG,iC uL.2,iC aMh.2,iC 0]],[],1⟩) (
        .ite _ (
         .call [0] (dJ _ _ _) fun aXC =>
         .nil [0,1,2] _) (
         .nil [0,1,2] _)) fun aMh =>
       .call [0] (uK _ _) fun aUQ =>
       .nil [0,1,2] _) (
       .nil [0,1,2] _)) fun mR =>
     .call [0] (dJ _ _ _) fun aXD =>
     .ob 17 2 3 (x:=.row 41 8 1 (hG [[.str wM.1,iC nG.1.bP,iC nG.1.fLo,iC nG.1.vG,.str nG.1.cG,iC uL.2,iC mR.2.1,iC mR.2.2]])) (y:=(eU.row [(⟨wM.1,nG.1,uL.2,mR.2.1,mR.2.2⟩:fG)])) (El.bZ eU [(⟨wM.1,nG.1,uL.2,mR.2.1,mR.2.2⟩:fG)] rfl (by kernel_rfl)) <|
     .sl 17 2 42 (x:=.c (.own 3 1)) (y:=(.c (.own 3 ([(⟨wM.1,nG.1,uL.2,mR.2.1,mR.2.2⟩:fG)].length)))) (eG.c (eD.own (by first | (simp;done) | (simp;omega) | omega))) <|
     .ck _ <|
     .ob 17 1 4 (x:=.row 41 8 (nZ.2.length+([(⟨wM.1,nG.1,uL.2,mR.2.1,mR.2.2⟩:fG)].length)) fun i j=>bif Nat.blt i nZ.2.length then eU.at nZ.2 i j else (eU.at [(⟨wM.1,nG.1,uL.2,mR.2.1,mR.2.2⟩:fG)]) (i - nZ.2.length) j) (y:=(eU.row (nZ.2++[(⟨wM.1,nG.1,uL.2,mR.2.1,mR.2.2⟩:fG)]))) (El.cH eU nZ.2 [(⟨wM.1,nG.1,uL.2,mR.2.1,mR.2.2⟩:fG)] rfl rfl) <|
     .sl 17 1 43 (x:=.c (.own 4 (nZ.2.length+([(⟨wM.1,nG.1,uL.2,mR.2.1,mR.2.2⟩:fG)].length)))) (y:=(.c (.own 4 ((nZ.2++[(⟨wM.1,nG.1,uL.2,mR.2.1,mR.2.2⟩:fG)]).length)))) (eG.c (eD.own (by first | (simp;done) | (simp;omega) | omega))) <|
     .nil [0,4] _) fun aI9 =>
    .nil [0,1] _) (
    .ret [0,1] _)) fun aJa =>
  .fz 18 0 1 <|
  .ret [0] _)
def aMi (K:Nat) (a0:cB):Option ((Bool) ⊕ (Bool)) :=
 (bM (bL ((iter K (fun (eZ:Int)=>(bO (decide ((eZ:Int)<(Int.ofNat ([([84,72,73,83]:Bytes),([83,85,80,69,82]:Bytes),([73,70]:Bytes),([67,65,83,69]:Bytes),([87,72,73,76,69]:Bytes),([70,79,82]:Bytes),([82,69,84,85,82,78]:Bytes),([69,88,73,84]:Bytes),([83,84,69,80]:Bytes)].length)))) (fun (x38:Bool)=>(if x38=true then (bM (bL (bW [cS eZ ([([84,72,73,83]:Bytes),([83,85,80,69,82]:Bytes),([73,70]:Bytes),([67,65,83,69]:Bytes),([87,72,73,76,69]:Bytes),([70,79,82]:Bytes),([82,69,84,85,82,78]:Bytes),([69,88,73,84]:Bytes),([83,84,69,80]:Bytes)].length)] (bO ([([84,72,73,83]:Bytes),([83,85,80,69,82]:Bytes),([73,70]:Bytes),([67,65,83,69]:Bytes),([87,72,73,76,69]:Bytes),([70,79,82]:Bytes),([82,69,84,85,82,78]:Bytes),([69,88,73,84]:Bytes),([83,84,69,80]:Bytes)].getD ((eZ:Int).toNat) default) (fun (x42:Bytes)=>((bU (F73 K a0 x42)).bind (fun qO=>(if qO=true then (some (.inl (Sum.inr (Sum.inr (true))))) else (some (.inr ()))))))))) (fun (u41:Unit)=>(some (.inr ((IntKind.i64.wrap (eZ+1))))))) else (some (.inl (Sum.inl ()))))))) (0)).map .inl)) (fun (dY:Unit)=>((bU (vD K a0 1)).bind (fun r44=>(some (.inl (r44)))))))
theorem aKG (K:Nat) (a0:cB):bR Tryz.prog 142 [.c (cL.ep a0 0)] [] (bU (aMi K a0)) (fun r=>.c (.val (.bool r))) (fun r=>[]):=by
 refine bR.it Tryz.f142 (fun r=>⟨[sB 2 r],[],[],0⟩) ?_
 unfold aMi
 exact Ref.pt (
  .ob 1 1 0 (x:=.row 9 1 9 (hG [[.str pO],[.str lZ],[.str wIF],[.str aBR],[.str wN],[.str aHh],[.str sA],[.str aBS],[.str aBT]])) (y:=(E9.row [pO,lZ,wIF,aBR,wN,aHh,sA,aBS,aBT])) (El.bZ E9 [pO,lZ,wIF,aBR,wN,aHh,sA,aBS,aBT] rfl (by kernel_rfl)) <|
  .sl 1 1 5 (x:=.c (.own 0 9)) (y:=(.c (.own 0 ([pO,lZ,wIF,aBR,wN,aHh,sA,aBS,aBT].length)))) (eG.c (eD.own (by first | (simp;done) | (simp;omega) | omega))) <|
  .bk 0 (fun dY=>⟨[(0,.c (cL.ep a0 0))],[],[],0⟩) (
   .lp [0] (fun eZ=>⟨[(0,.c (cL.ep a0 0)),(3,.c (.own 0 ([pO,lZ,wIF,aBR,wN,aHh,sA,aBS,aBT].length))),sI 4 eZ],[E9.row [pO,lZ,wIF,aBR,wN,aHh,sA,aBS,aBT]],[],0⟩) fun eZ =>
   .lt _ fun x38 =>
   .ite _ (
    .bk 1 (fun u41=>⟨[(0,.c (cL.ep a0 0)),(3,.c (.own 0 ([pO,lZ,wIF,aBR,wN,aHh,sA,aBS,aBT].length))),sI 4 eZ],[E9.row [pO,lZ,wIF,aBR,wN,aHh,sA,aBS,aBT]],[],0⟩) (
     .ck _ <|
     .lt _ fun x42 =>
     .call [] (lG _ _ _) fun qO =>
     .ite _ (
      .ret [] _) (
      .nil [0] _)) fun u41 =>
    .nil [0] _) (
    .ret [] _)) fun dY =>
  .call [] (lQ _ _ _) fun r44 =>
  .ret [] _)
def aJb (K:Nat) (a0:cB):Option ((Bytes × cB) ⊕ (Bytes × cB)) :=
 ((bU (fJ K a0 ([40]:Bytes))).bind (fun r1=>((bU (pK K r1)).bind (fun r2=>((bU (fJ K r2.2 ([41]:Bytes))).bind (fun r3=>(some (.inl (r2.1,r3)))))))))
theorem aF4 (K:Nat) (a0:cB):bR Tryz.prog 217 [.c (.ptr 0 0 0)] [cL.o a0] (bU (aJb K a0)) (fun r=>.c (.str r.1)) (fun r=>[cL.o r.2]):=by
 refine bR.it Tryz.f217 (fun r=>⟨[sS 2 r.1],[cL.o r.2],[],1⟩) ?_
 unfold aJb
 exact Ref.pt (
  .call [0] (dJ _ _ _) fun r1 =>
  .call [0] (iO _ _) fun r2 =>
  .call [0] (dJ _ _ _) fun r3 =>
  .ret [0] _)
def aOT (K:Nat) (a0:cB):Option ((Int × cB) ⊕ (Int × cB)) :=
 (bM (bL ((iter K (fun (eZ:cB × Int)=>(bO (decide ((eZ.2:Int)<(Int.ofNat ([([]:Bytes),([43]:Bytes),([45]:Bytes),([42]:Bytes),([47]:Bytes),([77,79,68]:Bytes),([61]:Bytes),([60,62]:Bytes),([60]:Bytes),([60,61]:Bytes),([62]:Bytes),([62,61]:Bytes),([65,78,68]:Bytes),([79,82]:Bytes),([88,79,82]:Bytes)].length)))) (fun (x38:Bool)=>(if x38=true then (bM (bL (bW [cS eZ.2 ([([]:Bytes),([43]:Bytes),([45]:Bytes),([42]:Bytes),([47]:Bytes),([77,79,68]:Bytes),([61]:Bytes),([60,62]:Bytes),([60]:Bytes),([60,61]:Bytes),([62]:Bytes),([62,61]:Bytes),([65,78,68]:Bytes),([79,82]:Bytes),([88,79,82]:Bytes)].length)] (bO ([([]:Bytes),([43]:Bytes),([45]:Bytes),([42]:Bytes),([47]:Bytes),([77,79,68]:Bytes),([61]:Bytes),([60,62]:Bytes),([60]:Bytes),([60,61]:Bytes),([62]:Bytes),([62,61]:Bytes),([65,78,68]:Bytes),([79,82]:Bytes),([88,79,82]:Bytes)].getD ((eZ.2:Int).toNat) default) (fun (x42:Bytes)=>((bU (gE K eZ.1 x42)).bind (fun qO=>(if qO.1=true then (some (.inl (Sum.inr (Sum.inr (eZ.2,qO.2))))) else (some (.inr (qO.2)))))))))) (fun (u41:cB)=>(some (.inr (u41,(IntKind.i64.wrap (eZ.2+1))))))) else (some (.inl (Sum.inl (eZ.1)))))))) (a0,1)).map .inl)) (fun (dY:cB)=>(some (.inl (0,dY)))))
theorem aRC (K:Nat) (a0:cB):bR Tryz.prog 214 [.c (.ptr 0 0 0)] [cL.o a0] (bU (aOT K a0)) (fun r=>.c (.val (.int .i64 r.1))) (fun r=>[cL.o r.2]):=by
 refine bR.it Tryz.f214 (fun r=>⟨[sI 2 r.1],[cL.o r.2],[],1⟩) ?_
 unfold aOT
 exact Ref.pt (
  .ob 1 1 1 (x:=.row 9 1 15 (hG [[.str []],[.str aHi],[.str uM],[.str aHj],[.str aHk],[.str aHl],[.str aHm],[.str sC],[.str aHn],[.str sD],[.str aHo],[.str sF],[.str aHp],[.str wOR],[.str aHq]])) (y:=(E9.row [([]:Bytes),aHi,uM,aHj,aHk,aHl,aHm,sC,aHn,sD,aHo,sF,aHp,wOR,aHq])) (El.bZ E9 [([]:Bytes),aHi,uM,aHj,aHk,aHl,aHm,sC,aHn,sD,aHo,sF,aHp,wOR,aHq] rfl (by kernel_rfl)) <|
  .sl 1 1 5 (x:=.c (.own 1 15)) (y:=(.c (.own 1 ([([]:Bytes),aHi,uM,aHj,aHk,aHl,aHm,sC,aHn,sD,aHo,sF,aHp,wOR,aHq].length)))) (eG.c (eD.own (by first | (simp;done) | (simp;omega) | omega))) <|
  .bk 0 (fun dY=>⟨[],[cL.o dY],[],1⟩) (
   .lp [0,1] (fun eZ=>⟨[sP 0 0 0 0,(3,.c (.own 1 ([([]:Bytes),aHi,uM,aHj,aHk,aHl,aHm,sC,aHn,sD,aHo,sF,aHp,wOR,aHq].length))),sI 4 eZ.2],[cL.o eZ.1,E9.row [([]:Bytes),aHi,uM,aHj,aHk,aHl,aHm,sC,aHn,sD,aHo,sF,aHp,wOR,aHq]],[],1⟩) fun eZ =>
   .lt _ fun x38 =>
   .ite _ (
    .bk 1 (fun u41=>⟨[sP 0 0 0 0,(3,.c (.own 1 ([([]:Bytes),aHi,uM,aHj,aHk,aHl,aHm,sC,aHn,sD,aHo,sF,aHp,wOR,aHq].length))),sI 4 eZ.2],[cL.o u41,E9.row [([]:Bytes),aHi,uM,aHj,aHk,aHl,aHm,sC,aHn,sD,aHo,sF,aHp,wOR,aHq]],[],1⟩) (
     .ck _ <|
     .lt _ fun x42 =>
     .call [0] (dO _ _ _) fun qO =>
     .ite _ (
      .ret [0] _) (
      .nil [0,1] _)) fun u41 =>
    .nil [0,1] _) (
    .ret [0] _)) fun dY =>
  .ret [0] _)
def aJc (K:Nat) (a0:cB):Option ((Bool) ⊕ (Bool)) :=
 ((bU (vD K a0 1)).bind (fun r1=>((cK (!r1) (bU (vD K a0 3)) default).bind (fun r2=>(if (r1 || r2)=true then (some (.inl (true))) else (bM (bL ((iter K (fun (u32:Int)=>(bO (decide ((u32:Int)<(Int.ofNat ([([45]:Bytes),([78,79,84]:Bytes),([84,82,85,69]:Bytes),([70,65,76,83,69]:Bytes),([78,85,76,76]:Bytes),([84,72,73,83]:Bytes),([83,85,80,69,82]:Bytes),([82,69,70]:Bytes),([68,79,78,69]:Bytes),([67,79,85,78,84]:Bytes),([65,83]:Bytes),([40]:Bytes)].length)))) (fun (x40:Bool)=>(if x40=true then (bM (bL (bW [cS u32 ([([45]:Bytes),([78,79,84]:Bytes),([84,82,85,69]:Bytes),([70,65,76,83,69]:Bytes),([78,85,76,76]:Bytes),([84,72,73,83]:Bytes),([83,85,80,69,82]:Bytes),([82,69,70]:Bytes),([68,79,78,69]:Bytes),([67,79,85,78,84]:Bytes),([65,83]:Bytes),([40]:Bytes)].length)] (bO ([([45]:Bytes),([78,79,84]:Bytes),([84,82,85,69]:Bytes),([70,65,76,83,69]:Bytes),([78,85,76,76]:Bytes),([84,72,73,83]:Bytes),([83,85,80,69,82]:Bytes),([82,69,70]:Bytes),([68,79,78,69]:Bytes),([67,79,85,78,84]:Bytes),([65,83]:Bytes),([40]:Bytes)].getD ((u32:Int).toNat) default) (fun (x44:Bytes)=>((bU (F73 K a0 x44)).bind (fun r45=>(if r45=true then (some (.inl (Sum.inr (Sum.inr (true))))) else (some (.inr ()))))))))) (fun (u43:Unit)=>(some (.inr ((IntKind.i64.wrap (u32+1))))))) else (some (.inl (Sum.inl ()))))))) (0)).map .inl)) (fun (u24:Unit)=>(some (.inl (false))))))))))
theorem aF6 (K:Nat) (a0:cB):bR Tryz.prog 188 [.c (cL.ep a0 0)] [] (bU (aJc K a0)) (fun r=>.c (.val (.bool r))) (fun r=>[]):=by
 refine bR.it Tryz.f188 (fun r=>⟨[sB 2 r],[],[],0⟩) ?_
 unfold aJc
 exact Ref.pt (
  .call [] (lQ _ _ _) fun r1 =>
  .look (default:Bool) _ [] (lQ K a0 3) (fun _=>rfl) fun r2 =>
  .ite _ (
   .ret [] _) (
   .ob 3 1 0 (x:=.row 9 1 12 (hG [[.str uM],[.str aHr],[.str aBU],[.str wO],[.str aBV],[.str pO],[.str lZ],[.str aHs],[.str aBW],[.str wQ],[.str wAS],[.str aHt]])) (y:=(E9.row [uM,aHr,aBU,wO,aBV,pO,lZ,aHs,aBW,wQ,wAS,aHt])) (El.bZ E9 [uM,aHr,aBU,wO,aBV,pO,lZ,aHs,aBW,wQ,wAS,aHt] rfl (by kernel_rfl)) <|
   .sl 3 1 11 (x:=.c (.own 0 12)) (y:=(.c (.own 0 ([uM,aHr,aBU,wO,aBV,pO,lZ,aHs,aBW,wQ,wAS,aHt].length)))) (eG.c (eD.own (by first | (simp;done) | (simp;omega) | omega))) <|
   .bk 0 (fun u24=>⟨[],[],[],0⟩) (
    .lp [0] (fun u32=>⟨[(0,.c (cL.ep a0 0)),(3,.c (.own 0 ([uM,aHr,aBU,wO,aBV,pO,lZ,aHs,aBW,wQ,wAS,aHt].length))),sI 4 u32],[E9.row [uM,aHr,aBU,wO,aBV,pO,lZ,aHs,aBW,wQ,wAS,aHt]],[],0⟩) fun u32 =>
    .lt _ fun x40 =>
    .ite _ (
     .bk 1 (fun u43=>⟨[(0,.c (cL.ep a0 0)),(3,.c (.own 0 ([uM,aHr,aBU,wO,aBV,pO,lZ,aHs,aBW,wQ,wAS,aHt].length))),sI 4 u32],[E9.row [uM,aHr,aBU,wO,aBV,pO,lZ,aHs,aBW,wQ,wAS,aHt]],[],0⟩) (
      .ck _ <|
      .lt _ fun x44 =>
      .call [] (lG _ _ _) fun r45 =>
      .ite _ (
       .ret [] _) (
       .nil [0] _)) fun u43 =>
     .nil [0] _) (
     .ret [] _)) fun u24 =>
   .ret [] _))
mutual
def qT:(K:Nat)→(cB)→(Int)→Option ((cM × cB) ⊕ (cM × cB))
 | 0,_,_=>none
 | K+1,a0,a1 =>
 ((cK (decide ((a1:Int) > 6)) (bU (aJc K a0)) default).bind (fun r1=>(bM (if ((decide ((a1:Int) > 6)) && r1)=true then ((bU (aAu K a0 4)).bind (fun r4=>(some (.inr (r4))))) else (some (.inr (a0)))) (fun (u3:cB)=>((bU (gE K u3 ([45]:Bytes))).bind (fun r5=>(if r5.1=true then ((bU (aF7 K r5.2 a1)).bind (fun r6=>(some (.inl ((⟨7,0,([]:Bytes),([]:Bytes),[r6.1]⟩:cM),r6.2))))) else ((bU (gE K r5.2 ([78,79,84]:Bytes))).bind (fun r7=>(if r7.1=true then ((bU (aF7 K r7.2 a1)).bind (fun r8=>(some (.inl ((⟨8,0,([]:Bytes),([]:Bytes),[r8.1]⟩:cM),r8.2))))) else ((bU (aF7 K r7.2 a1)).bind (fun r9=>((bU (aOT K r9.2)).bind (fun jZ=>(if ((jZ.1:Int) == 0)=true then (some (.inl (r9.1,jZ.2))) else ((bU (aF7 K jZ.2 a1)).bind (fun r11=>(some (.inl ((⟨9,jZ.1,([]:Bytes),([]:Bytes),[r9.1,r11.1]⟩:cM),r11.2))))))))))))))))))))
def aBn:(K:Nat)→(cB)→(cM)→(Int)→Option ((cM × cB) ⊕ (cM × cB))
 | 0,_,_,_=>none
 | K+1,a0,a1,a2 =>
 ((bU (fJ K a0 ([46]:Bytes))).bind (fun r1=>((bU (pK K r1)).bind (fun r2=>((bU (fJ K r2.2 ([40]:Bytes))).bind (fun r3=>((bU (gE K r3 ([41]:Bytes))).bind (fun r4=>(if r4.1=true then (some (.inl ((⟨13,a1.fN,a1.cG,r2.1,[]⟩:cM),r4.2))) else (bM (bL ((iter K (fun (fI:cB × (List cM))=>(if ((fI.1.iN:Int) == 0)=true then (bM (bL ((cK true (bU (aJc K fI.1)) default).bind (fun iU=>(bM (if iU=true then ((bU (F74 K fI.1 (Int.ofNat fI.2.length) 3)).bind (fun jG=>(some (.inr (jG))))) else (some (.inr (fI.1)))) (fun (aHu:cB)=>((bU (qT K aHu (IntKind.i64.wrap (a2+1)))).bind (fun lR=>(bW [room ((fI.2.length+([lR.1].length)) * 72)] ((bU (gE K lR.2 ([44]:Bytes))).bind (fun y7=>(if (!y7.1)=true then ((bU (fJ K y7.2 ([41]:Bytes))).bind (fun aDX=>(some (.inl (Sum.inr (Sum.inl (aDX,(fI.2++[lR.1])))))))) else (some (.inr (y7.2,(fI.2++[lR.1]))))))))))))))) (fun (xQ:cB × (List cM))=>(some (.inr (xQ.1,xQ.2))))) else (some (.inl (Sum.inl (fI.1,fI.2)))))) (r4.2,[])).map .inl)) (fun (u59:cB × (List cM))=>(some (.inl ((⟨13,a1.fN,a1.cG,r2.1,u59.2⟩:cM),u59.1))))))))))))))
def aF7:(K:Nat)→(cB)→(Int)→Option ((cM × cB) ⊕ (cM × cB))
 | 0,_,_=>none
 | K+1,a0,a1 =>
 (bM (bL ((cK true (bU (vD K a0 3)) default).bind (fun xD=>(if xD=true then ((bU (aDW K a0)).bind (fun r34=>(some (.inr (r34.2,1,r34.1,([]:Bytes),([]:Bytes),[]))))) else ((bU (gE K a0 ([84,82,85,69]:Bytes))).bind (fun r35=>(if r35.1=true then (some (.inr (r35.2,2,0,([]:Bytes),([]:Bytes),[]))) else ((bU (gE K r35.2 ([70,65,76,83,69]:Bytes))).bind (fun r36=>(if r36.1=true then (some (.inr (r36.2,3,0,([]:Bytes),([]:Bytes),[]))) else ((bU (gE K r36.2 ([78,85,76,76]:Bytes))).bind (fun r37=>(if r37.1=true then (some (.inr (r37.2,4,0,([]:Bytes),([]:Bytes),[]))) else ((bU (gE K r37.2 ([82,69,70]:Bytes))).bind (fun r38=>(if r38.1=true then ((bU (aJb K r38.2)).bind (fun r39=>(some (.inr (r39.2,10,0,r39.1,([]:Bytes),[]))))) else ((bU (gE K r38.2 ([68,79,78,69]:Bytes))).bind (fun mS=>(if mS.1=true then ((bU (aJb K mS.2)).bind (fun r41=>(some (.inr (r41.2,11,0,r41.1,([]:Bytes),[]))))) else ((bU (gE K mS.2 ([67,79,85,78,84]:Bytes))).bind (fun r42=>(if r42.1=true then ((bU (aJb K r42.2)).bind (fun qO=>(some (.inr (qO.2,12,0,qO.1,([]:Bytes),[]))))) else ((bU (gE K r42.2 ([65,83]:Bytes))).bind (fun r44=>(if r44.1=true then ((bU (pK K r44.2)).bind (fun r45=>((bU (fJ K r45.2 ([40]:Bytes))).bind (fun r46=>((bU (qT K r46 (IntKind.i64.wrap (a1+1)))).bind (fun r47=>((bU (fJ K r47.2 ([41]:Bytes))).bind (fun r48=>(some (.inr (r48,14,0,r45.1,([]:Bytes),[r47.1]))))))))))) else ((bU (gE K r44.2 ([40]:Bytes))).bind (fun r49=>(if r49.1=true then ((bU (qT K r49.2 (IntKind.i64.wrap (a1+1)))).bind (fun r50=>((bU (fJ K r50.2 ([41]:Bytes))).bind (fun r51=>(some (.inr (r51,r50.1.bP,r50.1.fN,r50.1.cG,r50.1.wE,r50.1.gD))))))) else ((bU (gE K r49.2 ([84,72,73,83]:Bytes))).bind (fun r52=>(if r52.1=true then ((bU (aBn K r52.2 (⟨0,1,([]:Bytes),([]:Bytes),[]⟩:cM) a1)).bind (fun r53=>(some (.inl (Sum.inr (r53.1,r53.2)))))) else ((bU (gE K r52.2 ([83,85,80,69,82]:Bytes))).bind (fun zG=>(if zG.1=true then ((bU (aBn K zG.2 (⟨0,2,([]:Bytes),([]:Bytes),[]⟩:cM) a1)).bind (fun r55=>(some (.inl (Sum.inr (r55.1,r55.2)))))) else ((cK true (bU (vD K zG.2 1)) default).bind (fun r56=>(if r56=true then ((bU (pK K zG.2)).bind (fun r57=>((cK true (bU (F73 K r57.2 ([46]:Bytes))) default).bind (fun wG=>(if wG=true then ((bU (aBn K r57.2 (⟨5,0,r57.1,([]:Bytes),[]⟩:cM) a1)).bind (fun r59=>(some (.inl (Sum.inr (r59.1,r59.2)))))) else ((bU (gE K r57.2 ([91]:Bytes))).bind (fun r60=>(if r60.1=true then ((bU (qT K r60.2 (IntKind.i64.wrap (a1+1)))).bind (fun r61=>((bU (fJ K r61.2 ([93]:Bytes))).bind (fun r62=>(some (.inr (r62,6,0,r57.1,([]:Bytes),[r61.1]))))))) else (some (.inr (r60.2,5,0,r57.1,([]:Bytes),[]))))))))))) else ((bU (aAu K zG.2 3)).bind (fun tP=>(some (.inr (tP,0,0,([]:Bytes),([]:Bytes),[])))))))))))))))))))))))))))))))))))))))))) (fun (u32:cB × Int × Int × Bytes × Bytes × (List cM))=>(some (.inl ((⟨u32.2.1,u32.2.2.1,u32.2.2.2.1,u32.2.2.2.2.1,u32.2.2.2.2.2⟩:cM),u32.1)))))
end
abbrev wR (v0:Int):List (Nat × D):=[sP 0 0 0 0,sI 2 v0,sP 4 1 0 0,sP 6 3 0 0]
theorem aKI:∀ K:Nat,(∀ (a0:cB),∀ (a1:Int),bR Tryz.prog 187 [.c (.ptr 0 0 0),.c (.val (.int .i64 a1))] [cL.o a0] (bU (qT K a0 a1)) (fun r=>.agg (cA.cs r.1)) (fun r=>[cL.o r.2,cA.o r.1]))∧(∀ (a0:cB),∀ (a1:cM),∀ (a2:Int),bR Tryz.prog 189 [.c (.ptr 0 0 0),.agg [.val (.int .i64 a1.bP),.val (.int .i64 a1.fN),.str a1.cG,.str a1.wE,.nil],.c (.val (.int .i64 a2))] [cL.o a0] (bU (aBn K a0 a1 a2)) (fun r=>.agg (cA.cs r.1)) (fun r=>[cL.o r.2,cA.o r.1]))∧(∀ (a0:cB),∀ (a1:Int),bR Tryz.prog 213 [.c (.ptr 0 0 0),.c (.val (.int .i64 a1))] [cL.o a0] (bU (aF7 K a0 a1)) (fun r=>.agg (cA.cs r.1)) (fun r=>[cL.o r.2,cA.o r.1])):=by
 intro K
 induction K with
 | zero=>exact ⟨fun a0 a1=>bR.none (by rw[qT];rfl),fun a0 a1 a2=>bR.none (by rw[aBn];rfl),fun a0 a1=>bR.none (by rw[aF7];rfl)⟩
 | succ K ih =>
  obtain ⟨aKJ,aOU,aKK⟩:=ih
  refine ⟨?_,?_,?_⟩
  ·
   intro a0 a1
   refine bR.it Tryz.f187 (fun r=>⟨[sP 4 1 0 0],[cL.o r.2,cA.o r.1],[],1⟩) ?_
   rw[qT]
   exact Ref.pt (
    .look (default:Bool) _ [0] (aF6 K a0) (fun _=>rfl) fun r1 =>
    .jn (fun u3=>⟨[sP 0 0 0 0,sI 1 a1,sP 4 1 0 0],[cL.o u3,oX6],[],1⟩) (
     .ite _ (
      .call [0] (oD _ _ _) fun r4 =>
      .nil [0,1] _) (
      .nil [0,1] _)) fun u3 =>
    .call [0] (dO _ _ _) fun r5 =>
    .ite _ (
     .call [0] (aKK _ _) fun r6 =>
     .ob 4 2 3 (x:=.row 195 5 1 (hG [(cA.cs r6.1)])) (y:=(cA.row [r6.1])) (El.bZ cA [r6.1] rfl (by kernel_rfl)) <|
     .sl 4 2 20 (x:=.c (.own 3 1)) (y:=(.c (.own 3 ([r6.1].length)))) (eG.c (eD.own (by first | (simp;done) | (simp;omega) | omega))) <|
     .fz 4 0 3 <|
     .ok 4 0 1 4 (x:=cA.tree [r6.1]) (y:=tM [r6.1]) (tQ _) <|
     .ret [0,1] _) (
     .call [0] (dO _ _ _) fun r7 =>
     .ite _ (
      .call [0] (aKK _ _) fun r8 =>
      .ob 6 2 3 (x:=.row 195 5 1 (hG [(cA.cs r8.1)])) (y:=(cA.row [r8.1])) (El.bZ cA [r8.1] rfl (by kernel_rfl)) <|
      .sl 6 2 27 (x:=.c (.own 3 1)) (y:=(.c (.own 3 ([r8.1].length)))) (eG.c (eD.own (by first | (simp;done) | (simp;omega) | omega))) <|
      .fz 6 0 3 <|
      .ok 6 0 1 4 (x:=cA.tree [r8.1]) (y:=tM [r8.1]) (tQ _) <|
      .ret [0,1] _) (
      .call [0] (aKK _ _) fun r9 =>
      .call [0] (aRC _ _) fun jZ =>
      .ite _ (
       .ret [0,1] _) (
       .esc [0,1,3] [(cd (bd Tryz.f187) [1,1,1,1,1,1,1,0]),(cd (bd Tryz.f187) [1,1,1,1,1,1,1,1])] ⟨[sP 0 0 0 0,sI 1 a1,sP 4 1 0 0,sP 5 2 0 0,sI 6 jZ.1,sB 35 ((jZ.1:Int) == 0)],[cL.o jZ.2,oX6,cA.o r9.1],[],1⟩ (by
        refine Ref.eR 11 (by kernel_rfl) (by kernel_rfl) ?_
        refine dV.fE (cR:=⟨[sP 4 1 0 0,sP 5 2 0 0,sI 37 jZ.1,sP 39 0 0 0,sI 40 a1],[cL.o jZ.2,oX6,cA.o r9.1],[],1⟩) (fuel':=5) [0,2,3] [4,5,37,39,40] [0,1,2] rfl (by kernel_rfl) (by kernel_rfl) ?_
        refine dV.rG [4,7] ?_
        refine bQ.iD (fun (r11:cM × cB)=>⟨[sP 4 1 0 0],[cL.o r11.2,.cells [iC 9,iC jZ.1,.str [],.str [],.own 2 ([r9.1,r11.1].length)],cA.row [r9.1,r11.1]],[],1⟩) (fun (r11:cM × cB)=>(some (.inl ((⟨9,jZ.1,([]:Bytes),([]:Bytes),[r9.1,r11.1]⟩:cM),r11.2)))) (fun r11=>?_) (fun hk=>?_)
        ·
         exact Ref.pt (
          .fz 1000000 0 2 <|
          .ok 1000000 0 1 4 (x:=cA.tree [r9.1,r11.1]) (y:=tM [r9.1,r11.1]) (tQ _) <|
          .ret [0,1] _)
        ·
         refine bQ.iT (fuel':=4) [[],[(1,38)]] [(1,38)] [4,5,37,39,40] [0,1,2] ⟨[sP 4 1 0 0,sP 5 2 0 0,sI 37 jZ.1,(38,.agg (cA.cs r9.1)),sP 39 0 0 0,sI 40 a1],[cL.o jZ.2,oX6,cA.o r9.1],[],1⟩ ?_
         refine cQ.cP (fuel':=3) 4 ?_
         refine dP.cF (t:=41) 4 [0] rfl (by kernel_rfl) (aKK jZ.2 a1) (fun r11=>?_)
         refine cQ.close ?_
         refine bQ.nC (cR:=⟨[sP 4 1 0 0,sI 37 jZ.1,(42,.c (.own 2 2))],[cL.o r11.2,oX6,.row 195 5 2 (hG [(cA.cs r9.1),(cA.cs r11.1)])],[],1⟩) (fuel':=2) 5 [4,37,42] [0,1,4] rfl (by kernel_rfl) (by kernel_rfl) ?_
         refine bQ.conv (Conv.ob 2 (cA.row [r9.1,r11.1]) (El.bZ cA [r9.1,r11.1] rfl (by kernel_rfl))) ?_
         refine bQ.conv (Conv.sl 42 (.c (.own 2 ([r9.1,r11.1].length))) (eG.c (eD.own (by first | (simp;done) | (simp;omega) | omega)))) ?_
         refine bQ.v0 (fuel':=1) [6] [4,43] [0,1,2] ?_
         refine bQ.cP (fuel':=0) 7 (by kernel_rfl) ?_
         refine cE.w0 7 [4] [0,1,2] ?_
         refine bQ.done (by kernel_rfl) ?_
         refine Ref.ck ⟨[sP 4 1 0 0],[cL.o r11.2,.cells [iC 9,iC jZ.1,.str [],.str [],.own 2 ([r9.1,r11.1].length)],cA.row [r9.1,r11.1]],[],1⟩ [4] [0,1,2] ?_
         exact hk r11)))))
  ·
   intro a0 a1 a2
   refine bR.it Tryz.f189 (fun r=>⟨[sP 6 1 0 0],[cL.o r.2,cA.o r.1],[],1⟩) ?_
   rw[aBn]
   exact Ref.pt (
    .call [0] (dJ _ _ _) fun r1 =>
    .call [0] (iO _ _) fun r2 =>
    .call [0] (dJ _ _ _) fun r3 =>
    .call [0] (dO _ _ _) fun r4 =>
    .ite _ (
     .ok 6 0 2 4 (x:=.nil) (y:=cA.tree []) (El.cO cA) <|
     .ok 6 0 2 4 (x:=cA.tree []) (y:=tM []) (tQ _) <|
     .ret [0,2] _) (
     .bk 0 (fun u59=>⟨[sP 4 1 0 0,sP 6 3 0 0],[cL.o u59.1,.cells [iC 13,iC a1.fN,.str a1.cG,.str r2.1,.own 2 u59.2.length],cA.row u59.2,oX6],[],1⟩) (
      .adc 5 0 1 4 cA.ty cA.w (cA.at []) <|
      .lp [0,1,3,2] (fun fI=>⟨wR a2,[cL.o fI.1,.cells [iC 13,iC a1.fN,.str a1.cG,.str r2.1,.own 2 fI.2.length],cA.row fI.2,oX6],[],1⟩) fun fI =>
      .ite _ (
       .bk 1 (fun xQ=>⟨wR a2,[cL.o xQ.1,.cells [iC 13,iC a1.fN,.str a1.cG,.str r2.1,.own 2 xQ.2.length],cA.row xQ.2,oX6],[],1⟩) (
        .look (default:Bool) _ [0] (aF6 K fI.1) (fun _=>rfl) fun iU =>
        .jn (fun aHu=>⟨wR a2,[cL.o aHu,.cells [iC 13,iC a1.fN,.str a1.cG,.str r2.1,.own 2 fI.2.length],cA.row fI.2,oX6],[],1⟩) (
         .ite _ (
          .call [0] (qR _ _ _ _) fun jG =>
          .nil [0,1,2,3] _) (
          .nil [0,1,2,3] _)) fun aHu =>
        .esc [0,1,2,3] [(cd (bd Tryz.f189) [1,1,1,1,1,1,0,0,0,1,0,1,0]),(cd (bd Tryz.f189) [1,1,1,1,1,1,0,0,0,1,0,1,1])] ⟨wR a2,[cL.o aHu,.cells [iC 13,iC a1.fN,.str a1.cG,.str r2.1,.own 2 fI.2.length],cA.row fI.2,oX6],[],1⟩ (by
         refine Ref.eR 10 (by kernel_rfl) (by kernel_rfl) ?_
         refine dV.fE (cR:=⟨wR a2++[sP 30 1 0 4,sP 32 0 0 0,sI 34 (IntKind.i64.wrap (a2+1))],[cL.o aHu,.cells [iC 13,iC a1.fN,.str a1.cG,.str r2.1,.own 2 fI.2.length],cA.row fI.2,oX6],[],1⟩) (fuel':=6) [0,2,3,4] [0,2,4,6,30,32,34] [0,1,2,3] rfl (by kernel_rfl) (by kernel_rfl) ?_
         refine dV.rG [5,7,9] ?_
         refine bQ.iD (fun (lR:cM × cB)=>⟨[sP 0 0 0 0,sI 2 a2,sP 4 1 0 0,sP 6 2 0 0],[cL.o lR.2,.cells [iC 13,iC a1.fN,.str a1.cG,.str r2.1,.own 3 ((fI.2++[lR.1]).length)],oX6,cA.row (fI.2++[lR.1])],[],1⟩) (fun (lR:cM × cB)=>((bU (gE K lR.2 ([44]:Bytes))).bind (fun y7=>(if (!y7.1)=true then ((bU (fJ K y7.2 ([41]:Bytes))).bind (fun aDX=>(some (.inl (Sum.inr (Sum.inl (aDX,(fI.2++[lR.1])))))))) else (some (.inr (y7.2,(fI.2++[lR.1])))))))) (fun lR=>?_) (fun hk=>?_)
         ·
          exact Ref.pt (
           .call [0] (dO _ _ _) fun y7 =>
           .ite _ (
            .call [0] (dJ _ _ _) fun aDX =>
            .ret [0,1,3,2] _) (
            .nil [0,1,3,2] _))
         ·
          refine bQ.iT (fuel':=5) [[],[(1,31)]] [(1,31)] [0,2,4,6,30,32,34] [0,1,2,3] ⟨wR a2++[sP 30 1 0 4,(31,.c (.own 2 fI.2.length)),sP 32 0 0 0,sI 34 (IntKind.i64.wrap (a2+1))],[cL.o aHu,.cells [iC 13,iC a1.fN,.str a1.cG,.str r2.1,.own 2 fI.2.length],cA.row fI.2,oX6],[],1⟩ ?_
          refine cQ.cP (fuel':=4) 5 ?_
          refine dP.cF (t:=35) 5 [0] rfl (by kernel_rfl) (aKJ aHu (IntKind.i64.wrap (a2+1))) (fun lR=>?_)
          refine cQ.cP (fuel':=3) 6 ?_
          refine dP.kC (cR:=⟨wR a2++[sP 30 1 0 4,(31,.c (.own 2 fI.2.length)),(36,.c (.own 4 1))],[cL.o lR.2,.cells [iC 13,iC a1.fN,.str a1.cG,.str r2.1,.own 2 fI.2.length],cA.row fI.2,oX6,.row 195 5 1 (hG [(cA.cs lR.1)])],[],1⟩) 6 [0,2,4,6,30,31,36] [0,1,2,3,5] (by kernel_rfl) (by kernel_rfl) ?_
          refine cQ.conv (jR.obj 4 (cA.row [lR.1]) (El.bZ cA [lR.1] rfl (by kernel_rfl)) (by kernel_rfl)) ?_
          refine cQ.conv (jR.slot 36 (.c (.own 4 ([lR.1].length))) (eG.c (eD.own (by first | (simp;done) | (simp;omega) | omega))) (by kernel_rfl)) ?_
          refine cQ.close ?_
          refine bQ.cP (fuel':=2) 7 (by kernel_rfl) ?_
          refine cE.writes (vs:=[room ((fI.2.length+([lR.1].length)) * 72)]) (cR:=⟨wR a2++[(37,.c (.own 4 (fI.2.length+([lR.1].length))))],[cL.o lR.2,.cells [iC 13,iC a1.fN,.str a1.cG,.str r2.1,.own 2 fI.2.length],.dead,oX6,.row 195 5 (fI.2.length+([lR.1].length)) fun i j=>bif Nat.blt i fI.2.length then cA.at fI.2 i j else (cA.at [lR.1]) (i - fI.2.length) j],[],1⟩) 7 [0,2,4,6,37] [0,1,2,3,5] (by kernel_rfl) (by kernel_rfl) ?_
          refine bQ.conv (Conv.ob 4 (cA.row (fI.2++[lR.1])) (El.cH cA fI.2 [lR.1] rfl rfl)) ?_
          refine bQ.conv (Conv.sl 37 (.c (.own 4 ((fI.2++[lR.1]).length))) (eG.c (eD.own (by first | (simp;done) | (simp;omega) | omega)))) ?_
          refine bQ.v0 (fuel':=1) [8] [0,2,4,6,37,38] [0,1,2,3,4] ?_
          refine bQ.cP (fuel':=0) 9 (by kernel_rfl) ?_
          refine cE.w0 9 [0,2,4,6] [0,1,3,4] ?_
          refine bQ.done (by kernel_rfl) ?_
          refine Ref.ck ⟨[sP 0 0 0 0,sI 2 a2,sP 4 1 0 0,sP 6 2 0 0],[cL.o lR.2,.cells [iC 13,iC a1.fN,.str a1.cG,.str r2.1,.own 3 ((fI.2++[lR.1]).length)],oX6,cA.row (fI.2++[lR.1])],[],1⟩ [0,2,4,6] [0,1,2,3] ?_
          exact hk lR)) fun xQ =>
       .nil [0,1,2,3] _) (
       .ret [0,1,2,3] _)) fun u59 =>
     .fz 13 0 2 <|
     .ok 13 0 3 4 (x:=cA.tree u59.2) (y:=tM u59.2) (tQ _) <|
     .ret [0,3] _))
  ·
   intro a0 a1
   refine bR.it Tryz.f213 (fun r=>⟨[sP 4 1 0 0],[cL.o r.2,cA.o r.1],[],1⟩) ?_
   rw[aF7]
   exact Ref.pt (
    .bk 0 (fun u32=>⟨[sP 4 1 0 0,sP 5 2 0 0],[cL.o u32.1,oX6,.cells [iC u32.2.1,iC u32.2.2.1,.str u32.2.2.2.1,.str u32.2.2.2.2.1,cA.tree u32.2.2.2.2.2]],[],1⟩) (
     .look (default:Bool) _ [0] (lQ K a0 3) (fun _=>rfl) fun xD =>
     .ite _ (
      .call [0] (uK _ _) fun r34 =>
      .ok 4 0 2 4 (x:=.nil) (y:=cA.tree []) (El.cO cA) <|
      .nil [0,1,2] _) (
      .call [0] (dO _ _ _) fun r35 =>
      .ite _ (
       .ok 6 0 2 4 (x:=.nil) (y:=cA.tree []) (El.cO cA) <|
       .nil [0,1,2] _) (
       .call [0] (dO _ _ _) fun r36 =>
       .ite _ (
        .ok 8 0 2 4 (x:=.nil) (y:=cA.tree []) (El.cO cA) <|
        .nil [0,1,2] _) (
        .call [0] (dO _ _ _) fun r37 =>
        .ite _ (
         .ok 10 0 2 4 (x:=.nil) (y:=cA.tree []) (El.cO cA) <|
         .nil [0,1,2] _) (
         .call [0] (dO _ _ _) fun r38 =>
         .ite _ (
          .call [0] (aF4 _ _) fun r39 =>
          .ok 12 0 2 4 (x:=.nil) (y:=cA.tree []) (El.cO cA) <|
          .nil [0,1,2] _) (
          .call [0] (dO _ _ _) fun mS =>
          .ite _ (
           .call [0] (aF4 _ _) fun r41 =>
           .ok 14 0 2 4 (x:=.nil) (y:=cA.tree []) (El.cO cA) <|
           .nil [0,1,2] _) (
           .call [0] (dO _ _ _) fun r42 =>
           .ite _ (
            .call [0] (aF4 _ _) fun qO =>
            .ok 16 0 2 4 (x:=.nil) (y:=cA.tree []) (El.cO cA) <|
            .nil [0,1,2] _) (
            .call [0] (dO _ _ _) fun r44 =>
            .ite _ (
             .call [0] (iO _ _) fun r45 =>
             .call [0] (dJ _ _ _) fun r46 =>
             .call [0] (aKJ _ _) fun r47 =>
             .ob 20 2 4 (x:=.row 195 5 1 (hG [(cA.cs r47.1)])) (y:=(cA.row [r47.1])) (El.bZ cA [r47.1] rfl (by kernel_rfl)) <|
             .sl 20 2 62 (x:=.c (.own 4 1)) (y:=(.c (.own 4 ([r47.1].length)))) (eG.c (eD.own (by first | (simp;done) | (simp;omega) | omega))) <|
             .call [0] (dJ _ _ _) fun r48 =>
             .fz 21 0 4 <|
             .nil [0,1,2] _) (
             .call [0] (dO _ _ _) fun r49 =>
             .ite _ (
              .call [0] (aKJ _ _) fun r50 =>
              .call [0] (dJ _ _ _) fun r51 =>
              .ob 24 0 2 (x:=cA.o r50.1) (y:=(.cells [iC r50.1.bP,iC r50.1.fN,.str r50.1.cG,.str r50.1.wE,cA.tree r50.1.gD])) (OLe.cells (hU.cons (eD.refl _) (hU.cons (eD.refl _) (hU.cons (eD.refl _) (hU.cons (eD.refl _) (hU.cons (wF _) (hU.nil))))))) <|
              .nil [0,1,2] _) (
              .call [0] (dO _ _ _) fun r52 =>
              .ite _ (
               .call [0] (aOU _ _ _) fun r53 =>
               .ret [0,1] _) (
               .call [0] (dO _ _ _) fun zG =>
               .ite _ (
                .call [0] (aOU _ _ _) fun r55 =>
                .ret [0,1] _) (
                .look (default:Bool) _ [0] (lQ K zG.2 1) (fun _=>rfl) fun r56 =>
                .ite _ (
                 .call [0] (iO _ _) fun r57 =>
                 .look (default:Bool) _ [0] (lG K r57.2 ([46]:Bytes)) (fun _=>rfl) fun wG =>
                 .ite _ (
                  .call [0] (aOU _ _ _) fun r59 =>
                  .ret [0,1] _) (
                  .call [0] (dO _ _ _) fun r60 =>
                  .ite _ (
                   .call [0] (aKJ _ _) fun r61 =>
                   .ob 35 2 4 (x:=.row 195 5 1 (hG [(cA.cs r61.1)])) (y:=(cA.row [r61.1])) (El.bZ cA [r61.1] rfl (by kernel_rfl)) <|
                   .sl 35 2 109 (x:=.c (.own 4 1)) (y:=(.c (.own 4 ([r61.1].length)))) (eG.c (eD.own (by first | (simp;done) | (simp;omega) | omega))) <|
                   .call [0] (dJ _ _ _) fun r62 =>
                   .fz 36 0 4 <|
                   .nil [0,1,2] _) (
                   .ok 33 0 2 4 (x:=.nil) (y:=cA.tree []) (El.cO cA) <|
                   .nil [0,1,2] _))) (
                 .call [0] (oD _ _ _) fun tP =>
                 .ok 2 0 2 4 (x:=.nil) (y:=cA.tree []) (El.cO cA) <|
                 .nil [0,1,2] _))))))))))))) fun u32 =>
    .ok 37 0 1 4 (x:=cA.tree u32.2.2.2.2.2) (y:=tM u32.2.2.2.2.2) (tQ _) <|
    .ret [0,1] _)
theorem mG (K:Nat) (a0:cB) (a1:Int):bR Tryz.prog 187 [.c (.ptr 0 0 0),.c (.val (.int .i64 a1))] [cL.o a0] (bU (qT K a0 a1)) (fun r=>.agg (cA.cs r.1)) (fun r=>[cL.o r.2,cA.o r.1]):=(aKI K).1 a0 a1
theorem aF8 (K:Nat) (a0:cB) (a1:cM) (a2:Int):bR Tryz.prog 189 [.c (.ptr 0 0 0),.agg [.val (.int .i64 a1.bP),.val (.int .i64 a1.fN),.str a1.cG,.str a1.wE,.nil],.c (.val (.int .i64 a2))] [cL.o a0] (bU (aBn K a0 a1 a2)) (fun r=>.agg (cA.cs r.1)) (fun r=>[cL.o r.2,cA.o r.1]):=(aKI K).2.1 a0 a1 a2
def aOV (K:Nat) (a0:cB):Option ((cJ × cB) ⊕ (cJ × cB)) :=
 ((bU (pK K a0)).bind (fun r1=>(bM (bL ((bU (gE K r1.2 ([58,61]:Bytes))).bind (fun mN=>(if mN.1=true then ((bU (qT K mN.2 1)).bind (fun r17=>(some (.inr (r17.2,1,r1.1,[r17.1]))))) else ((bU (gE K mN.2 ([63,61]:Bytes))).bind (fun r18=>(if r18.1=true then ((bU (qT K r18.2 1)).bind (fun r19=>(some (.inr (r19.2,3,r1.1,[r19.1]))))) else ((bU (gE K r18.2 ([91]:Bytes))).bind (fun r20=>(if r20.1=true then ((bU (qT K r20.2 1)).bind (fun r21=>((bU (fJ K r21.2 ([93]:Bytes))).bind (fun r22=>((bU (fJ K r22 ([58,61]:Bytes))).bind (fun r23=>((bU (qT K r23 1)).bind (fun qD=>(some (.inr (qD.2,2,r1.1,[r21.1,qD.1]))))))))))) else ((cK true (bU (F73 K r20.2 ([46]:Bytes))) default).bind (fun r26=>(if r26=true then ((bU (aBn K r20.2 (⟨0,0,r1.1,([]:Bytes),[]⟩:cM) 1)).bind (fun r27=>(some (.inr (r27.2,4,([]:Bytes),[r27.1]))))) else ((bU (aAu K r20.2 3)).bind (fun r28=>(some (.inr (r28,0,r1.1,[])))))))))))))))))) (fun (wC:cB × Int × Bytes × (List cM))=>(some (.inl ((⟨wC.2.1,0,wC.2.2.1,wC.2.2.2,[],[]⟩:cJ),wC.1)))))))
theorem aRF (K:Nat) (a0:cB):bR Tryz.prog 190 [.c (.ptr 0 0 0)] [cL.o a0] (bU (aOV K a0)) (fun r=>.agg (dL.cs r.1)) (fun r=>[cL.o r.2,dL.o r.1]):=by
 refine bR.it Tryz.f190 (fun r=>⟨[sP 2 1 0 0],[cL.o r.2,dL.o r.1],[],1⟩) ?_
 unfold aOV
 exact Ref.pt (
  .call [0] (iO _ _) fun r1 =>
  .bk 0 (fun wC=>⟨[sP 2 1 0 0,sP 4 2 0 0],[cL.o wC.1,oJ,.cells [iC wC.2.1,iC 0,.str wC.2.2.1,.own 3 wC.2.2.2.length,.nil,.nil],cA.row wC.2.2.2],[],1⟩) (
   .call [0] (dO _ _ _) fun mN =>
   .ite _ (
    .call [0] (mG _ _ _) fun r17 =>
    .ob 5 4 4 (x:=.row 195 5 1 (hG [(cA.cs r17.1)])) (y:=(cA.row [r17.1])) (El.bZ cA [r17.1] rfl (by kernel_rfl)) <|
    .sl 5 4 17 (x:=.c (.own 4 1)) (y:=(.c (.own 4 ([r17.1].length)))) (eG.c (eD.own (by first | (simp;done) | (simp;omega) | omega))) <|
    .nil [0,1,2,4] _) (
    .call [0] (dO _ _ _) fun r18 =>
    .ite _ (
     .call [0] (mG _ _ _) fun r19 =>
     .ob 7 4 4 (x:=.row 195 5 1 (hG [(cA.cs r19.1)])) (y:=(cA.row [r19.1])) (El.bZ cA [r19.1] rfl (by kernel_rfl)) <|
     .sl 7 4 25 (x:=.c (.own 4 1)) (y:=(.c (.own 4 ([r19.1].length)))) (eG.c (eD.own (by first | (simp;done) | (simp;omega) | omega))) <|
     .nil [0,1,2,4] _) (
     .call [0] (dO _ _ _) fun r20 =>
     .ite _ (
      .call [0] (mG _ _ _) fun r21 =>
      .call [0] (dJ _ _ _) fun r22 =>
      .call [0] (dJ _ _ _) fun r23 =>
      .esc [0,1,2,4] [(cd (bd Tryz.f190) [1,1,1,0,0,1,1,1,1,1,0,1,1,1,1])] ⟨[sP 0 0 0 0,sP 2 1 0 0,sP 4 2 0 0,sP 5 3 0 0,sP 36 0 0 0,(37,.iV [])],[cL.o r23,oJ,.cells [iC 2,iC 0,.str r1.1,.nil,.nil,.nil],cA.o r21.1],[],1⟩ (by
       refine Ref.eR 13 (by kernel_rfl) (by kernel_rfl) ?_
       refine dV.fE (cR:=⟨[sP 2 1 0 0,sP 4 2 0 0,sP 5 3 0 0,sP 39 0 0 0],[cL.o r23,oJ,.cells [iC 2,iC 0,.str r1.1,.nil,.nil,.nil],cA.o r21.1],[],1⟩) (fuel':=5) [1] [2,4,5,39] [0,1,2,3] rfl (by kernel_rfl) (by kernel_rfl) ?_
       refine dV.rG [2,5] ?_
       refine bQ.iD (fun (qD:cM × cB)=>⟨[sP 2 1 0 0,sP 4 2 0 0],[cL.o qD.2,oJ,.cells [iC 2,iC 0,.str r1.1,.own 3 ([r21.1,qD.1].length),.nil,.nil],cA.row [r21.1,qD.1]],[],1⟩) (fun (qD:cM × cB)=>(some (.inr (qD.2,2,r1.1,[r21.1,qD.1])))) (fun qD=>?_) (fun hk=>?_)
       ·
        exact Ref.pt (
         .nil [0,1,2,3] _)
       ·
        refine bQ.iT (fuel':=4) [[],[(0,38)]] [(0,38)] [2,4,5,39] [0,1,2,3] ⟨[sP 2 1 0 0,sP 4 2 0 0,sP 5 3 0 0,(38,.agg (cA.cs r21.1)),sP 39 0 0 0],[cL.o r23,oJ,.cells [iC 2,iC 0,.str r1.1,.nil,.nil,.nil],cA.o r21.1],[],1⟩ ?_
        refine cQ.cP (fuel':=3) 2 ?_
        refine dP.cF (t:=40) 2 [0] rfl (by kernel_rfl) (mG K r23 1) (fun qD=>?_)
        refine cQ.close ?_
        refine bQ.nC (cR:=⟨[sP 2 1 0 0,sP 4 2 0 0,(41,.c (.own 3 2))],[cL.o qD.2,oJ,.cells [iC 2,iC 0,.str r1.1,.nil,.nil,.nil],.row 195 5 2 (hG [(cA.cs r21.1),(cA.cs qD.1)])],[],1⟩) (fuel':=2) 3 [2,4,41] [0,1,2,5] rfl (by kernel_rfl) (by kernel_rfl) ?_
        refine bQ.conv (Conv.ob 3 (cA.row [r21.1,qD.1]) (El.bZ cA [r21.1,qD.1] rfl (by kernel_rfl))) ?_
        refine bQ.conv (Conv.sl 41 (.c (.own 3 ([r21.1,qD.1].length))) (eG.c (eD.own (by first | (simp;done) | (simp;omega) | omega)))) ?_
        refine bQ.v0 (fuel':=1) [4] [2,4,41,42] [0,1,2,3] ?_
        refine bQ.cP (fuel':=0) 5 (by kernel_rfl) ?_
        refine cE.w0 5 [2,4] [0,1,2,3] ?_
        refine bQ.done (by kernel_rfl) ?_
        refine Ref.ck ⟨[sP 2 1 0 0,sP 4 2 0 0],[cL.o qD.2,oJ,.cells [iC 2,iC 0,.str r1.1,.own 3 ([r21.1,qD.1].length),.nil,.nil],cA.row [r21.1,qD.1]],[],1⟩ [2,4] [0,1,2,3] ?_
        exact hk qD)) (
      .look (default:Bool) _ [0] (lG K r20.2 ([46]:Bytes)) (fun _=>rfl) fun r26 =>
      .ite _ (
       .call [0] (aF8 _ _ _ _) fun r27 =>
       .ob 15 2 4 (x:=.row 195 5 1 (hG [(cA.cs r27.1)])) (y:=(cA.row [r27.1])) (El.bZ cA [r27.1] rfl (by kernel_rfl)) <|
       .sl 15 2 50 (x:=.c (.own 4 1)) (y:=(.c (.own 4 ([r27.1].length)))) (eG.c (eD.own (by first | (simp;done) | (simp;omega) | omega))) <|
       .nil [0,1,2,4] _) (
       .call [0] (oD _ _ _) fun r28 =>
       .adc 3 0 2 3 cA.ty cA.w (cA.at []) <|
       .nil [0,1,2,3] _))))) fun wC =>
  .fz 16 0 3 <|
  .ok 16 0 1 4 (x:=.nil) (y:=lJ.tree []) (El.cO lJ) <|
  .ok 16 0 1 5 (x:=.nil) (y:=jA.tree []) (El.cO jA) <|
  .ok 16 0 1 5 (x:=jA.tree []) (y:=nE []) (xE _) <|
  .ret [0,1] _)
mutual
def xR:(K:Nat)→(cB)→(Int)→((List Bytes))→Option (((List cJ) × cB) ⊕ ((List cJ) × cB))
 | 0,_,_,_=>none
 | K+1,a0,a1,a2 =>
 (bM (if (decide ((a1:Int) > 6))=true then ((cK true (bU (aMi K a0)) default).bind (fun r69=>(bM (bL ((iter K (fun (s4:Bool × Int)=>(bO (decide ((s4.2:Int)<(Int.ofNat a2.length))) (fun (aXG:Bool)=>(if aXG=true then (bM (bL (bW [!(!s4.1) || cS s4.2 a2.length] ((cK (!s4.1) (bU (F73 K a0 (a2.getD (s4.2:Int).toNat default))) default).bind (fun aDE=>(bW [!(!(s4.1 || aDE)) || cS s4.2 a2.length] ((cK (((a2.getD (s4.2:Int).toNat default) == ([48]:Bytes)) && (!(s4.1 || aDE))) (bU (vD K a0 3)) default).bind (fun aL9=>((cK ((!aL9) && (((a2.getD (s4.2:Int).toNat default) == ([48]:Bytes)) && (!(s4.1 || aDE)))) (bU (F73 K a0 ([45]:Bytes))) default).bind (fun aXH=>(bO ((s4.1 || aDE) || (((a2.getD (s4.2:Int).toNat default) == ([48]:Bytes)) && (aL9 || aXH))) (fun (aXI:Bool)=>(some (.inr (aXI)))))))))))))) (fun (aRG:Bool)=>(some (.inr (aRG,(IntKind.i64.wrap (s4.2+1))))))) else (some (.inl (Sum.inl (s4.1)))))))) (r69,0)).map .inl)) (fun (aIV:Bool)=>(if aIV=true then ((bU (aAu K a0 4)).bind (fun aXJ=>(some (.inr (aXJ))))) else (some (.inr (a0)))))))) else (some (.inr (a0)))) (fun (u68:cB)=>(bM (bL ((iter K (fun (rM:cB × (List cJ))=>((cK true (bU (aMi K rM.1)) default).bind (fun aXK=>(if aXK=true then (bM (bL ((bU (F74 K rM.1 (Int.ofNat rM.2.length) 24)).bind (fun aRH=>(if ((aRH.iN:Int) == 0)=true then ((bU (aMj K aRH a1)).bind (fun aAw=>(bW [room ((rM.2.length+([aAw.1].length)) * 104)] (some (.inr (aAw.2,(rM.2++[aAw.1]))))))) else (some (.inr (aRH,rM.2))))))) (fun (aJf:cB × (List cJ))=>(some (.inr (aJf.1,aJf.2))))) else (some (.inl (Sum.inl (rM.1,rM.2)))))))) (u68,[])).map .inl)) (fun (aJg:cB × (List cJ))=>(some (.inl (aJg.2,aJg.1)))))))
def aMj:(K:Nat)→(cB)→(Int)→Option ((cJ × cB) ⊕ (cJ × cB))
 | 0,_,_=>none
 | K+1,a0,a1 =>
 (bM (bL ((bU (gE K a0 ([73,70]:Bytes))).bind (fun mS=>(if mS.1=true then ((bU (aMk K mS.2 a1)).bind (fun r41=>(some (.inr (r41.2,r41.1.bP,r41.1.fN,r41.1.cG,r41.1.cT,r41.1.eP,r41.1.bX))))) else ((bU (gE K mS.2 ([67,65,83,69]:Bytes))).bind (fun r42=>(if r42.1=true then ((bU (aMl K r42.2 a1)).bind (fun qO=>(some (.inr (qO.2,qO.1.bP,qO.1.fN,qO.1.cG,qO.1.cT,qO.1.eP,qO.1.bX))))) else ((bU (gE K r42.2 ([87,72,73,76,69]:Bytes))).bind (fun r44=>(if r44.1=true then ((bU (qT K r44.2 1)).bind (fun r45=>((bU (fJ K r45.2 ([68,79]:Bytes))).bind (fun r46=>((bU (xR K r46 (IntKind.i64.wrap (a1+1)) ([[69,78,68,95,87,72,73,76,69]]:List Bytes))).bind (fun r47=>((bU (fJ K r47.2 ([69,78,68,95,87,72,73,76,69]:Bytes))).bind (fun r48=>(some (.inr (r48,7,0,([]:Bytes),[r45.1],[],[r47.1]))))))))))) else ((bU (gE K r44.2 ([70,79,82]:Bytes))).bind (fun r49=>(if r49.1=true then ((bU (pK K r49.2)).bind (fun r50=>((bU (fJ K r50.2 ([58,61]:Bytes))).bind (fun r51=>((bU (qT K r51 1)).bind (fun r52=>((bU (fJ K r52.2 ([84,79]:Bytes))).bind (fun r53=>((bU (qT K r53 1)).bind (fun zG=>((bU (fJ K zG.2 ([66,89]:Bytes))).bind (fun r56=>((bU (aEI K r56)).bind (fun r57=>((bU (fJ K r57.2 ([68,79]:Bytes))).bind (fun wG=>((bU (xR K wG (IntKind.i64.wrap (a1+1)) ([[69,78,68,95,70,79,82]]:List Bytes))).bind (fun r59=>((bU (fJ K r59.2 ([69,78,68,95,70,79,82]:Bytes))).bind (fun r60=>(some (.inr (r60,8,r57.1,r50.1,[r52.1,zG.1],[],[r59.1]))))))))))))))))))))))) else ((bU (gE K r49.2 ([82,69,84,85,82,78]:Bytes))).bind (fun r61=>(if r61.1=true then ((cK true (bU (aJc K r61.2)) default).bind (fun r62=>(if r62=true then ((bU (qT K r61.2 1)).bind (fun tP=>(some (.inr (tP.2,9,0,([]:Bytes),[tP.1],[],[]))))) else (some (.inr (r61.2,9,0,([]:Bytes),[],[],[])))))) else ((bU (gE K r61.2 ([69,88,73,84]:Bytes))).bind (fun vB=>(if vB.1=true then (some (.inr (vB.2,10,0,([]:Bytes),[],[],[]))) else ((bU (gE K vB.2 ([83,84,69,80]:Bytes))).bind (fun r65=>(if r65.1=true then ((bU (pK K r65.2)).bind (fun r66=>((bU (fJ K r66.2 ([40]:Bytes))).bind (fun mF=>((bU (qT K mF 1)).bind (fun r68=>((bU (fJ K r68.2 ([44]:Bytes))).bind (fun r69=>((bU (qT K r69 1)).bind (fun r70=>((bU (fJ K r70.2 ([41]:Bytes))).bind (fun r72=>(some (.inr (r72,11,0,r66.1,[r68.1,r70.1],[],[]))))))))))))))) else ((bU (gE K r65.2 ([84,72,73,83]:Bytes))).bind (fun r73=>(if r73.1=true then ((bU (aBn K r73.2 (⟨0,1,([]:Bytes),([]:Bytes),[]⟩:cM) 1)).bind (fun r74=>(some (.inr (r74.2,4,0,([]:Bytes),[r74.1],[],[]))))) else ((bU (gE K r73.2 ([83,85,80,69,82]:Bytes))).bind (fun r75=>(if r75.1=true then ((bU (aBn K r75.2 (⟨0,2,([]:Bytes),([]:Bytes),[]⟩:cM) 1)).bind (fun r76=>(some (.inr (r76.2,4,0,([]:Bytes),[r76.1],[],[]))))) else ((bU (aOV K r75.2)).bind (fun r77=>(some (.inr (r77.2,r77.1.bP,r77.1.fN,r77.1.cG,r77.1.cT,r77.1.eP,r77.1.bX))))))))))))))))))))))))))))))))) (fun (u39:cB × Int × Int × Bytes × (List cM) × (List (List Int)) × (List (List cJ)))=>((bU (fJ K u39.1 ([59]:Bytes))).bind (fun r78=>(some (.inl ((⟨u39.2.1,u39.2.2.1,u39.2.2.2.1,u39.2.2.2.2.1,u39.2.2.2.2.2.1,u39.2.2.2.2.2.2⟩:cJ),r78)))))))
def aMk:(K:Nat)→(cB)→(Int)→Option ((cJ × cB) ⊕ (cJ × cB))
 | 0,_,_=>none
 | K+1,a0,a1 =>
 (bM (bL ((iter K (fun (fI:cB × (List cM) × (List (List cJ)) × (List Bytes))=>(if ((fI.1.iN:Int) == 0)=true then (bM (bL ((bU (qT K fI.1 1)).bind (fun iU=>(bW [room ((fI.2.1.length+([iU.1].length)) * 72)] ((bU (fJ K iU.2 ([84,72,69,78]:Bytes))).bind (fun aDz=>((bU (xR K aDz (IntKind.i64.wrap (a1+1)) fI.2.2.2)).bind (fun jG=>(bW [room ((fI.2.2.1.length+([jG.1].length)) * 24)] ((cK true (bU (F73 K jG.2 ([69,76,83,73,70]:Bytes))) default).bind (fun aMm=>(if (!aMm)=true then (some (.inl (Sum.inr (Sum.inl (jG.2,(fI.2.1++[iU.1]),(fI.2.2.1++[jG.1])))))) else ((bU (F74 K jG.2 (Int.ofNat ((fI.2.1++[iU.1]).length)) 6)).bind (fun y7=>((bU (fJ K y7 ([69,76,83,73,70]:Bytes))).bind (fun aDX=>(some (.inr (aDX,(fI.2.1++[iU.1]),(fI.2.2.1++[jG.1])))))))))))))))))))) (fun (xQ:cB × (List cM) × (List (List cJ)))=>(some (.inr (xQ.1,xQ.2.1,xQ.2.2,fI.2.2.2))))) else (some (.inl (Sum.inl (fI.1,fI.2.1,fI.2.2.1)))))) (a0,[],[],[([69,76,83,73,70]:Bytes),([69,76,83,69]:Bytes),([69,78,68,95,73,70]:Bytes)])).map .inl)) (fun (rN:cB × (List cM) × (List (List cJ)))=>((bU (aJi K rN.1 a1 ([69,78,68,95,73,70]:Bytes))).bind (fun mJ=>(bW [room ((rN.2.2.length+([mJ.1].length)) * 24)] ((bU (fJ K mJ.2 ([69,78,68,95,73,70]:Bytes))).bind (fun aRI=>(some (.inl ((⟨5,0,([]:Bytes),rN.2.1,[],(rN.2.2++[mJ.1])⟩:cJ),aRI))))))))))
def aMl:(K:Nat)→(cB)→(Int)→Option ((cJ × cB) ⊕ (cJ × cB))
 | 0,_,_=>none
 | K+1,a0,a1 =>
 ((bU (qT K a0 1)).bind (fun r1=>((bU (fJ K r1.2 ([79,70]:Bytes))).bind (fun r2=>(bM (bL ((iter K (fun (eS:cB × (List (List Int)) × (List (List cJ)))=>((cK true (bU (vD K eS.1 3)) default).bind (fun aOW=>((cK (!aOW) (bU (F73 K eS.1 ([45]:Bytes))) default).bind (fun aS3=>(if (aOW || aS3)=true then (bM (bL ((bU (F74 K eS.1 (Int.ofNat eS.2.1.length) 6)).bind (fun aS4=>(bM (bL ((iter K (fun (j7:cB × (List Int))=>(if ((j7.1.iN:Int) == 0)=true then (bM (bL ((cK true (bU (vD K j7.1 3)) default).bind (fun aOX=>((cK (!aOX) (bU (F73 K j7.1 ([45]:Bytes))) default).bind (fun aS5=>(bM (if (aOX || aS5)=true then ((bU (F74 K j7.1 (Int.ofNat j7.2.length) 8)).bind (fun aS6=>(some (.inr (aS6))))) else (some (.inr (j7.1)))) (fun (aKL:cB)=>((bU (aEI K aKL)).bind (fun qU=>(bW [room ((j7.2.length+([qU.1].length)) * 8)] ((bU (gE K qU.2 ([44]:Bytes))).bind (fun aKM=>(if (!aKM.1)=true then (some (.inl (Sum.inr (Sum.inl (aKM.2,(j7.2++[qU.1])))))) else (some (.inr (aKM.2,(j7.2++[qU.1]))))))))))))))))) (fun (aD0:cB × (List Int))=>(some (.inr (aD0.1,aD0.2))))) else (some (.inl (Sum.inl (j7.1,j7.2)))))) (aS4,[])).map .inl)) (fun (gV:cB × (List Int))=>((bU (fJ K gV.1 ([58]:Bytes))).bind (fun aBX=>(bW [room ((eS.2.1.length+([gV.2].length)) * 24)] ((bU (xR K aBX (IntKind.i64.wrap (a1+1)) [([48]:Bytes),([69,76,83,69]:Bytes),([69,78,68,95,67,65,83,69]:Bytes)])).bind (fun jU=>(bW [room ((eS.2.2.length+([jU.1].length)) * 24)] (some (.inr (jU.2,(eS.2.1++[gV.2]),(eS.2.2++[jU.1]))))))))))))))) (fun (aAx:cB × (List (List Int)) × (List (List cJ)))=>(some (.inr (aAx.1,aAx.2.1,aAx.2.2))))) else (some (.inl (Sum.inl (eS.1,eS.2.1,eS.2.2)))))))))) (r2,[],[])).map .inl)) (fun (iG:cB × (List (List Int)) × (List (List cJ)))=>((bU (aJi K iG.1 a1 ([69,78,68,95,67,65,83,69]:Bytes))).bind (fun jD=>(bW [room ((iG.2.2.length+([jD.1].length)) * 24)] ((bU (fJ K jD.2 ([69,78,68,95,67,65,83,69]:Bytes))).bind (fun aKN=>(some (.inl ((⟨6,0,([]:Bytes),[r1.1],iG.2.1,(iG.2.2++[jD.1])⟩:cJ),aKN))))))))))))))
def aJi:(K:Nat)→(cB)→(Int)→(Bytes)→Option (((List cJ) × cB) ⊕ ((List cJ) × cB))
 | 0,_,_,_=>none
 | K+1,a0,a1,a2 =>
 ((bU (gE K a0 ([69,76,83,69]:Bytes))).bind (fun r1=>(if (!r1.1)=true then (some (.inl ([],r1.2))) else ((bU (xR K r1.2 (IntKind.i64.wrap (a1+1)) [a2])).bind (fun r2=>(some (.inl (r2.1,r2.2))))))))
end
abbrev eW (v0:Int):List (Nat × D):=[sP 0 0 0 0,sI 1 v0,sP 4 1 0 0,sP 5 2 0 0]
abbrev y8 (v0:cB × (List cM) × (List (List cJ)) × (List Bytes)) (v1:cM × cB):List Go.Dl.Obj:=[oJ,.cells [iC 5,iC 0,.str [],.own 3 ((v0.2.1++[v1.1]).length),.nil,.own 4 v0.2.2.1.length],cA.row (v0.2.1++[v1.1])]
abbrev j5:List (Nat × D):=[sP 0 0 0 0,sP 4 1 0 0,sP 5 2 0 0]
abbrev y9 (v0:cB × (List cM) × (List (List cJ))):List Go.Dl.Obj:=[oJ,.cells [iC 5,iC 0,.str [],.own 3 v0.2.1.length,.nil,.own 4 v0.2.2.length],cA.row v0.2.1]
abbrev aD1 (v0:cB × (List cM) × (List (List cJ)) × (List Bytes)):List Go.Dl.Obj:=[oJ,.cells [iC 5,iC 0,.str [],.own 3 v0.2.1.length,.nil,.own 4 v0.2.2.1.length],cA.row v0.2.1,jA.row v0.2.2.1]
abbrev qV (v0:cB × (List (List Int)) × (List (List cJ))):List Go.Dl.Obj:=[lJ.row v0.2.1,jA.row v0.2.2]
theorem aRJ:∀ K:Nat,(∀ (a0:cB),∀ (a1:Int),∀ (a2:(List Bytes)),bR Tryz.prog 114 [.c (.ptr 0 0 0),.c (.val (.int .i64 a1)),.c (E9.tree a2)] [cL.o a0] (bU (xR K a0 a1 a2)) (fun r=>.c (dL.tree r.1)) (fun r=>[cL.o r.2]))∧(∀ (a0:cB),∀ (a1:Int),bR Tryz.prog 143 [.c (.ptr 0 0 0),.c (.val (.int .i64 a1))] [cL.o a0] (bU (aMj K a0 a1)) (fun r=>.agg (dL.cs r.1)) (fun r=>[cL.o r.2,dL.o r.1]))∧(∀ (a0:cB),∀ (a1:Int),bR Tryz.prog 185 [.c (.ptr 0 0 0),.c (.val (.int .i64 a1))] [cL.o a0] (bU (aMk K a0 a1)) (fun r=>.agg (dL.cs r.1)) (fun r=>[cL.o r.2,dL.o r.1]))∧(∀ (a0:cB),∀ (a1:Int),bR Tryz.prog 186 [.c (.ptr 0 0 0),.c (.val (.int .i64 a1))] [cL.o a0] (bU (aMl K a0 a1)) (fun r=>.agg (dL.cs r.1)) (fun r=>[cL.o r.2,dL.o r.1]))∧(∀ (a0:cB),∀ (a1:Int),∀ (a2:Bytes),bR Tryz.prog 212 [.c (.ptr 0 0 0),.c (.val (.int .i64 a1)),.c (.str a2)] [cL.o a0] (bU (aJi K a0 a1 a2)) (fun r=>.c (dL.tree r.1)) (fun r=>[cL.o r.2])):=by
 intro K
 induction K with
 | zero=>exact ⟨fun a0 a1 a2=>bR.none (by rw[xR];rfl),fun a0 a1=>bR.none (by rw[aMj];rfl),fun a0 a1=>bR.none (by rw[aMk];rfl),fun a0 a1=>bR.none (by rw[aMl];rfl),fun a0 a1 a2=>bR.none (by rw[aJi];rfl)⟩
 | succ K ih =>
  obtain ⟨aHw,aXL,aXM,aXN,aS7⟩:=ih
  refine ⟨?_,?_,?_,?_,?_⟩
  ·
   intro a0 a1 a2
   refine bR.it Tryz.f114 (fun r=>⟨[(6,.c (dL.tree r.1))],[cL.o r.2],[],1⟩) ?_
   rw[xR]
   exact Ref.pt (
    .jn (fun u68=>⟨[sP 0 0 0 0,sI 1 a1],[cL.o u68],[],1⟩) (
     .ite _ (
      .look (default:Bool) _ [0] (aKG K a0) (fun _=>rfl) fun r69 =>
      .bk 0 (fun aIV=>⟨[sP 0 0 0 0,sI 1 a1,sB 7 aIV],[cL.o a0],[],1⟩) (
       .lp [0] (fun s4=>⟨[sP 0 0 0 0,sI 1 a1,(2,.c (E9.tree a2)),sB 7 s4.1,sI 8 s4.2],[cL.o a0],[],1⟩) fun s4 =>
       .lt _ fun aXG =>
       .ite _ (
        .bk 1 (fun aRG=>⟨[sP 0 0 0 0,sI 1 a1,(2,.c (E9.tree a2)),sB 7 aRG,sI 8 s4.2],[cL.o a0],[],1⟩) (
         .ck _ <|
         .look (default:Bool) _ [0] (lG K a0 (a2.getD (s4.2:Int).toNat default)) (fun _=>rfl) fun aDE =>
         .ck _ <|
         .look (default:Bool) _ [0] (lQ K a0 3) (fun _=>rfl) fun aL9 =>
         .look (default:Bool) _ [0] (lG K a0 uM) (fun _=>rfl) fun aXH =>
         .lt _ fun aXI =>
         .nil [0] _) fun aRG =>
        .nil [0] _) (
        .ret [0] _)) fun aIV =>
      .ite _ (
       .call [0] (oD _ _ _) fun aXJ =>
       .nil [0] _) (
       .nil [0] _)) (
      .nil [0] _)) fun u68 =>
    .bk 2 (fun aJg=>⟨[(9,.c (.own 1 aJg.2.length))],[cL.o aJg.1,dL.row aJg.2],[],1⟩) (
     .ad 9 0 9 dL.ty dL.w (dL.at []) <|
     .lp [0,1] (fun rM=>⟨[sP 0 0 0 0,sI 1 a1,(9,.c (.own 1 rM.2.length))],[cL.o rM.1,dL.row rM.2],[],1⟩) fun rM =>
     .look (default:Bool) _ [0] (aKG K rM.1) (fun _=>rfl) fun aXK =>
     .ite _ (
      .bk 3 (fun aJf=>⟨[sP 0 0 0 0,sI 1 a1,(9,.c (.own 1 aJf.2.length))],[cL.o aJf.1,dL.row aJf.2],[],1⟩) (
       .call [0] (qR _ _ _ _) fun aRH =>
       .ite _ (
        .call [0] (aXL _ _) fun aAw =>
        .ob 13 2 3 (x:=.row 179 6 1 (hG [(dL.cs aAw.1)])) (y:=(dL.row [aAw.1])) (El.bZ dL [aAw.1] rfl (by kernel_rfl)) <|
        .sl 13 2 62 (x:=.c (.own 3 1)) (y:=(.c (.own 3 ([aAw.1].length)))) (eG.c (eD.own (by first | (simp;done) | (simp;omega) | omega))) <|
        .ck _ <|
        .ob 13 1 4 (x:=.row 179 6 (rM.2.length+([aAw.1].length)) fun i j=>bif Nat.blt i rM.2.length then dL.at rM.2 i j else (dL.at [aAw.1]) (i - rM.2.length) j) (y:=(dL.row (rM.2++[aAw.1]))) (El.cH dL rM.2 [aAw.1] rfl rfl) <|
        .sl 13 1 63 (x:=.c (.own 4 (rM.2.length+([aAw.1].length)))) (y:=(.c (.own 4 ((rM.2++[aAw.1]).length)))) (eG.c (eD.own (by first | (simp;done) | (simp;omega) | omega))) <|
        .nil [0,4] _) (
        .nil [0,1] _)) fun aJf =>
      .nil [0,1] _) (
      .ret [0,1] _)) fun aJg =>
    .fz 14 0 1 <|
    .ret [0] _)
  ·
   intro a0 a1
   refine bR.it Tryz.f143 (fun r=>⟨[sP 4 1 0 0],[cL.o r.2,dL.o r.1],[],1⟩) ?_
   rw[aMj]
   exact Ref.pt (
    .bk 0 (fun u39=>⟨j5,[cL.o u39.1,oJ,.cells [iC u39.2.1,iC u39.2.2.1,.str u39.2.2.2.1,cA.tree u39.2.2.2.2.1,lJ.tree u39.2.2.2.2.2.1,jA.tree u39.2.2.2.2.2.2]],[],1⟩) (
     .call [0] (dO _ _ _) fun mS =>
     .ite _ (
      .call [0] (aXM _ _) fun r41 =>
      .ob 4 0 2 (x:=dL.o r41.1) (y:=(.cells [iC r41.1.bP,iC r41.1.fN,.str r41.1.cG,cA.tree r41.1.cT,lJ.tree r41.1.eP,jA.tree r41.1.bX])) (OLe.cells (hU.cons (eD.refl _) (hU.cons (eD.refl _) (hU.cons (eD.refl _) (hU.cons (eD.refl _) (hU.cons (eD.refl _) (hU.cons (kV _) (hU.nil)))))))) <|
      .nil [0,1,2] _) (
      .call [0] (dO _ _ _) fun r42 =>
      .ite _ (
       .call [0] (aXN _ _) fun qO =>
       .ob 6 0 2 (x:=dL.o qO.1) (y:=(.cells [iC qO.1.bP,iC qO.1.fN,.str qO.1.cG,cA.tree qO.1.cT,lJ.tree qO.1.eP,jA.tree qO.1.bX])) (OLe.cells (hU.cons (eD.refl _) (hU.cons (eD.refl _) (hU.cons (eD.refl _) (hU.cons (eD.refl _) (hU.cons (eD.refl _) (hU.cons (kV _) (hU.nil)))))))) <|
       .nil [0,1,2] _) (
       .call [0] (dO _ _ _) fun r44 =>
       .ite _ (
        .call [0] (mG _ _ _) fun r45 =>
        .ob 9 2 4 (x:=.row 195 5 1 (hG [(cA.cs r45.1)])) (y:=(cA.row [r45.1])) (El.bZ cA [r45.1] rfl (by kernel_rfl)) <|
        .sl 9 2 29 (x:=.c (.own 4 1)) (y:=(.c (.own 4 ([r45.1].length)))) (eG.c (eD.own (by first | (simp;done) | (simp;omega) | omega))) <|
        .call [0] (dJ _ _ _) fun r46 =>
        .aEC [0,1,2,4] 11 (rg (cd (bd Tryz.f143) [1,1,0,0,1,1,1,1,1,0,1,1,1,0])) ((rg (cd (bd Tryz.f143) [1,1,0,0,1,1,1,1,1,0,1,1,1,0])).toList.drop 3) [(cd (bd Tryz.f143) [1,1,0,0,1,1,1,1,1,0,1,1,1,1])] ⟨j5++[sP 33 0 0 0,sI 35 (IntKind.i64.wrap (a1+1))],[cL.o r46,oJ,.cells [iC 7,iC 0,.str [],.own 3 ([r45.1].length),.nil,.nil],cA.row [r45.1]],[],1⟩ (by
         refine cY.li 36 [] E9 ([[69,78,68,95,87,72,73,76,69]]:List Bytes) 3 4 ?_
         exact cY.pt (id:=11) (
          .call [0] (aHw _ _ _) fun r47 =>
          .ob 11 2 5 (x:=.row 33 1 1 (hG [[dL.tree r47.1]])) (y:=(jA.row [r47.1])) (El.bZ jA [r47.1] rfl (by kernel_rfl)) <|
          .sl 11 2 38 (x:=.c (.own 5 1)) (y:=(.c (.own 5 ([r47.1].length)))) (eG.c (eD.own (by first | (simp;done) | (simp;omega) | omega))) <|
          .call [0] (dJ _ _ _) fun r48 =>
          .fz 12 0 3 <|
          .ok 12 0 2 4 (x:=.nil) (y:=lJ.tree []) (El.cO lJ) <|
          .fz 12 0 5 <|
          .nil [0,1,2] _))) (
        .call [0] (dO _ _ _) fun r49 =>
        .ite _ (
         .call [0] (iO _ _) fun r50 =>
         .call [0] (dJ _ _ _) fun r51 =>
         .call [0] (mG _ _ _) fun r52 =>
         .call [0] (dJ _ _ _) fun r53 =>
         .esc [0,1,2,4] [(cd (bd Tryz.f143) [1,1,0,0,1,1,1,1,1,1,1,0,1,1,1,1,0]),(cd (bd Tryz.f143) [1,1,0,0,1,1,1,1,1,1,1,0,1,1,1,1,1])] ⟨eW a1++[sP 6 3 0 0,sP 53 0 0 0,(54,.iV [])],[cL.o r53,oJ,.cells [iC 8,iC 0,.str r50.1,.nil,.nil,.nil],cA.o r52.1],[],1⟩ (by
          refine Ref.eR 18 (by kernel_rfl) (by kernel_rfl) ?_
          refine dV.fE (cR:=⟨eW a1++[sP 6 3 0 0,sP 56 0 0 0],[cL.o r53,oJ,.cells [iC 8,iC 0,.str r50.1,.nil,.nil,.nil],cA.o r52.1],[],1⟩) (fuel':=5) [1] [0,1,4,5,6,56] [0,1,2,3] rfl (by kernel_rfl) (by kernel_rfl) ?_
          refine dV.rG [2,5] ?_
          refine bQ.iD (fun (zG:cM × cB)=>⟨eW a1,[cL.o zG.2,oJ,.cells [iC 8,iC 0,.str r50.1,.own 3 ([r52.1,zG.1].length),.nil,.nil],cA.row [r52.1,zG.1]],[],1⟩) (fun (zG:cM × cB)=>((bU (fJ K zG.2 ([66,89]:Bytes))).bind (fun r56=>((bU (aEI K r56)).bind (fun r57=>((bU (fJ K r57.2 ([68,79]:Bytes))).bind (fun wG=>((bU (xR K wG (IntKind.i64.wrap (a1+1)) ([[69,78,68,95,70,79,82]]:List Bytes))).bind (fun r59=>((bU (fJ K r59.2 ([69,78,68,95,70,79,82]:Bytes))).bind (fun r60=>(some (.inr (r60,8,r57.1,r50.1,[r52.1,zG.1],[],[r59.1])))))))))))))) (fun zG=>?_) (fun hk=>?_)
          ·
           exact Ref.pt (
            .call [0] (dJ _ _ _) fun r56 =>
            .call [0] (aAv _ _) fun r57 =>
            .call [0] (dJ _ _ _) fun wG =>
            .aEC [0,1,2,3] 22 (rg (cd (bd Tryz.f143) [1,1,0,0,1,1,1,1,1,1,1,0,1,1,1,1,1,1,1,1,0])) ((rg (cd (bd Tryz.f143) [1,1,0,0,1,1,1,1,1,1,1,0,1,1,1,1,1,1,1,1,0])).toList.drop 3) [(cd (bd Tryz.f143) [1,1,0,0,1,1,1,1,1,1,1,0,1,1,1,1,1,1,1,1,1])] ⟨j5++[sP 67 0 0 0,sI 69 (IntKind.i64.wrap (a1+1))],[cL.o wG,oJ,.cells [iC 8,iC r57.1,.str r50.1,.own 3 ([r52.1,zG.1].length),.nil,.nil],cA.row [r52.1,zG.1]],[],1⟩ (by
             refine cY.li 70 [] E9 ([[69,78,68,95,70,79,82]]:List Bytes) 3 4 ?_
             exact cY.pt (id:=22) (
              .call [0] (aHw _ _ _) fun r59 =>
              .ob 22 2 5 (x:=.row 33 1 1 (hG [[dL.tree r59.1]])) (y:=(jA.row [r59.1])) (El.bZ jA [r59.1] rfl (by kernel_rfl)) <|
              .sl 22 2 72 (x:=.c (.own 5 1)) (y:=(.c (.own 5 ([r59.1].length)))) (eG.c (eD.own (by first | (simp;done) | (simp;omega) | omega))) <|
              .call [0] (dJ _ _ _) fun r60 =>
              .fz 23 0 3 <|
              .ok 23 0 2 4 (x:=.nil) (y:=lJ.tree []) (El.cO lJ) <|
              .fz 23 0 5 <|
              .nil [0,1,2] _)))
          ·
           refine bQ.iT (fuel':=4) [[],[(0,55)]] [(0,55)] [0,1,4,5,6,56] [0,1,2,3] ⟨eW a1++[sP 6 3 0 0,(55,.agg (cA.cs r52.1)),sP 56 0 0 0],[cL.o r53,oJ,.cells [iC 8,iC 0,.str r50.1,.nil,.nil,.nil],cA.o r52.1],[],1⟩ ?_
           refine cQ.cP (fuel':=3) 2 ?_
           refine dP.cF (t:=57) 2 [0] rfl (by kernel_rfl) (mG K r53 1) (fun zG=>?_)
           refine cQ.close ?_
           refine bQ.nC (cR:=⟨eW a1++[(58,.c (.own 3 2))],[cL.o zG.2,oJ,.cells [iC 8,iC 0,.str r50.1,.nil,.nil,.nil],.row 195 5 2 (hG [(cA.cs r52.1),(cA.cs zG.1)])],[],1⟩) (fuel':=2) 3 [0,1,4,5,58] [0,1,2,5] rfl (by kernel_rfl) (by kernel_rfl) ?_
           refine bQ.conv (Conv.ob 3 (cA.row [r52.1,zG.1]) (El.bZ cA [r52.1,zG.1] rfl (by kernel_rfl))) ?_
           refine bQ.conv (Conv.sl 58 (.c (.own 3 ([r52.1,zG.1].length))) (eG.c (eD.own (by first | (simp;done) | (simp;omega) | omega)))) ?_
           refine bQ.v0 (fuel':=1) [4] [0,1,4,5,58,59] [0,1,2,3] ?_
           refine bQ.cP (fuel':=0) 5 (by kernel_rfl) ?_
           refine cE.w0 5 [0,1,4,5] [0,1,2,3] ?_
           refine bQ.done (by kernel_rfl) ?_
           refine Ref.ck ⟨eW a1,[cL.o zG.2,oJ,.cells [iC 8,iC 0,.str r50.1,.own 3 ([r52.1,zG.1].length),.nil,.nil],cA.row [r52.1,zG.1]],[],1⟩ [0,1,4,5] [0,1,2,3] ?_
           exact hk zG)) (
         .call [0] (dO _ _ _) fun r61 =>
         .ite _ (
          .look (default:Bool) _ [0] (aF6 K r61.2) (fun _=>rfl) fun r62 =>
          .ite _ (
           .call [0] (mG _ _ _) fun tP =>
           .ob 27 2 4 (x:=.row 195 5 1 (hG [(cA.cs tP.1)])) (y:=(cA.row [tP.1])) (El.bZ cA [tP.1] rfl (by kernel_rfl)) <|
           .sl 27 2 84 (x:=.c (.own 4 1)) (y:=(.c (.own 4 ([tP.1].length)))) (eG.c (eD.own (by first | (simp;done) | (simp;omega) | omega))) <|
           .fz 27 0 4 <|
           .ok 27 0 2 4 (x:=.nil) (y:=lJ.tree []) (El.cO lJ) <|
           .ok 27 0 2 5 (x:=.nil) (y:=jA.tree []) (El.cO jA) <|
           .nil [0,1,2] _) (
           .ok 26 0 2 3 (x:=.nil) (y:=cA.tree []) (El.cO cA) <|
           .ok 26 0 2 4 (x:=.nil) (y:=lJ.tree []) (El.cO lJ) <|
           .ok 26 0 2 5 (x:=.nil) (y:=jA.tree []) (El.cO jA) <|
           .nil [0,1,2] _)) (
          .call [0] (dO _ _ _) fun vB =>
          .ite _ (
           .ok 29 0 2 3 (x:=.nil) (y:=cA.tree []) (El.cO cA) <|
           .ok 29 0 2 4 (x:=.nil) (y:=lJ.tree []) (El.cO lJ) <|
           .ok 29 0 2 5 (x:=.nil) (y:=jA.tree []) (El.cO jA) <|
           .nil [0,1,2] _) (
           .call [0] (dO _ _ _) fun r65 =>
           .ite _ (
            .call [0] (iO _ _) fun r66 =>
            .call [0] (dJ _ _ _) fun mF =>
            .call [0] (mG _ _ _) fun r68 =>
            .call [0] (dJ _ _ _) fun r69 =>
            .esc [0,1,2,4] [(cd (bd Tryz.f143) [1,1,0,0,1,1,1,1,1,1,1,1,1,1,1,1,1,0,1,1,1,1,0]),(cd (bd Tryz.f143) [1,1,0,0,1,1,1,1,1,1,1,1,1,1,1,1,1,0,1,1,1,1,1])] ⟨j5++[sP 7 3 0 0,sP 101 0 0 0,(102,.iV [])],[cL.o r69,oJ,.cells [iC 11,iC 0,.str r66.1,.nil,.nil,.nil],cA.o r68.1],[],1⟩ (by
             refine Ref.eR 35 (by kernel_rfl) (by kernel_rfl) ?_
             refine dV.fE (cR:=⟨j5++[sP 7 3 0 0,sP 104 0 0 0],[cL.o r69,oJ,.cells [iC 11,iC 0,.str r66.1,.nil,.nil,.nil],cA.o r68.1],[],1⟩) (fuel':=5) [1] [0,4,5,7,104] [0,1,2,3] rfl (by kernel_rfl) (by kernel_rfl) ?_
             refine dV.rG [2,5] ?_
             refine bQ.iD (fun (r70:cM × cB)=>⟨j5,[cL.o r70.2,oJ,.cells [iC 11,iC 0,.str r66.1,.own 3 ([r68.1,r70.1].length),.nil,.nil],cA.row [r68.1,r70.1]],[],1⟩) (fun (r70:cM × cB)=>((bU (fJ K r70.2 ([41]:Bytes))).bind (fun r72=>(some (.inr (r72,11,0,r66.1,[r68.1,r70.1],[],[])))))) (fun r70=>?_) (fun hk=>?_)
             ·
              exact Ref.pt (
               .call [0] (dJ _ _ _) fun r72 =>
               .fz 36 0 3 <|
               .ok 36 0 2 4 (x:=.nil) (y:=lJ.tree []) (El.cO lJ) <|
               .ok 36 0 2 5 (x:=.nil) (y:=jA.tree []) (El.cO jA) <|
               .nil [0,1,2] _)
             ·
              refine bQ.iT (fuel':=4) [[],[(0,103)]] [(0,103)] [0,4,5,7,104] [0,1,2,3] ⟨j5++[sP 7 3 0 0,(103,.agg (cA.cs r68.1)),sP 104 0 0 0],[cL.o r69,oJ,.cells [iC 11,iC 0,.str r66.1,.nil,.nil,.nil],cA.o r68.1],[],1⟩ ?_
              refine cQ.cP (fuel':=3) 2 ?_
              refine dP.cF (t:=105) 2 [0] rfl (by kernel_rfl) (mG K r69 1) (fun r70=>?_)
              refine cQ.close ?_
              refine bQ.nC (cR:=⟨j5++[(106,.c (.own 3 2))],[cL.o r70.2,oJ,.cells [iC 11,iC 0,.str r66.1,.nil,.nil,.nil],.row 195 5 2 (hG [(cA.cs r68.1),(cA.cs r70.1)])],[],1⟩) (fuel':=2) 3 [0,4,5,106] [0,1,2,5] rfl (by kernel_rfl) (by kernel_rfl) ?_
              refine bQ.conv (Conv.ob 3 (cA.row [r68.1,r70.1]) (El.bZ cA [r68.1,r70.1] rfl (by kernel_rfl))) ?_
              refine bQ.conv (Conv.sl 106 (.c (.own 3 ([r68.1,r70.1].length))) (eG.c (eD.own (by first | (simp;done) | (simp;omega) | omega)))) ?_
              refine bQ.v0 (fuel':=1) [4] [0,4,5,106,107] [0,1,2,3] ?_
              refine bQ.cP (fuel':=0) 5 (by kernel_rfl) ?_
              refine cE.w0 5 [0,4,5] [0,1,2,3] ?_
              refine bQ.done (by kernel_rfl) ?_
              refine Ref.ck ⟨j5,[cL.o r70.2,oJ,.cells [iC 11,iC 0,.str r66.1,.own 3 ([r68.1,r70.1].length),.nil,.nil],cA.row [r68.1,r70.1]],[],1⟩ [0,4,5] [0,1,2,3] ?_
              exact hk r70)) (
            .call [0] (dO _ _ _) fun r73 =>
            .ite _ (
             .call [0] (aF8 _ _ _ _) fun r74 =>
             .ob 38 4 4 (x:=.row 195 5 1 (hG [(cA.cs r74.1)])) (y:=(cA.row [r74.1])) (El.bZ cA [r74.1] rfl (by kernel_rfl)) <|
             .sl 38 4 116 (x:=.c (.own 4 1)) (y:=(.c (.own 4 ([r74.1].length)))) (eG.c (eD.own (by first | (simp;done) | (simp;omega) | omega))) <|
             .fz 38 0 4 <|
             .ok 38 0 2 4 (x:=.nil) (y:=lJ.tree []) (El.cO lJ) <|
             .ok 38 0 2 5 (x:=.nil) (y:=jA.tree []) (El.cO jA) <|
             .nil [0,1,2] _) (
             .call [0] (dO _ _ _) fun r75 =>
             .ite _ (
              .call [0] (aF8 _ _ _ _) fun r76 =>
              .ob 40 4 4 (x:=.row 195 5 1 (hG [(cA.cs r76.1)])) (y:=(cA.row [r76.1])) (El.bZ cA [r76.1] rfl (by kernel_rfl)) <|
              .sl 40 4 125 (x:=.c (.own 4 1)) (y:=(.c (.own 4 ([r76.1].length)))) (eG.c (eD.own (by first | (simp;done) | (simp;omega) | omega))) <|
              .fz 40 0 4 <|
              .ok 40 0 2 4 (x:=.nil) (y:=lJ.tree []) (El.cO lJ) <|
              .ok 40 0 2 5 (x:=.nil) (y:=jA.tree []) (El.cO jA) <|
              .nil [0,1,2] _) (
              .call [0] (aRF _ _) fun r77 =>
              .ob 2 0 2 (x:=dL.o r77.1) (y:=(.cells [iC r77.1.bP,iC r77.1.fN,.str r77.1.cG,cA.tree r77.1.cT,lJ.tree r77.1.eP,jA.tree r77.1.bX])) (OLe.cells (hU.cons (eD.refl _) (hU.cons (eD.refl _) (hU.cons (eD.refl _) (hU.cons (eD.refl _) (hU.cons (eD.refl _) (hU.cons (kV _) (hU.nil)))))))) <|
              .nil [0,1,2] _)))))))))) fun u39 =>
    .call [0] (dJ _ _ _) fun r78 =>
    .ok 42 0 1 5 (x:=jA.tree u39.2.2.2.2.2.2) (y:=nE u39.2.2.2.2.2.2) (xE _) <|
    .ret [0,1] _)
  ·
   intro a0 a1
   refine bR.it Tryz.f185 (fun r=>⟨[sP 4 1 0 0],[cL.o r.2,dL.o r.1],[],1⟩) ?_
   rw[aMk]
   exact Ref.pt (
    .ob 2 1 3 (x:=.row 9 1 3 (hG [[.str uN],[.str yC],[.str xF]])) (y:=(E9.row [uN,yC,xF])) (El.bZ E9 [uN,yC,xF] rfl (by kernel_rfl)) <|
    .sl 2 1 8 (x:=.c (.own 3 3)) (y:=(.c (.own 3 ([uN,yC,xF].length)))) (eG.c (eD.own (by first | (simp;done) | (simp;omega) | omega))) <|
    .bk 0 (fun rN=>⟨eW a1,cL.o rN.1::(y9 rN++[jA.row rN.2.2]),[],1⟩) (
     .fz 2 0 3 <|
     .adc 2 0 2 3 cA.ty cA.w (cA.at []) <|
     .adc 2 0 2 5 jA.ty jA.w (jA.at []) <|
     .lp [0,1,2,4,5] (fun fI=>⟨eW a1++[(6,.c (E9.tree fI.2.2.2))],cL.o fI.1::aD1 fI,[],1⟩) fun fI =>
     .ite _ (
      .bk 1 (fun xQ=>⟨eW a1++[(6,.c (E9.tree fI.2.2.2))],cL.o xQ.1::(y9 xQ++[jA.row xQ.2.2]),[],1⟩) (
       .esc [0,1,2,3,4] [(cd (bd Tryz.f185) [1,1,1,0,0,0,1,0,0]),(cd (bd Tryz.f185) [1,1,1,0,0,0,1,0,1])] ⟨eW a1++[(6,.c (E9.tree fI.2.2.2)),sB 13 ((fI.1.iN:Int) == 0)],cL.o fI.1::aD1 fI,[],1⟩ (by
        refine Ref.eR 4 (by kernel_rfl) (by kernel_rfl) ?_
        refine dV.fE (cR:=⟨eW a1++[(6,.c (E9.tree fI.2.2.2)),sP 14 2 0 3,sP 16 0 0 0],cL.o fI.1::aD1 fI,[],1⟩) (fuel':=6) [0,2] [0,1,4,5,6,14,16] [0,1,2,3,4] rfl (by kernel_rfl) (by kernel_rfl) ?_
        refine dV.rG [3,5,7] ?_
        refine bQ.iD (fun (iU:cM × cB)=>⟨eW a1++[(6,.c (E9.tree fI.2.2.2))],cL.o iU.2::(y8 fI iU++[jA.row fI.2.2.1]),[],1⟩) (fun (iU:cM × cB)=>((bU (fJ K iU.2 ([84,72,69,78]:Bytes))).bind (fun aDz=>((bU (xR K aDz (IntKind.i64.wrap (a1+1)) fI.2.2.2)).bind (fun jG=>(bW [room ((fI.2.2.1.length+([jG.1].length)) * 24)] ((cK true (bU (F73 K jG.2 uN)) default).bind (fun aMm=>(if (!aMm)=true then (some (.inl (Sum.inr (Sum.inl (jG.2,(fI.2.1++[iU.1]),(fI.2.2.1++[jG.1])))))) else ((bU (F74 K jG.2 (Int.ofNat ((fI.2.1++[iU.1]).length)) 6)).bind (fun y7=>((bU (fJ K y7 uN)).bind (fun aDX=>(some (.inr (aDX,(fI.2.1++[iU.1]),(fI.2.2.1++[jG.1]))))))))))))))))) (fun iU=>?_) (fun hk=>?_)
        ·
         exact Ref.pt (
          .call [0] (dJ _ _ _) fun aDz =>
          .esc [0,1,2,3,4] [(cd (bd Tryz.f185) [1,1,1,0,0,0,1,0,1,1,0]),(cd (bd Tryz.f185) [1,1,1,0,0,0,1,0,1,1,1])] ⟨eW a1++[(6,.c (E9.tree fI.2.2.2)),sP 21 0 0 0,(22,.iV [])],cL.o aDz::(y8 fI iU++[jA.row fI.2.2.1]),[],1⟩ (by
           refine Ref.eR 6 (by kernel_rfl) (by kernel_rfl) ?_
           refine dV.fE (cR:=⟨eW a1++[(6,.c (E9.tree fI.2.2.2)),sP 23 2 0 5,sP 25 0 0 0,sI 27 (IntKind.i64.wrap (a1+1)),(28,.c (E9.tree fI.2.2.2))],cL.o aDz::(y8 fI iU++[jA.row fI.2.2.1]),[],1⟩) (fuel':=6) [0,2,3,4,5] [0,1,4,5,6,23,25,27,28] [0,1,2,3,4] rfl (by kernel_rfl) (by kernel_rfl) ?_
           refine dV.rG [6,8,10] ?_
           refine bQ.iD (fun (jG:(List cJ) × cB)=>⟨eW a1++[(6,.c (E9.tree fI.2.2.2))],[cL.o jG.2,oJ,.cells [iC 5,iC 0,.str [],.own 3 ((fI.2.1++[iU.1]).length),.nil,.own 4 ((fI.2.2.1++[jG.1]).length)],cA.row (fI.2.1++[iU.1]),jA.row (fI.2.2.1++[jG.1])],[],1⟩) (fun (jG:(List cJ) × cB)=>((cK true (bU (F73 K jG.2 uN)) default).bind (fun aMm=>(if (!aMm)=true then (some (.inl (Sum.inr (Sum.inl (jG.2,(fI.2.1++[iU.1]),(fI.2.2.1++[jG.1])))))) else ((bU (F74 K jG.2 (Int.ofNat ((fI.2.1++[iU.1]).length)) 6)).bind (fun y7=>((bU (fJ K y7 uN)).bind (fun aDX=>(some (.inr (aDX,(fI.2.1++[iU.1]),(fI.2.2.1++[jG.1])))))))))))) (fun jG=>?_) (fun hk=>?_)
           ·
            exact Ref.pt (
             .look (default:Bool) _ [0] (lG K jG.2 uN) (fun _=>rfl) fun aMm =>
             .ite _ (
              .ret [0,1,2,3,4] _) (
              .call [0] (qR _ _ _ _) fun y7 =>
              .call [0] (dJ _ _ _) fun aDX =>
              .nil [0,1,2,3,4] _))
           ·
            refine bQ.iT (fuel':=5) [[],[(1,24)]] [(1,24)] [0,1,4,5,6,23,25,27,28] [0,1,2,3,4] ⟨eW a1++[(6,.c (E9.tree fI.2.2.2)),sP 23 2 0 5,(24,.c (.own 4 fI.2.2.1.length)),sP 25 0 0 0,sI 27 (IntKind.i64.wrap (a1+1)),(28,.c (E9.tree fI.2.2.2))],cL.o aDz::(y8 fI iU++[jA.row fI.2.2.1]),[],1⟩ ?_
            refine cQ.cP (fuel':=4) 6 ?_
            refine dP.cF (t:=29) 6 [0] rfl (by kernel_rfl) (aHw aDz (IntKind.i64.wrap (a1+1)) fI.2.2.2) (fun jG=>?_)
            refine cQ.cP (fuel':=3) 7 ?_
            refine dP.kC (cR:=⟨eW a1++[(6,.c (E9.tree fI.2.2.2)),sP 23 2 0 5,(24,.c (.own 4 fI.2.2.1.length)),(30,.c (.own 5 1))],cL.o jG.2::(y8 fI iU++[jA.row fI.2.2.1,.row 33 1 1 (hG [[dL.tree jG.1]])]),[],1⟩) 7 [0,1,4,5,6,23,24,30] [0,1,2,3,4,5] (by kernel_rfl) (by kernel_rfl) ?_
            refine cQ.conv (jR.obj 5 (jA.row [jG.1]) (El.bZ jA [jG.1] rfl (by kernel_rfl)) (by kernel_rfl)) ?_
            refine cQ.conv (jR.slot 30 (.c (.own 5 ([jG.1].length))) (eG.c (eD.own (by first | (simp;done) | (simp;omega) | omega))) (by kernel_rfl)) ?_
            refine cQ.close ?_
            refine bQ.cP (fuel':=2) 8 (by kernel_rfl) ?_
            refine cE.writes (vs:=[room ((fI.2.2.1.length+([jG.1].length)) * 24)]) (cR:=⟨eW a1++[(6,.c (E9.tree fI.2.2.2)),(31,.c (.own 5 (fI.2.2.1.length+([jG.1].length))))],cL.o jG.2::(y8 fI iU++[.dead,.row 33 1 (fI.2.2.1.length+([jG.1].length)) fun i j=>bif Nat.blt i fI.2.2.1.length then jA.at fI.2.2.1 i j else (jA.at [jG.1]) (i - fI.2.2.1.length) j]),[],1⟩) 8 [0,1,4,5,6,31] [0,1,2,3,4,6] (by kernel_rfl) (by kernel_rfl) ?_
            refine bQ.conv (Conv.ob 5 (jA.row (fI.2.2.1++[jG.1])) (El.cH jA fI.2.2.1 [jG.1] rfl rfl)) ?_
            refine bQ.conv (Conv.sl 31 (.c (.own 5 ((fI.2.2.1++[jG.1]).length))) (eG.c (eD.own (by first | (simp;done) | (simp;omega) | omega)))) ?_
            refine bQ.v0 (fuel':=1) [9] [0,1,4,5,6,31,32] [0,1,2,3,4,5] ?_
            refine bQ.cP (fuel':=0) 10 (by kernel_rfl) ?_
            refine cE.w0 10 [0,1,4,5,6] [0,1,2,3,5] ?_
            refine bQ.done (by kernel_rfl) ?_
            refine Ref.ck ⟨eW a1++[(6,.c (E9.tree fI.2.2.2))],[cL.o jG.2,oJ,.cells [iC 5,iC 0,.str [],.own 3 ((fI.2.1++[iU.1]).length),.nil,.own 4 ((fI.2.2.1++[jG.1]).length)],cA.row (fI.2.1++[iU.1]),jA.row (fI.2.2.1++[jG.1])],[],1⟩ [0,1,4,5,6] [0,1,2,3,4] ?_
            exact hk jG))
        ·
         refine bQ.iT (fuel':=5) [[],[(1,15)]] [(1,15)] [0,1,4,5,6,14,16] [0,1,2,3,4] ⟨eW a1++[(6,.c (E9.tree fI.2.2.2)),sP 14 2 0 3,(15,.c (.own 3 fI.2.1.length)),sP 16 0 0 0],cL.o fI.1::aD1 fI,[],1⟩ ?_
         refine cQ.cP (fuel':=4) 3 ?_
         refine dP.cF (t:=17) 3 [0] rfl (by kernel_rfl) (mG K fI.1 1) (fun iU=>?_)
         refine cQ.cP (fuel':=3) 4 ?_
         refine dP.kC (cR:=⟨eW a1++[(6,.c (E9.tree fI.2.2.2)),sP 14 2 0 3,(15,.c (.own 3 fI.2.1.length)),(18,.c (.own 5 1))],cL.o iU.2::(aD1 fI++[.row 195 5 1 (hG [(cA.cs iU.1)])]),[],1⟩) 4 [0,1,4,5,6,14,15,18] [0,1,2,3,4,6] (by kernel_rfl) (by kernel_rfl) ?_
         refine cQ.conv (jR.obj 5 (cA.row [iU.1]) (El.bZ cA [iU.1] rfl (by kernel_rfl)) (by kernel_rfl)) ?_
         refine cQ.conv (jR.slot 18 (.c (.own 5 ([iU.1].length))) (eG.c (eD.own (by first | (simp;done) | (simp;omega) | omega))) (by kernel_rfl)) ?_
         refine cQ.close ?_
         refine bQ.cP (fuel':=2) 5 (by kernel_rfl) ?_
         refine cE.writes (vs:=[room ((fI.2.1.length+([iU.1].length)) * 72)]) (cR:=⟨eW a1++[(6,.c (E9.tree fI.2.2.2)),(19,.c (.own 5 (fI.2.1.length+([iU.1].length))))],[cL.o iU.2,oJ,.cells [iC 5,iC 0,.str [],.own 3 fI.2.1.length,.nil,.own 4 fI.2.2.1.length],.dead,jA.row fI.2.2.1,.row 195 5 (fI.2.1.length+([iU.1].length)) fun i j=>bif Nat.blt i fI.2.1.length then cA.at fI.2.1 i j else (cA.at [iU.1]) (i - fI.2.1.length) j],[],1⟩) 5 [0,1,4,5,6,19] [0,1,2,3,4,6] (by kernel_rfl) (by kernel_rfl) ?_
         refine bQ.conv (Conv.ob 5 (cA.row (fI.2.1++[iU.1])) (El.cH cA fI.2.1 [iU.1] rfl rfl)) ?_
         refine bQ.conv (Conv.sl 19 (.c (.own 5 ((fI.2.1++[iU.1]).length))) (eG.c (eD.own (by first | (simp;done) | (simp;omega) | omega)))) ?_
         refine bQ.v0 (fuel':=1) [6] [0,1,4,5,6,19,20] [0,1,2,3,4,5] ?_
         refine bQ.cP (fuel':=0) 7 (by kernel_rfl) ?_
         refine cE.w0 7 [0,1,4,5,6] [0,1,2,4,5] ?_
         refine bQ.done (by kernel_rfl) ?_
         refine Ref.ck ⟨eW a1++[(6,.c (E9.tree fI.2.2.2))],cL.o iU.2::(y8 fI iU++[jA.row fI.2.2.1]),[],1⟩ [0,1,4,5,6] [0,1,2,4,3] ?_
         exact hk iU)) fun xQ =>
      .nil [0,1,2,3,4] _) (
      .ret [0,1,2,3,4] _)) fun rN =>
    .esc [0,1,2,3,4] [(cd (bd Tryz.f185) [1,1,1,1,0]),(cd (bd Tryz.f185) [1,1,1,1,1])] ⟨eW a1,cL.o rN.1::(y9 rN++[jA.row rN.2.2]),[],1⟩ (by
     refine Ref.eR 10 (by kernel_rfl) (by kernel_rfl) ?_
     refine dV.fE (cR:=⟨j5++[sP 43 2 0 5,sP 45 0 0 0,sI 46 a1],cL.o rN.1::(y9 rN++[jA.row rN.2.2]),[],1⟩) (fuel':=6) [0,2,3] [0,4,5,43,45,46] [0,1,2,3,4] rfl (by kernel_rfl) (by kernel_rfl) ?_
     refine dV.rG [4,6,8] ?_
     refine bQ.iD (fun (mJ:(List cJ) × cB)=>⟨j5,[cL.o mJ.2,oJ,.cells [iC 5,iC 0,.str [],.own 3 rN.2.1.length,.nil,.own 4 ((rN.2.2++[mJ.1]).length)],cA.row rN.2.1,jA.row (rN.2.2++[mJ.1])],[],1⟩) (fun (mJ:(List cJ) × cB)=>((bU (fJ K mJ.2 xF)).bind (fun aRI=>(some (.inl ((⟨5,0,([]:Bytes),rN.2.1,[],(rN.2.2++[mJ.1])⟩:cJ),aRI)))))) (fun mJ=>?_) (fun hk=>?_)
     ·
      exact Ref.pt (
       .call [0] (dJ _ _ _) fun aRI =>
       .fz 12 0 3 <|
       .ok 12 0 1 4 (x:=.nil) (y:=lJ.tree []) (El.cO lJ) <|
       .fz 12 0 4 <|
       .ok 12 0 1 5 (x:=jA.tree (rN.2.2++[mJ.1])) (y:=nE (rN.2.2++[mJ.1])) (xE _) <|
       .ret [0,1] _)
     ·
      refine bQ.iT (fuel':=5) [[],[(1,44)]] [(1,44)] [0,4,5,43,45,46] [0,1,2,3,4] ⟨j5++[sP 43 2 0 5,(44,.c (.own 4 rN.2.2.length)),sP 45 0 0 0,sI 46 a1],cL.o rN.1::(y9 rN++[jA.row rN.2.2]),[],1⟩ ?_
      refine cQ.cP (fuel':=4) 4 ?_
      refine dP.cF (t:=47) 4 [0] rfl (by kernel_rfl) (aS7 rN.1 a1 xF) (fun mJ=>?_)
      refine cQ.cP (fuel':=3) 5 ?_
      refine dP.kC (cR:=⟨j5++[sP 43 2 0 5,(44,.c (.own 4 rN.2.2.length)),(48,.c (.own 5 1))],cL.o mJ.2::(y9 rN++[jA.row rN.2.2,.row 33 1 1 (hG [[dL.tree mJ.1]])]),[],1⟩) 5 [0,4,5,43,44,48] [0,1,2,3,4,5] (by kernel_rfl) (by kernel_rfl) ?_
      refine cQ.conv (jR.obj 5 (jA.row [mJ.1]) (El.bZ jA [mJ.1] rfl (by kernel_rfl)) (by kernel_rfl)) ?_
      refine cQ.conv (jR.slot 48 (.c (.own 5 ([mJ.1].length))) (eG.c (eD.own (by first | (simp;done) | (simp;omega) | omega))) (by kernel_rfl)) ?_
      refine cQ.close ?_
      refine bQ.cP (fuel':=2) 6 (by kernel_rfl) ?_
      refine cE.writes (vs:=[room ((rN.2.2.length+([mJ.1].length)) * 24)]) (cR:=⟨j5++[(49,.c (.own 5 (rN.2.2.length+([mJ.1].length))))],cL.o mJ.2::(y9 rN++[.dead,.row 33 1 (rN.2.2.length+([mJ.1].length)) fun i j=>bif Nat.blt i rN.2.2.length then jA.at rN.2.2 i j else (jA.at [mJ.1]) (i - rN.2.2.length) j]),[],1⟩) 6 [0,4,5,49] [0,1,2,3,4,6] (by kernel_rfl) (by kernel_rfl) ?_
      refine bQ.conv (Conv.ob 5 (jA.row (rN.2.2++[mJ.1])) (El.cH jA rN.2.2 [mJ.1] rfl rfl)) ?_
      refine bQ.conv (Conv.sl 49 (.c (.own 5 ((rN.2.2++[mJ.1]).length))) (eG.c (eD.own (by first | (simp;done) | (simp;omega) | omega)))) ?_
      refine bQ.v0 (fuel':=1) [7] [0,4,5,49,50] [0,1,2,3,4,5] ?_
      refine bQ.cP (fuel':=0) 8 (by kernel_rfl) ?_
      refine cE.w0 8 [0,4,5] [0,1,2,3,5] ?_
      refine bQ.done (by kernel_rfl) ?_
      refine Ref.ck ⟨j5,[cL.o mJ.2,oJ,.cells [iC 5,iC 0,.str [],.own 3 rN.2.1.length,.nil,.own 4 ((rN.2.2++[mJ.1]).length)],cA.row rN.2.1,jA.row (rN.2.2++[mJ.1])],[],1⟩ [0,4,5] [0,1,2,3,4] ?_
      exact hk mJ))
  ·
   intro a0 a1
   refine bR.it Tryz.f186 (fun r=>⟨[sP 4 1 0 0],[cL.o r.2,dL.o r.1],[],1⟩) ?_
   rw[aMl]
   exact Ref.pt (
    .call [0] (mG _ _ _) fun r1 =>
    .ob 1 3 3 (x:=.row 195 5 1 (hG [(cA.cs r1.1)])) (y:=(cA.row [r1.1])) (El.bZ cA [r1.1] rfl (by kernel_rfl)) <|
    .sl 1 3 9 (x:=.c (.own 3 1)) (y:=(.c (.own 3 ([r1.1].length)))) (eG.c (eD.own (by first | (simp;done) | (simp;omega) | omega))) <|
    .call [0] (dJ _ _ _) fun r2 =>
    .bk 0 (fun iG=>⟨eW a1,cL.o iG.1::oJ::.cells [iC 6,iC 0,.str [],.own 3 ([r1.1].length),.own 4 iG.2.1.length,.own 5 iG.2.2.length]::cA.row [r1.1]::qV iG,[],1⟩) (
     .adc 2 0 4 4 lJ.ty lJ.w (lJ.at []) <|
     .adc 2 0 4 5 jA.ty jA.w (jA.at []) <|
     .lp [0,1,4,3,5,6] (fun eS=>⟨eW a1,cL.o eS.1::oJ::.cells [iC 6,iC 0,.str [],.own 3 ([r1.1].length),.own 4 eS.2.1.length,.own 5 eS.2.2.length]::cA.row [r1.1]::qV eS,[],1⟩) fun eS =>
     .look (default:Bool) _ [0] (lQ K eS.1 3) (fun _=>rfl) fun aOW =>
     .look (default:Bool) _ [0] (lG K eS.1 uM) (fun _=>rfl) fun aS3 =>
     .ite _ (
      .bk 1 (fun aAx=>⟨eW a1,cL.o aAx.1::oJ::.cells [iC 6,iC 0,.str [],.own 3 ([r1.1].length),.own 4 aAx.2.1.length,.own 5 aAx.2.2.length]::cA.row [r1.1]::qV aAx,[],1⟩) (
       .call [0] (qR _ _ _ _) fun aS4 =>
       .bk 2 (fun gV=>⟨eW a1++[(6,.c (.own 6 gV.2.length))],cL.o gV.1::oJ::.cells [iC 6,iC 0,.str [],.own 3 ([r1.1].length),.own 4 eS.2.1.length,.own 5 eS.2.2.length]::cA.row [r1.1]::(qV eS++[E3.row gV.2]),[],1⟩) (
        .ad 5 0 6 E3.ty E3.w (E3.at []) <|
        .lp [0,1,2,3,4,5,6] (fun j7=>⟨eW a1++[(6,.c (.own 6 j7.2.length))],cL.o j7.1::oJ::.cells [iC 6,iC 0,.str [],.own 3 ([r1.1].length),.own 4 eS.2.1.length,.own 5 eS.2.2.length]::cA.row [r1.1]::(qV eS++[E3.row j7.2]),[],1⟩) fun j7 =>
        .ite _ (
         .bk 3 (fun aD0=>⟨eW a1++[(6,.c (.own 6 aD0.2.length))],cL.o aD0.1::oJ::.cells [iC 6,iC 0,.str [],.own 3 ([r1.1].length),.own 4 eS.2.1.length,.own 5 eS.2.2.length]::cA.row [r1.1]::(qV eS++[E3.row aD0.2]),[],1⟩) (
          .look (default:Bool) _ [0] (lQ K j7.1 3) (fun _=>rfl) fun aOX =>
          .look (default:Bool) _ [0] (lG K j7.1 uM) (fun _=>rfl) fun aS5 =>
          .jn (fun aKL=>⟨eW a1++[(6,.c (.own 6 j7.2.length))],cL.o aKL::oJ::.cells [iC 6,iC 0,.str [],.own 3 ([r1.1].length),.own 4 eS.2.1.length,.own 5 eS.2.2.length]::cA.row [r1.1]::(qV eS++[E3.row j7.2]),[],1⟩) (
           .ite _ (
            .call [0] (qR _ _ _ _) fun aS6 =>
            .nil [0,1,2,3,4,5,6] _) (
            .nil [0,1,2,3,4,5,6] _)) fun aKL =>
          .call [0] (aAv _ _) fun qU =>
          .ob 9 2 7 (x:=.row 3 1 1 (hG [[iC qU.1]])) (y:=(E3.row [qU.1])) (El.bZ E3 [qU.1] rfl (by kernel_rfl)) <|
          .sl 9 2 42 (x:=.c (.own 7 1)) (y:=(.c (.own 7 ([qU.1].length)))) (eG.c (eD.own (by first | (simp;done) | (simp;omega) | omega))) <|
          .ck _ <|
          .ob 9 1 8 (x:=.row 3 1 (j7.2.length+([qU.1].length)) fun i j=>bif Nat.blt i j7.2.length then E3.at j7.2 i j else (E3.at [qU.1]) (i - j7.2.length) j) (y:=(E3.row (j7.2++[qU.1]))) (El.cH E3 j7.2 [qU.1] rfl rfl) <|
          .sl 9 1 43 (x:=.c (.own 8 (j7.2.length+([qU.1].length)))) (y:=(.c (.own 8 ((j7.2++[qU.1]).length)))) (eG.c (eD.own (by first | (simp;done) | (simp;omega) | omega))) <|
          .call [0] (dO _ _ _) fun aKM =>
          .ite _ (
           .ret [0,1,2,3,4,5,8] _) (
           .nil [0,1,2,3,4,5,8] _)) fun aD0 =>
         .nil [0,1,2,3,4,5,6] _) (
         .ret [0,1,2,3,4,5,6] _)) fun gV =>
       .call [0] (dJ _ _ _) fun aBX =>
       .fz 12 4 6 <|
       .ob 12 3 7 (x:=.row 45 1 1 (hG [[E3.tree gV.2]])) (y:=(lJ.row [gV.2])) (El.bZ lJ [gV.2] rfl (by kernel_rfl)) <|
       .sl 12 3 52 (x:=.c (.own 7 1)) (y:=(.c (.own 7 ([gV.2].length)))) (eG.c (eD.own (by first | (simp;done) | (simp;omega) | omega))) <|
       .ck _ <|
       .ob 12 2 8 (x:=.row 45 1 (eS.2.1.length+([gV.2].length)) fun i j=>bif Nat.blt i eS.2.1.length then lJ.at eS.2.1 i j else (lJ.at [gV.2]) (i - eS.2.1.length) j) (y:=(lJ.row (eS.2.1++[gV.2]))) (El.cH lJ eS.2.1 [gV.2] rfl rfl) <|
       .sl 12 2 53 (x:=.c (.own 8 (eS.2.1.length+([gV.2].length)))) (y:=(.c (.own 8 ((eS.2.1++[gV.2]).length)))) (eG.c (eD.own (by first | (simp;done) | (simp;omega) | omega))) <|
       .esc [0,1,2,3,5,8] [(cd (bd Tryz.f186) [1,1,1,0,0,0,1,0,1,1,1,1,1])] ⟨eW a1,[cL.o aBX,oJ,.cells [iC 6,iC 0,.str [],.own 3 ([r1.1].length),.own 5 ((eS.2.1++[gV.2]).length),.own 4 eS.2.2.length],cA.row [r1.1],jA.row eS.2.2,lJ.row (eS.2.1++[gV.2])],[],1⟩ (by
        refine Ref.eR 13 (by kernel_rfl) (by kernel_rfl) ?_
        refine dV.fE (cR:=⟨eW a1++[sP 55 2 0 5,sP 57 0 0 0,sI 59 (IntKind.i64.wrap (a1+1))],[cL.o aBX,oJ,.cells [iC 6,iC 0,.str [],.own 3 ([r1.1].length),.own 5 ((eS.2.1++[gV.2]).length),.own 4 eS.2.2.length],cA.row [r1.1],jA.row eS.2.2,lJ.row (eS.2.1++[gV.2])],[],1⟩) (fuel':=7) [0,2,3,4] [0,1,4,5,55,57,59] [0,1,2,3,4,5] rfl (by kernel_rfl) (by kernel_rfl) ?_
        refine dV.rG [6,8,10] ?_
        refine bQ.iD (fun (jU:(List cJ) × cB)=>⟨eW a1,[cL.o jU.2,oJ,.cells [iC 6,iC 0,.str [],.own 3 ([r1.1].length),.own 4 ((eS.2.1++[gV.2]).length),.own 5 ((eS.2.2++[jU.1]).length)],cA.row [r1.1],lJ.row (eS.2.1++[gV.2]),jA.row (eS.2.2++[jU.1])],[],1⟩) (fun (jU:(List cJ) × cB)=>(some (.inr (jU.2,(eS.2.1++[gV.2]),(eS.2.2++[jU.1]))))) (fun jU=>?_) (fun hk=>?_)
        ·
         exact Ref.pt (
          .nil [0,1,2,3,4,5] _)
        ·
         refine bQ.iT (fuel':=6) [[],[(1,56)]] [(1,56)] [0,1,4,5,55,57,59] [0,1,2,3,4,5] ⟨eW a1++[sP 55 2 0 5,(56,.c (.own 4 eS.2.2.length)),sP 57 0 0 0,sI 59 (IntKind.i64.wrap (a1+1))],[cL.o aBX,oJ,.cells [iC 6,iC 0,.str [],.own 3 ([r1.1].length),.own 5 ((eS.2.1++[gV.2]).length),.own 4 eS.2.2.length],cA.row [r1.1],jA.row eS.2.2,lJ.row (eS.2.1++[gV.2])],[],1⟩ ?_
         refine cQ.cP (fuel':=5) 5 ?_
         refine dP.kC (cR:=⟨eW a1++[sP 55 2 0 5,(56,.c (.own 4 eS.2.2.length)),sP 57 0 0 0,sI 59 (IntKind.i64.wrap (a1+1)),(60,.c (.own 6 3))],[cL.o aBX,oJ,.cells [iC 6,iC 0,.str [],.own 3 ([r1.1].length),.own 5 ((eS.2.1++[gV.2]).length),.own 4 eS.2.2.length],cA.row [r1.1],jA.row eS.2.2,lJ.row (eS.2.1++[gV.2]),.row 9 1 3 (hG [[.str aMn],[.str yC],[.str mP]])],[],1⟩) 5 [0,1,4,5,55,56,57,59,60] [0,1,2,3,4,5,6] (by kernel_rfl) (by kernel_rfl) ?_
         refine cQ.conv (jR.obj 6 (E9.row [aMn,yC,mP]) (El.bZ E9 [aMn,yC,mP] rfl (by kernel_rfl)) (by kernel_rfl)) ?_
         refine cQ.conv (jR.slot 60 (.c (.own 6 ([aMn,yC,mP].length))) (eG.c (eD.own (by first | (simp;done) | (simp;omega) | omega))) (by kernel_rfl)) ?_
         refine cQ.cP (fuel':=4) 6 ?_
         refine dP.conv (jR.freeze (cR:=⟨(60,.c (E9.tree [aMn,yC,mP]))::(eW a1++[sP 55 2 0 5,(56,.c (.own 4 eS.2.2.length)),sP 57 0 0 0,sI 59 (IntKind.i64.wrap (a1+1))]),[cL.o aBX,oJ,.cells [iC 6,iC 0,.str [],.own 3 ([r1.1].length),.own 5 ((eS.2.1++[gV.2]).length),.own 4 eS.2.2.length],cA.row [r1.1],jA.row eS.2.2,lJ.row (eS.2.1++[gV.2]),.dead],[],1⟩) 6 (by kernel_rfl)) ?_
         refine dP.cF (t:=61) 6 [0] rfl (by kernel_rfl) (aHw aBX (IntKind.i64.wrap (a1+1)) [aMn,yC,mP]) (fun jU=>?_)
         refine cQ.cP (fuel':=3) 7 ?_
         refine dP.kC (cR:=⟨eW a1++[sP 55 2 0 5,(56,.c (.own 4 eS.2.2.length)),(62,.c (.own 6 1))],[cL.o jU.2,oJ,.cells [iC 6,iC 0,.str [],.own 3 ([r1.1].length),.own 5 ((eS.2.1++[gV.2]).length),.own 4 eS.2.2.length],cA.row [r1.1],jA.row eS.2.2,lJ.row (eS.2.1++[gV.2]),.row 33 1 1 (hG [[dL.tree jU.1]])],[],1⟩) 7 [0,1,4,5,55,56,62] [0,1,2,3,4,5,7] (by kernel_rfl) (by kernel_rfl) ?_
         refine cQ.conv (jR.obj 6 (jA.row [jU.1]) (El.bZ jA [jU.1] rfl (by kernel_rfl)) (by kernel_rfl)) ?_
         refine cQ.conv (jR.slot 62 (.c (.own 6 ([jU.1].length))) (eG.c (eD.own (by first | (simp;done) | (simp;omega) | omega))) (by kernel_rfl)) ?_
         refine cQ.close ?_
         refine bQ.cP (fuel':=2) 8 (by kernel_rfl) ?_
         refine cE.writes (vs:=[room ((eS.2.2.length+([jU.1].length)) * 24)]) (cR:=⟨eW a1++[(63,.c (.own 6 (eS.2.2.length+([jU.1].length))))],[cL.o jU.2,oJ,.cells [iC 6,iC 0,.str [],.own 3 ([r1.1].length),.own 5 ((eS.2.1++[gV.2]).length),.own 4 eS.2.2.length],cA.row [r1.1],.dead,lJ.row (eS.2.1++[gV.2]),.row 33 1 (eS.2.2.length+([jU.1].length)) fun i j=>bif Nat.blt i eS.2.2.length then jA.at eS.2.2 i j else (jA.at [jU.1]) (i - eS.2.2.length) j],[],1⟩) 8 [0,1,4,5,63] [0,1,2,3,4,5,7] (by kernel_rfl) (by kernel_rfl) ?_
         refine bQ.conv (Conv.ob 6 (jA.row (eS.2.2++[jU.1])) (El.cH jA eS.2.2 [jU.1] rfl rfl)) ?_
         refine bQ.conv (Conv.sl 63 (.c (.own 6 ((eS.2.2++[jU.1]).length))) (eG.c (eD.own (by first | (simp;done) | (simp;omega) | omega)))) ?_
         refine bQ.v0 (fuel':=1) [9] [0,1,4,5,63,64] [0,1,2,3,4,5,6] ?_
         refine bQ.cP (fuel':=0) 10 (by kernel_rfl) ?_
         refine cE.w0 10 [0,1,4,5] [0,1,2,3,5,6] ?_
         refine bQ.done (by kernel_rfl) ?_
         refine Ref.ck ⟨eW a1,[cL.o jU.2,oJ,.cells [iC 6,iC 0,.str [],.own 3 ([r1.1].length),.own 4 ((eS.2.1++[gV.2]).length),.own 5 ((eS.2.2++[jU.1]).length)],cA.row [r1.1],lJ.row (eS.2.1++[gV.2]),jA.row (eS.2.2++[jU.1])],[],1⟩ [0,1,4,5] [0,1,2,3,4,5] ?_
         exact hk jU)) fun aAx =>
      .nil [0,1,2,3,4,5] _) (
      .ret [0,1,2,3,4,5] _)) fun iG =>
    .esc [0,1,2,3,4,5] [(cd (bd Tryz.f186) [1,1,1,1,0]),(cd (bd Tryz.f186) [1,1,1,1,1])] ⟨eW a1,cL.o iG.1::oJ::.cells [iC 6,iC 0,.str [],.own 3 ([r1.1].length),.own 4 iG.2.1.length,.own 5 iG.2.2.length]::cA.row [r1.1]::qV iG,[],1⟩ (by
     refine Ref.eR 14 (by kernel_rfl) (by kernel_rfl) ?_
     refine dV.fE (cR:=⟨j5++[sP 65 2 0 5,sP 67 0 0 0,sI 68 a1],cL.o iG.1::oJ::.cells [iC 6,iC 0,.str [],.own 3 ([r1.1].length),.own 4 iG.2.1.length,.own 5 iG.2.2.length]::cA.row [r1.1]::qV iG,[],1⟩) (fuel':=6) [0,2,3] [0,4,5,65,67,68] [0,1,2,3,4,5] rfl (by kernel_rfl) (by kernel_rfl) ?_
     refine dV.rG [4,6,8] ?_
     refine bQ.iD (fun (jD:(List cJ) × cB)=>⟨j5,[cL.o jD.2,oJ,.cells [iC 6,iC 0,.str [],.own 3 ([r1.1].length),.own 4 iG.2.1.length,.own 5 ((iG.2.2++[jD.1]).length)],cA.row [r1.1],lJ.row iG.2.1,jA.row (iG.2.2++[jD.1])],[],1⟩) (fun (jD:(List cJ) × cB)=>((bU (fJ K jD.2 mP)).bind (fun aKN=>(some (.inl ((⟨6,0,([]:Bytes),[r1.1],iG.2.1,(iG.2.2++[jD.1])⟩:cJ),aKN)))))) (fun jD=>?_) (fun hk=>?_)
     ·
      exact Ref.pt (
       .call [0] (dJ _ _ _) fun aKN =>
       .fz 16 0 3 <|
       .fz 16 0 4 <|
       .fz 16 0 5 <|
       .ok 16 0 1 5 (x:=jA.tree (iG.2.2++[jD.1])) (y:=nE (iG.2.2++[jD.1])) (xE _) <|
       .ret [0,1] _)
     ·
      refine bQ.iT (fuel':=5) [[],[(1,66)]] [(1,66)] [0,4,5,65,67,68] [0,1,2,3,4,5] ⟨j5++[sP 65 2 0 5,(66,.c (.own 5 iG.2.2.length)),sP 67 0 0 0,sI 68 a1],cL.o iG.1::oJ::.cells [iC 6,iC 0,.str [],.own 3 ([r1.1].length),.own 4 iG.2.1.length,.own 5 iG.2.2.length]::cA.row [r1.1]::qV iG,[],1⟩ ?_
      refine cQ.cP (fuel':=4) 4 ?_
      refine dP.cF (t:=69) 4 [0] rfl (by kernel_rfl) (aS7 iG.1 a1 mP) (fun jD=>?_)
      refine cQ.cP (fuel':=3) 5 ?_
      refine dP.kC (cR:=⟨j5++[sP 65 2 0 5,(66,.c (.own 5 iG.2.2.length)),(70,.c (.own 6 1))],cL.o jD.2::oJ::.cells [iC 6,iC 0,.str [],.own 3 ([r1.1].length),.own 4 iG.2.1.length,.own 5 iG.2.2.length]::cA.row [r1.1]::(qV iG++[.row 33 1 1 (hG [[dL.tree jD.1]])]),[],1⟩) 5 [0,4,5,65,66,70] [0,1,2,3,4,5,6] (by kernel_rfl) (by kernel_rfl) ?_
      refine cQ.conv (jR.obj 6 (jA.row [jD.1]) (El.bZ jA [jD.1] rfl (by kernel_rfl)) (by kernel_rfl)) ?_
      refine cQ.conv (jR.slot 70 (.c (.own 6 ([jD.1].length))) (eG.c (eD.own (by first | (simp;done) | (simp;omega) | omega))) (by kernel_rfl)) ?_
      refine cQ.close ?_
      refine bQ.cP (fuel':=2) 6 (by kernel_rfl) ?_
      refine cE.writes (vs:=[room ((iG.2.2.length+([jD.1].length)) * 24)]) (cR:=⟨j5++[(71,.c (.own 6 (iG.2.2.length+([jD.1].length))))],[cL.o jD.2,oJ,.cells [iC 6,iC 0,.str [],.own 3 ([r1.1].length),.own 4 iG.2.1.length,.own 5 iG.2.2.length],cA.row [r1.1],lJ.row iG.2.1,.dead,.row 33 1 (iG.2.2.length+([jD.1].length)) fun i j=>bif Nat.blt i iG.2.2.length then jA.at iG.2.2 i j else (jA.at [jD.1]) (i - iG.2.2.length) j],[],1⟩) 6 [0,4,5,71] [0,1,2,3,4,5,7] (by kernel_rfl) (by kernel_rfl) ?_
      refine bQ.conv (Conv.ob 6 (jA.row (iG.2.2++[jD.1])) (El.cH jA iG.2.2 [jD.1] rfl rfl)) ?_
      refine bQ.conv (Conv.sl 71 (.c (.own 6 ((iG.2.2++[jD.1]).length))) (eG.c (eD.own (by first | (simp;done) | (simp;omega) | omega)))) ?_
      refine bQ.v0 (fuel':=1) [7] [0,4,5,71,72] [0,1,2,3,4,5,6] ?_
      refine bQ.cP (fuel':=0) 8 (by kernel_rfl) ?_
      refine cE.w0 8 [0,4,5] [0,1,2,3,4,6] ?_
      refine bQ.done (by kernel_rfl) ?_
      refine Ref.ck ⟨j5,[cL.o jD.2,oJ,.cells [iC 6,iC 0,.str [],.own 3 ([r1.1].length),.own 4 iG.2.1.length,.own 5 ((iG.2.2++[jD.1]).length)],cA.row [r1.1],lJ.row iG.2.1,jA.row (iG.2.2++[jD.1])],[],1⟩ [0,4,5] [0,1,2,3,4,5] ?_
      exact hk jD))
  ·
   intro a0 a1 a2
   refine bR.it Tryz.f212 (fun r=>⟨[(6,.c (dL.tree r.1))],[cL.o r.2],[],1⟩) ?_
   rw[aJi]
   exact Ref.pt (
    .call [0] (dO _ _ _) fun r1 =>
    .ite _ (
     .sl 2 0 6 (x:=.c (.nil)) (y:=(.c (dL.tree []))) (eG.c (El.cO dL)) <|
     .ret [0] _) (
     .ob 3 2 1 (x:=.row 9 1 1 (hG [[.str a2]])) (y:=(E9.row [a2])) (El.bZ E9 [a2] rfl (by kernel_rfl)) <|
     .sl 3 2 14 (x:=.c (.own 1 1)) (y:=(.c (.own 1 ([a2].length)))) (eG.c (eD.own (by first | (simp;done) | (simp;omega) | omega))) <|
     .fz 3 2 1 <|
     .call [0] (aHw _ _ _) fun r2 =>
     .ret [0] _))
theorem aKO (K:Nat) (a0:cB) (a1:Int) (a2:(List Bytes)):bR Tryz.prog 114 [.c (.ptr 0 0 0),.c (.val (.int .i64 a1)),.c (E9.tree a2)] [cL.o a0] (bU (xR K a0 a1 a2)) (fun r=>.c (dL.tree r.1)) (fun r=>[cL.o r.2]):=(aRJ K).1 a0 a1 a2
def aOY (K:Nat) (a0:cB):Option ((jX × cB) ⊕ (jX × cB)) :=
 ((bU (gE K a0 ([65,66,83,84,82,65,67,84]:Bytes))).bind (fun r1=>((bU (gE K r1.2 ([70,73,78,65,76]:Bytes))).bind (fun r2=>((bU (pK K r2.2)).bind (fun r3=>((bU (gE K r3.2 ([69,88,84,69,78,68,83]:Bytes))).bind (fun r4=>(bM (if r4.1=true then ((bU (pK K r4.2)).bind (fun r7=>(some (.inr (r7.2,r7.1))))) else (some (.inr (r4.2,([]:Bytes))))) (fun (u6:cB × Bytes)=>((bU (gE K u6.1 ([73,77,80,76,69,77,69,78,84,83]:Bytes))).bind (fun r8=>(bM (if r8.1=true then (bM (bL ((iter K (fun (kQ:cB × (List Bytes))=>(if ((kQ.1.iN:Int) == 0)=true then (bM (bL ((cK true (bU (vD K kQ.1 1)) default).bind (fun aXO=>(bM (if aXO=true then ((bU (F74 K kQ.1 (Int.ofNat kQ.2.length) 4)).bind (fun aXP=>(some (.inr (aXP))))) else (some (.inr (kQ.1)))) (fun (aAq:cB)=>((bU (pK K aAq)).bind (fun mK=>(bW [room ((kQ.2.length+([mK.1].length)) * 16)] ((bU (gE K mK.2 ([44]:Bytes))).bind (fun aHx=>(if (!aHx.1)=true then (some (.inl (Sum.inr (Sum.inl (aHx.2,(kQ.2++[mK.1])))))) else (some (.inr (aHx.2,(kQ.2++[mK.1]))))))))))))))) (fun (aMo:cB × (List Bytes))=>(some (.inr (aMo.1,aMo.2))))) else (some (.inl (Sum.inl (kQ.1,kQ.2)))))) (r8.2,[])).map .inl)) (fun (aMp:cB × (List Bytes))=>(some (.inr (aMp.1,aMp.2))))) else (some (.inr (r8.2,[])))) (fun (aCg:cB × (List Bytes))=>((bU (fJ K aCg.1 ([59]:Bytes))).bind (fun aXQ=>((bU (aI8 K aXQ)).bind (fun aMq=>(bM (bL ((iter K (fun (s5:cB × (List iI))=>((cK true (bU (F73 K s5.1 ([77,69,84,72,79,68]:Bytes))) default).bind (fun aXR=>(if aXR=true then (bM (bL ((bU (F74 K s5.1 (Int.ofNat s5.2.length) 6)).bind (fun aXS=>((bU (fJ K aXS ([77,69,84,72,79,68]:Bytes))).bind (fun aXT=>((bU (gE K aXT ([79,86,69,82,82,73,68,69]:Bytes))).bind (fun aAy=>((bU (gE K aAy.2 ([65,66,83,84,82,65,67,84]:Bytes))).bind (fun aAz=>((bU (gE K aAz.2 ([70,73,78,65,76]:Bytes))).bind (fun aAA=>((bU (pK K aAA.2)).bind (fun aAB=>((bU (aMf K aAB.2)).bind (fun aAC=>((bU (aMg K aAC.2)).bind (fun wS=>((bU (fJ K wS.2 ([59]:Bytes))).bind (fun aXU=>((bU (aI8 K aXU)).bind (fun aAD=>((bU (xR K aAD.2 1 [])).bind (fun aAE=>((bU (fJ K aAE.2 ([69,78,68,95,77,69,84,72,79,68]:Bytes))).bind (fun aF1=>(bW [room ((s5.2.length+([(⟨aAB.1,aAy.1,aAz.1,aAA.1,aAC.1,wS.1,aAD.1,aAE.1⟩:iI)].length)) * 136)] (some (.inr (aF1,(s5.2++[(⟨aAB.1,aAy.1,aAz.1,aAA.1,aAC.1,wS.1,aAD.1,aAE.1⟩:iI)])))))))))))))))))))))))))))))) (fun (aJj:cB × (List iI))=>(some (.inr (aJj.1,aJj.2))))) else (some (.inl (Sum.inl (s5.1,s5.2)))))))) (aMq.2,[])).map .inl)) (fun (aJk:cB × (List iI))=>((bU (fJ K aJk.1 ([69,78,68,95,67,76,65,83,83]:Bytes))).bind (fun aXV=>(some (.inl ((⟨2,r3.1,u6.2,aCg.2,r1.1,r2.1,aMq.1,aJk.2,[],0,0⟩:jX),aXV)))))))))))))))))))))))))
abbrev uO (v0:Bytes × cB) (v1:cB × Bytes) (v2:cB × (List Bytes)) (v3:Bool × cB) (v4:Bool × cB):List Go.Dl.Obj:=[oX3,.cells [iC 2,.str v0.1,.str v1.2,.own 3 v2.2.length,bC v3.1,bC v4.1,.nil,.nil,.nil,iC 0,iC 0],E9.row v2.2]
abbrev l3:List (Nat × D):=[sP 0 0 0 0,sP 2 1 0 0,sP 3 2 0 0]
theorem aRK (K:Nat) (a0:cB):bR Tryz.prog 110 [.c (.ptr 0 0 0)] [cL.o a0] (bU (aOY K a0)) (fun r=>.agg (iY.cs r.1)) (fun r=>[cL.o r.2,iY.o r.1]):=by
 refine bR.it Tryz.f110 (fun r=>⟨[sP 2 1 0 0],[cL.o r.2,iY.o r.1],[],1⟩) ?_
 unfold aOY
 exact Ref.pt (
  .call [0] (dO _ _ _) fun r1 =>
  .call [0] (dO _ _ _) fun r2 =>
  .call [0] (iO _ _) fun r3 =>
  .call [0] (dO _ _ _) fun r4 =>
  .jn (fun u6=>⟨l3,[cL.o u6.1,oX3,.cells [iC 2,.str r3.1,.str u6.2,.nil,bC r1.1,bC r2.1,.nil,.nil,.nil,iC 0,iC 0]],[],1⟩) (
   .ite _ (
    .call [0] (iO _ _) fun r7 =>
    .nil [0,1,2] _) (
    .nil [0,1,2] _)) fun u6 =>
  .call [0] (dO _ _ _) fun r8 =>
  .jn (fun aCg=>⟨l3,cL.o aCg.1::uO r3 u6 aCg r1 r2,[],1⟩) (
   .ite _ (
    .bk 0 (fun aMp=>⟨l3,cL.o aMp.1::uO r3 u6 aMp r1 r2,[],1⟩) (
     .adc 7 0 2 3 E9.ty E9.w (E9.at []) <|
     .lp [0,1,2,3] (fun kQ=>⟨l3,cL.o kQ.1::uO r3 u6 kQ r1 r2,[],1⟩) fun kQ =>
     .ite _ (
      .bk 1 (fun aMo=>⟨l3,cL.o aMo.1::uO r3 u6 aMo r1 r2,[],1⟩) (
       .look (default:Bool) _ [0] (lQ K kQ.1 1) (fun _=>rfl) fun aXO =>
       .jn (fun aAq=>⟨l3,cL.o aAq::uO r3 u6 kQ r1 r2,[],1⟩) (
        .ite _ (
         .call [0] (qR _ _ _ _) fun aXP =>
         .nil [0,1,2,3] _) (
         .nil [0,1,2,3] _)) fun aAq =>
       .esc [0,1,2,3] [(cd (bd Tryz.f110) [1,1,1,1,1,1,0,1,0,0,0,1,0,1,0]),(cd (bd Tryz.f110) [1,1,1,1,1,1,0,1,0,0,0,1,0,1,1])] ⟨l3,cL.o aAq::uO r3 u6 kQ r1 r2,[],1⟩ (by
        refine Ref.eR 11 (by kernel_rfl) (by kernel_rfl) ?_
        refine dV.fE (cR:=⟨l3++[sP 34 2 0 3,sP 36 0 0 0],cL.o aAq::uO r3 u6 kQ r1 r2,[],1⟩) (fuel':=6) [0,2] [0,2,3,34,36] [0,1,2,3] rfl (by kernel_rfl) (by kernel_rfl) ?_
        refine dV.rG [3,5,7] ?_
        refine bQ.iD (fun (mK:Bytes × cB)=>⟨l3,[cL.o mK.2,oX3,.cells [iC 2,.str r3.1,.str u6.2,.own 3 ((kQ.2++[mK.1]).length),bC r1.1,bC r2.1,.nil,.nil,.nil,iC 0,iC 0],E9.row (kQ.2++[mK.1])],[],1⟩) (fun (mK:Bytes × cB)=>((bU (gE K mK.2 ([44]:Bytes))).bind (fun aHx=>(if (!aHx.1)=true then (some (.inl (Sum.inr (Sum.inl (aHx.2,(kQ.2++[mK.1])))))) else (some (.inr (aHx.2,(kQ.2++[mK.1])))))))) (fun mK=>?_) (fun hk=>?_)
        ·
         exact Ref.pt (
          .call [0] (dO _ _ _) fun aHx =>
          .ite _ (
           .ret [0,1,2,3] _) (
           .nil [0,1,2,3] _))
        ·
         refine bQ.iT (fuel':=5) [[],[(1,35)]] [(1,35)] [0,2,3,34,36] [0,1,2,3] ⟨l3++[sP 34 2 0 3,(35,.c (.own 3 kQ.2.length)),sP 36 0 0 0],cL.o aAq::uO r3 u6 kQ r1 r2,[],1⟩ ?_
         refine cQ.cP (fuel':=4) 3 ?_
         refine dP.cF (t:=37) 3 [0] rfl (by kernel_rfl) (iO K aAq) (fun mK=>?_)
         refine cQ.cP (fuel':=3) 4 ?_
         refine dP.kC (cR:=⟨l3++[sP 34 2 0 3,(35,.c (.own 3 kQ.2.length)),(38,.c (.own 4 1))],cL.o mK.2::(uO r3 u6 kQ r1 r2++[.row 9 1 1 (hG [[.str mK.1]])]),[],1⟩) 4 [0,2,3,34,35,38] [0,1,2,3,4] (by kernel_rfl) (by kernel_rfl) ?_
         refine cQ.conv (jR.obj 4 (E9.row [mK.1]) (El.bZ E9 [mK.1] rfl (by kernel_rfl)) (by kernel_rfl)) ?_
         refine cQ.conv (jR.slot 38 (.c (.own 4 ([mK.1].length))) (eG.c (eD.own (by first | (simp;done) | (simp;omega) | omega))) (by kernel_rfl)) ?_
         refine cQ.close ?_
         refine bQ.cP (fuel':=2) 5 (by kernel_rfl) ?_
         refine cE.writes (vs:=[room ((kQ.2.length+([mK.1].length)) * 16)]) (cR:=⟨l3++[(39,.c (.own 4 (kQ.2.length+([mK.1].length))))],[cL.o mK.2,oX3,.cells [iC 2,.str r3.1,.str u6.2,.own 3 kQ.2.length,bC r1.1,bC r2.1,.nil,.nil,.nil,iC 0,iC 0],.dead,.row 9 1 (kQ.2.length+([mK.1].length)) fun i j=>bif Nat.blt i kQ.2.length then E9.at kQ.2 i j else (E9.at [mK.1]) (i - kQ.2.length) j],[],1⟩) 5 [0,2,3,39] [0,1,2,3,5] (by kernel_rfl) (by kernel_rfl) ?_
         refine bQ.conv (Conv.ob 4 (E9.row (kQ.2++[mK.1])) (El.cH E9 kQ.2 [mK.1] rfl rfl)) ?_
         refine bQ.conv (Conv.sl 39 (.c (.own 4 ((kQ.2++[mK.1]).length))) (eG.c (eD.own (by first | (simp;done) | (simp;omega) | omega)))) ?_
         refine bQ.v0 (fuel':=1) [6] [0,2,3,39,40] [0,1,2,3,4] ?_
         refine bQ.cP (fuel':=0) 7 (by kernel_rfl) ?_
         refine cE.w0 7 [0,2,3] [0,1,2,4] ?_
         refine bQ.done (by kernel_rfl) ?_
         refine Ref.ck ⟨l3,[cL.o mK.2,oX3,.cells [iC 2,.str r3.1,.str u6.2,.own 3 ((kQ.2++[mK.1]).length),bC r1.1,bC r2.1,.nil,.nil,.nil,iC 0,iC 0],E9.row (kQ.2++[mK.1])],[],1⟩ [0,2,3] [0,1,2,3] ?_
         exact hk mK)) fun aMo =>
      .nil [0,1,2,3] _) (
      .ret [0,1,2,3] _)) fun aMp =>
    .nil [0,1,2,3] _) (
    .adc 7 0 2 3 E9.ty E9.w (E9.at []) <|
    .nil [0,1,2,3] _)) fun aCg =>
  .call [0] (dJ _ _ _) fun aXQ =>
  .call [0] (aF3 _ _) fun aMq =>
  .bk 2 (fun aJk=>⟨l3,[cL.o aJk.1,oX3,.cells [iC 2,.str r3.1,.str u6.2,.own 3 aCg.2.length,bC r1.1,bC r2.1,eU.tree aMq.1,.own 4 aJk.2.length,.nil,iC 0,iC 0],E9.row aCg.2,kT.row aJk.2],[],1⟩) (
   .adc 14 0 2 7 kT.ty kT.w (kT.at []) <|
   .lp [0,1,2,3,4] (fun s5=>⟨l3,[cL.o s5.1,oX3,.cells [iC 2,.str r3.1,.str u6.2,.own 3 aCg.2.length,bC r1.1,bC r2.1,eU.tree aMq.1,.own 4 s5.2.length,.nil,iC 0,iC 0],E9.row aCg.2,kT.row s5.2],[],1⟩) fun s5 =>
   .look (default:Bool) _ [0] (lG K s5.1 ([77,69,84,72,79,68]:Bytes)) (fun _=>rfl) fun aXR =>
   .ite _ (
    .bk 3 (fun aJj=>⟨l3,[cL.o aJj.1,oX3,.cells [iC 2,.str r3.1,.str u6.2,.own 3 aCg.2.length,bC r1.1,bC r2.1,eU.tree aMq.1,.own 4 aJj.2.length,.nil,iC 0,iC 0],E9.row aCg.2,kT.row aJj.2],[],1⟩) (
     .call [0] (qR _ _ _ _) fun aXS =>
     .call [0] (dJ _ _ _) fun aXT =>
     .call [0] (dO _ _ _) fun aAy =>
     .call [0] (dO _ _ _) fun aAz =>
     .call [0] (dO _ _ _) fun aAA =>
     .call [0] (iO _ _) fun aAB =>
     .call [0] (aKC _ _) fun aAC =>
     .call [0] (aKD _ _) fun wS =>
     .call [0] (dJ _ _ _) fun aXU =>
     .call [0] (aF3 _ _) fun aAD =>
     .call [0] (bR.le (aKO _ _ _ _) (hU.cons (eG.refl _) (hU.cons (eG.refl _) (hU.cons (eG.c (El.cO _)) hU.nil)))) fun aAE =>
     .call [0] (dJ _ _ _) fun aF1 =>
     .ob 29 3 7 (x:=.row 39 11 1 (hG [[.str aAB.1,bC aAy.1,bC aAz.1,bC aAA.1,eU.tree aAC.1,iC wS.1.bP,iC wS.1.fLo,iC wS.1.vG,.str wS.1.cG,eU.tree aAD.1,dL.tree aAE.1]])) (y:=(kT.row [(⟨aAB.1,aAy.1,aAz.1,aAA.1,aAC.1,wS.1,aAD.1,aAE.1⟩:iI)])) (El.bZ kT [(⟨aAB.1,aAy.1,aAz.1,aAA.1,aAC.1,wS.1,aAD.1,aAE.1⟩:iI)] rfl (by kernel_rfl)) <|
     .sl 29 3 90 (x:=.c (.own 7 1)) (y:=(.c (.own 7 ([(⟨aAB.1,aAy.1,aAz.1,aAA.1,aAC.1,wS.1,aAD.1,aAE.1⟩:iI)].length)))) (eG.c (eD.own (by first | (simp;done) | (simp;omega) | omega))) <|
     .ck _ <|
     .ob 29 2 8 (x:=.row 39 11 (s5.2.length+([(⟨aAB.1,aAy.1,aAz.1,aAA.1,aAC.1,wS.1,aAD.1,aAE.1⟩:iI)].length)) fun i j=>bif Nat.blt i s5.2.length then kT.at s5.2 i j else (kT.at [(⟨aAB.1,aAy.1,aAz.1,aAA.1,aAC.1,wS.1,aAD.1,aAE.1⟩:iI)]) (i - s5.2.length) j) (y:=(kT.row (s5.2++[(⟨aAB.1,aAy.1,aAz.1,aAA.1,aAC.1,wS.1,aAD.1,aAE.1⟩:iI)]))) (El.cH kT s5.2 [(⟨aAB.1,aAy.1,aAz.1,aAA.1,aAC.1,wS.1,aAD.1,aAE.1⟩:iI)] rfl rfl) <|
     .sl 29 2 91 (x:=.c (.own 8 (s5.2.length+([(⟨aAB.1,aAy.1,aAz.1,aAA.1,aAC.1,wS.1,aAD.1,aAE.1⟩:iI)].length)))) (y:=(.c (.own 8 ((s5.2++[(⟨aAB.1,aAy.1,aAz.1,aAA.1,aAC.1,wS.1,aAD.1,aAE.1⟩:iI)]).length)))) (eG.c (eD.own (by first | (simp;done) | (simp;omega) | omega))) <|
     .nil [0,1,2,3,8] _) fun aJj =>
    .nil [0,1,2,3,4] _) (
    .ret [0,1,2,3,4] _)) fun aJk =>
  .call [0] (dJ _ _ _) fun aXV =>
  .fz 31 0 3 <|
  .fz 31 0 4 <|
  .ok 31 0 1 8 (x:=.nil) (y:=dL.tree []) (El.cO dL) <|
  .ret [0,1] _)
def F76 (K:Nat) (a0:cB):Option ((jX × cB) ⊕ (jX × cB)) :=
 (bM (bL ((bU (gE K a0 ([73,78,84,69,82,70,65,67,69]:Bytes))).bind (fun qD=>(if qD.1=true then ((bU (aOS K qD.2)).bind (fun r25=>(some (.inl (Sum.inr (r25.1,r25.2)))))) else ((bU (gE K qD.2 ([67,76,65,83,83]:Bytes))).bind (fun r26=>(if r26.1=true then ((bU (aOY K r26.2)).bind (fun r27=>(some (.inl (Sum.inr (r27.1,r27.2)))))) else ((bU (gE K r26.2 ([80,82,79,71,82,65,77]:Bytes))).bind (fun r28=>(if r28.1=true then ((bU (pK K r28.2)).bind (fun r29=>((bU (fJ K r29.2 ([59]:Bytes))).bind (fun r30=>((bU (aI8 K r30)).bind (fun xC=>((bU (xR K xC.2 1 [])).bind (fun r32=>((bU (fJ K r32.2 ([69,78,68,95,80,82,79,71,82,65,77]:Bytes))).bind (fun xD=>(some (.inl (Sum.inr ((⟨3,r29.1,([]:Bytes),[],false,false,xC.1,[],r32.1,0,0⟩:jX),xD)))))))))))))) else ((bU (gE K r28.2 ([84,65,83,75]:Bytes))).bind (fun r34=>(if r34.1=true then ((bU (pK K r34.2)).bind (fun r35=>((bU (fJ K r35.2 ([40]:Bytes))).bind (fun r36=>((bU (fJ K r36 ([73,78,84,69,82,86,65,76]:Bytes))).bind (fun r37=>((bU (aDW K r37)).bind (fun r38=>((bU (fJ K r38.2 ([44]:Bytes))).bind (fun r39=>((bU (fJ K r39 ([80,82,73,79,82,73,84,89]:Bytes))).bind (fun mS=>((bU (aDW K mS)).bind (fun r41=>((bU (fJ K r41.2 ([41]:Bytes))).bind (fun r42=>((bU (fJ K r42 ([58]:Bytes))).bind (fun qO=>((bU (pK K qO)).bind (fun r44=>((bU (fJ K r44.2 ([59]:Bytes))).bind (fun r45=>(some (.inl (Sum.inr ((⟨4,r35.1,r44.1,[],false,false,[],[],[],r38.1,r41.1⟩:jX),r45)))))))))))))))))))))))))) else (some (.inr (r34.2)))))))))))))))) (fun (kD:cB)=>((bU (aAu K kD 3)).bind (fun r46=>(some (.inl ((⟨0,([]:Bytes),([]:Bytes),[],false,false,[],[],[],0,0⟩:jX),r46)))))))
theorem aUV (K:Nat) (a0:cB):bR Tryz.prog 76 [.c (.ptr 0 0 0)] [cL.o a0] (bU (F76 K a0)) (fun r=>.agg (iY.cs r.1)) (fun r=>[cL.o r.2,iY.o r.1]):=by
 refine bR.it Tryz.f76 (fun r=>⟨[sP 2 1 0 0],[cL.o r.2,iY.o r.1],[],1⟩) ?_
 unfold F76
 exact Ref.pt (
  .bk 0 (fun kD=>⟨[sP 0 0 0 0,sP 2 1 0 0],[cL.o kD,oX3],[],1⟩) (
   .call [0] (dO _ _ _) fun qD =>
   .ite _ (
    .call [0] (aRy _ _) fun r25 =>
    .ret [0,1] _) (
    .call [0] (dO _ _ _) fun r26 =>
    .ite _ (
     .call [0] (aRK _ _) fun r27 =>
     .ret [0,1] _) (
     .call [0] (dO _ _ _) fun r28 =>
     .ite _ (
      .call [0] (iO _ _) fun r29 =>
      .call [0] (dJ _ _ _) fun r30 =>
      .call [0] (aF3 _ _) fun xC =>
      .call [0] (bR.le (aKO _ _ _ _) (hU.cons (eG.refl _) (hU.cons (eG.refl _) (hU.cons (eG.c (El.cO _)) hU.nil)))) fun r32 =>
      .call [0] (dJ _ _ _) fun xD =>
      .ok 11 0 1 3 (x:=.nil) (y:=E9.tree []) (El.cO E9) <|
      .ok 11 0 1 7 (x:=.nil) (y:=kT.tree []) (El.cO kT) <|
      .ret [0,1] _) (
      .call [0] (dO _ _ _) fun r34 =>
      .ite _ (
       .call [0] (iO _ _) fun r35 =>
       .call [0] (dJ _ _ _) fun r36 =>
       .call [0] (dJ _ _ _) fun r37 =>
       .call [0] (uK _ _) fun r38 =>
       .call [0] (dJ _ _ _) fun r39 =>
       .call [0] (dJ _ _ _) fun mS =>
       .call [0] (uK _ _) fun r41 =>
       .call [0] (dJ _ _ _) fun r42 =>
       .call [0] (dJ _ _ _) fun qO =>
       .call [0] (iO _ _) fun r44 =>
       .call [0] (dJ _ _ _) fun r45 =>
       .ok 24 0 1 3 (x:=.nil) (y:=E9.tree []) (El.cO E9) <|
       .ok 24 0 1 6 (x:=.nil) (y:=eU.tree []) (El.cO eU) <|
       .ok 24 0 1 7 (x:=.nil) (y:=kT.tree []) (El.cO kT) <|
       .ok 24 0 1 8 (x:=.nil) (y:=dL.tree []) (El.cO dL) <|
       .ret [0,1] _) (
       .nil [0,1] _))))) fun kD =>
  .call [0] (oD _ _ _) fun r46 =>
  .ok 26 0 1 3 (x:=.nil) (y:=E9.tree []) (El.cO E9) <|
  .ok 26 0 1 6 (x:=.nil) (y:=eU.tree []) (El.cO eU) <|
  .ok 26 0 1 7 (x:=.nil) (y:=kT.tree []) (El.cO kT) <|
  .ok 26 0 1 8 (x:=.nil) (y:=dL.tree []) (El.cO dL) <|
  .ret [0,1] _)
end Go.Proofs.YtdbfbedholdjaaaGreat
