/- No conditions. -/
import Derived.Test.YtdbfbedholdjaaaGreatLA
import Derived.Test.YtdbfbedholdjaaaGreatProg
set_option linter.unusedVariables false
set_option linter.unusedSimpArgs false
set_option linter.unusedSectionVars false
namespace Go.Proofs.YtdbfbedholdjaaaGreat
open Go Go.Proofs Go.Dl
variable [eC]
set_option maxRecDepth 100000
set_option maxHeartbeats 4000000
def aL3 (K:Nat) (a0:dD) (a1:dX) (a2:cM):Option ((Int × Int) ⊕ (Int × Int)) :=
 ((bU (aDo K a0 a1.dA)).bind (fun r1=>(bM (bL (if ((a2.fN:Int) == 0)=true then ((bU (aIN K a0 a1 a2.cG)).bind (fun jZ=>(if (!jZ.2)=true then (some (.inl (Sum.inr (0,13)))) else (bO (((jZ.1.cI.bP:Int) != 6) && (((jZ.1.cI.bP:Int) != 5) || (jZ.1.cI.cG == ([]:Bytes)))) (fun (x11:Bool)=>(if x11=true then (some (.inl (Sum.inr (0,14)))) else ((bU (aIP K a0 jZ.1.cI.cG)).bind (fun r12=>(if (!r12)=true then (some (.inl (Sum.inr (0,13)))) else ((bU (F61 K a0 jZ.1.cI.cG)).bind (fun r13=>(some (.inl (Sum.inr (r13,0))))))))))))))) else (if ((a2.fN:Int) == 1)=true then ((bU (aIL K a0 a1)).bind (fun r14=>(if (!r14)=true then (some (.inl (Sum.inr (0,15)))) else (some (.inl (Sum.inr (a1.dA,0))))))) else (if ((a2.fN:Int) == 2)=true then ((bU (aIL K a0 a1)).bind (fun r15=>(bO ((!r15) || (decide (((Int.ofNat r1.length):Int)<2))) (fun (x16:Bool)=>(if x16=true then (some (.inl (Sum.inr (0,15)))) else (bW [cS 1 r1.length] (some (.inl (Sum.inr ((r1.getD (1:Int).toNat default),0)))))))))) else (some (.inr ())))))) (fun (u9:Unit)=>(some (.inl (0,14)))))))
theorem aKk (K:Nat) (a0:dD) (a1:dX) (a2:cM):bR Tryz.prog 159 [.agg (dQ.cs a0),.agg (dS.cs a1),.agg (cA.cs a2)] [] (bU (aL3 K a0 a1 a2)) (fun r=>.iV [.c (.val (.int .i64 r.1)),.c (.val (.int .i64 r.2))]) (fun r=>[]):=by
 refine bR.it Tryz.f159 (fun r=>⟨[sI 6 r.1,sI 7 r.2],[],[],0⟩) ?_
 unfold aL3
 exact Ref.pt (
  .call [] (uB _ _ _) fun r1 =>
  .bk 0 (fun u9=>⟨[],[],[],0⟩) (
   .ite _ (
    .call [] (aFP _ _ _ _) fun jZ =>
    .ite _ (
     .ret [] _) (
     .lt _ fun x11 =>
     .ite _ (
      .ret [] _) (
      .call [] (aKd _ _ _) fun r12 =>
      .ite _ (
       .ret [] _) (
       .call [] (oZ _ _ _) fun r13 =>
       .ret [] _)))) (
    .ite _ (
     .call [] (aFO _ _ _) fun r14 =>
     .ite _ (
      .ret [] _) (
      .ret [] _)) (
     .ite _ (
      .call [] (aFO _ _ _) fun r15 =>
      .lt _ fun x16 =>
      .ite _ (
       .ret [] _) (
       .ck _ <|
       .ret [] _)) (
      .nil [] _)))) fun u9 =>
  .ret [] _)
mutual
def aFV:(K:Nat)→(dD)→(dX)→(cM)→Option ((fP × Int) ⊕ (fP × Int))
 | 0,_,_,_=>none
 | K+1,a0,a1,a2 =>
 ((bU (aL3 K a0 a1 a2)).bind (fun r1=>(if ((r1.2:Int) != 0)=true then (some (.inl ((⟨0,0,0,([]:Bytes)⟩:fP),r1.2))) else ((bU (aEF K a0 r1.1 a2.wE)).bind (fun r2=>(if (!r2.2)=true then (some (.inl ((⟨0,0,0,([]:Bytes)⟩:fP),15))) else ((bU (F63 K a0 r2.1)).bind (fun r3=>(if (((a2.fN:Int) == 2) && r3.eN)=true then (some (.inl ((⟨0,0,0,([]:Bytes)⟩:fP),15))) else ((bU (aEH K a0 a1 a2.gD)).bind (fun r4=>(if ((r4.2:Int) != 0)=true then (some (.inl ((⟨0,0,0,([]:Bytes)⟩:fP),r4.2))) else (bO (((Int.ofNat r4.1.length):Int) != (Int.ofNat r3.cV.length)) (fun (x5:Bool)=>(if x5=true then (some (.inl ((⟨0,0,0,([]:Bytes)⟩:fP),15))) else (bM (bL ((iter K (fun (u27:Int)=>(bO (decide ((u27:Int)<(Int.ofNat r4.1.length))) (fun (x33:Bool)=>(if x33=true then (bM (bL (bW [cS u27 r4.1.length] (bW [cS u27 r3.cV.length] ((cK true (bU (aFQ K a0 ((r3.cV.getD (u27:Int).toNat default).cI) (r4.1.getD (u27:Int).toNat default))) default).bind (fun r36=>(if (!r36)=true then (some (.inl (Sum.inr (Sum.inr ((⟨0,0,0,([]:Bytes)⟩:fP),15))))) else (some (.inr ())))))))) (fun (u35:Unit)=>(some (.inr ((IntKind.i64.wrap (u27+1))))))) else (some (.inl (Sum.inl ()))))))) (0)).map .inl)) (fun (nO:Unit)=>(some (.inl (r3.fH,0))))))))))))))))))))
def aEH:(K:Nat)→(dD)→(dX)→((List cM))→Option (((List fP) × Int) ⊕ ((List fP) × Int))
 | 0,_,_,_=>none
 | K+1,a0,a1,a2 =>
 (bM (bL ((iter K (fun (gX:(List fP) × Int)=>(bO (decide ((gX.2:Int)<(Int.ofNat a2.length))) (fun (x36:Bool)=>(if x36=true then (bM (bL (bW [cS gX.2 a2.length] ((bU (aCb K a0 a1 (a2.getD (gX.2:Int).toNat default))).bind (fun mS=>(if ((mS.2:Int) != 0)=true then (some (.inl (Sum.inr (Sum.inr ([],mS.2))))) else (bW [room ((gX.1.length+([mS.1].length)) * 40)] (some (.inr ((gX.1++[mS.1])))))))))) (fun (u39:(List fP))=>(some (.inr (u39,(IntKind.i64.wrap (gX.2+1))))))) else (some (.inl (Sum.inl (gX.1)))))))) ([],0)).map .inl)) (fun (nO:(List fP))=>(some (.inl (nO,0)))))
def aCb:(K:Nat)→(dD)→(dX)→(cM)→Option ((fP × Int) ⊕ (fP × Int))
 | 0,_,_,_=>none
 | K+1,a0,a1,a2 =>
 ((bU (aGT K a0 a1)).bind (fun r1=>(if (!r1)=true then (some (.inl ((⟨0,0,0,([]:Bytes)⟩:fP),22))) else (if ((a2.bP:Int) == 13)=true then ((bU (aFV K a0 a1 a2)).bind (fun r2=>(bO (((r2.2:Int) == 0) && ((r2.1.bP:Int) == 0)) (fun (x3:Bool)=>(if x3=true then (some (.inl ((⟨0,0,0,([]:Bytes)⟩:fP),14))) else (some (.inl (r2.1,r2.2)))))))) else ((bU (aNG K a2.bP)).bind (fun r4=>(bO ((decide ((r4:Int)<0)) || (((Int.ofNat a2.gD.length):Int) != r4)) (fun (x5:Bool)=>(if x5=true then (some (.inl ((⟨0,0,0,([]:Bytes)⟩:fP),14))) else ((bU (aIN K a0 a1 a2.cG)).bind (fun r6=>(bM (bL (if ((a2.bP:Int) == 1)=true then (some (.inl (Sum.inr ((⟨1,0,0,([]:Bytes)⟩:fP),0)))) else (bM (if ((a2.bP:Int) == 2)=true then (some (.inr (((a2.bP:Int) == 2)))) else (some (.inr (((a2.bP:Int) == 3))))) (fun (vA:Bool)=>(if vA=true then (some (.inl (Sum.inr ((⟨2,0,0,([]:Bytes)⟩:fP),0)))) else (if ((a2.bP:Int) == 4)=true then (some (.inl (Sum.inr ((⟨5,0,0,([]:Bytes)⟩:fP),0)))) else (bM (if ((a2.bP:Int) == 5)=true then (some (.inr (((a2.bP:Int) == 5)))) else (if ((a2.bP:Int) == 6)=true then (some (.inr (((a2.bP:Int) == 6)))) else (if ((a2.bP:Int) == 10)=true then (some (.inr (((a2.bP:Int) == 10)))) else (if ((a2.bP:Int) == 11)=true then (some (.inr (((a2.bP:Int) == 11)))) else (some (.inr (((a2.bP:Int) == 12)))))))) (fun (u13:Bool)=>(if u13=true then (if (!r6.2)=true then (some (.inl (Sum.inr ((⟨0,0,0,([]:Bytes)⟩:fP),13)))) else ((bU (aIR K a0 a1 a2 r6.1)).bind (fun r14=>(some (.inl (Sum.inr (r14.1,r14.2))))))) else (if ((a2.bP:Int) == 14)=true then ((bU (aIP K a0 a2.cG)).bind (fun r15=>(if (!r15)=true then (some (.inl (Sum.inr ((⟨0,0,0,([]:Bytes)⟩:fP),13)))) else (some (.inr ()))))) else (some (.inr ())))))))))))) (fun (u11:Unit)=>(bW [c9 a2.gD.length 0 r4] ((bU (aEH K a0 a1 ((a2.gD.drop (0:Int).toNat).take ((r4:Int).toNat - (0:Int).toNat)))).bind (fun mN=>(if ((mN.2:Int) != 0)=true then (some (.inl ((⟨0,0,0,([]:Bytes)⟩:fP),mN.2))) else (bM (bL (bW [!((a2.bP:Int) == 7) || cS 0 mN.1.length,!(((a2.bP:Int) == 8) && (!(((a2.bP:Int) == 7) && ((((mN.1.getD (0:Int).toNat default).bP):Int) == 1)))) || cS 0 mN.1.length] (bO ((((a2.bP:Int) == 7) && ((((mN.1.getD (0:Int).toNat default).bP):Int) == 1)) || (((a2.bP:Int) == 8) && ((((mN.1.getD (0:Int).toNat default).bP):Int) == 2))) (fun (x23:Bool)=>(if x23=true then (bW [cS 0 mN.1.length] (some (.inl (Sum.inr ((mN.1.getD (0:Int).toNat default),0))))) else (if ((a2.bP:Int) == 9)=true then (bW [cS 0 mN.1.length,cS 1 mN.1.length] ((bU (aLV K a2.fN (mN.1.getD (0:Int).toNat default) (mN.1.getD (1:Int).toNat default))).bind (fun qD=>(some (.inl (Sum.inr (qD.1,qD.2))))))) else (bW [!((a2.bP:Int) == 14) || cS 0 mN.1.length] (bO (((a2.bP:Int) == 14) && ((((mN.1.getD (0:Int).toNat default).bP):Int) == 5)) (fun (yV:Bool)=>(if yV=true then (some (.inl (Sum.inr ((⟨5,0,0,a2.cG⟩:fP),0)))) else (some (.inr ())))))))))))) (fun (dY:Unit)=>(some (.inl ((⟨0,0,0,([]:Bytes)⟩:fP),14))))))))))))))))))))))
def aIR:(K:Nat)→(dD)→(dX)→(cM)→(fG)→Option ((fP × Int) ⊕ (fP × Int))
 | 0,_,_,_,_=>none
 | K+1,a0,a1,a2,a3 =>
 (bM (bL (if ((a2.bP:Int) == 5)=true then (bM (bL (bM (if ((a3.cI.bP:Int) == 1)=true then (some (.inr (((a3.cI.bP:Int) == 1)))) else (some (.inr (((a3.cI.bP:Int) == 3))))) (fun (u9:Bool)=>(if u9=true then (some (.inl (Sum.inr (Sum.inr ((⟨1,0,0,([]:Bytes)⟩:fP),0))))) else (if ((a3.cI.bP:Int) == 2)=true then (some (.inl (Sum.inr (Sum.inr ((⟨2,0,0,([]:Bytes)⟩:fP),0))))) else (if ((a3.cI.bP:Int) == 5)=true then (some (.inl (Sum.inr (Sum.inr (a3.cI,0))))) else (some (.inr ())))))))) (fun (u8:Unit)=>(some (.inr ())))) else (if ((a2.bP:Int) == 6)=true then (if ((a3.cI.bP:Int) != 4)=true then (some (.inl (Sum.inr ((⟨0,0,0,([]:Bytes)⟩:fP),14)))) else (bW [cS 0 a2.gD.length] ((bU (aCb K a0 a1 (a2.gD.getD (0:Int).toNat default))).bind (fun jZ=>(if ((jZ.2:Int) != 0)=true then (some (.inl (Sum.inr ((⟨0,0,0,([]:Bytes)⟩:fP),jZ.2)))) else (if ((jZ.1.bP:Int) == 1)=true then (some (.inl (Sum.inr ((⟨1,0,0,([]:Bytes)⟩:fP),0)))) else (some (.inr ())))))))) else (if ((a2.bP:Int) == 10)=true then (if ((a3.cI.bP:Int) == 6)=true then (some (.inl (Sum.inr ((⟨5,0,0,a3.cI.cG⟩:fP),0)))) else (some (.inr ()))) else (if ((a2.bP:Int) == 11)=true then (if ((a3.cI.bP:Int) == 7)=true then (some (.inl (Sum.inr ((⟨2,0,0,([]:Bytes)⟩:fP),0)))) else (some (.inr ()))) else (if ((a2.bP:Int) == 12)=true then (if ((a3.cI.bP:Int) == 7)=true then (some (.inl (Sum.inr ((⟨1,0,0,([]:Bytes)⟩:fP),0)))) else (some (.inr ()))) else (some (.inr ())))))))) (fun (u6:Unit)=>(some (.inl ((⟨0,0,0,([]:Bytes)⟩:fP),14)))))
end
abbrev nX (v0:(List fP) × Int):List (Nat × D):=[sP 3 0 0 0,sP 4 1 0 0,(8,.c (.own 2 v0.1.length)),sI 9 v0.2]
abbrev j0 (v0:dD) (v1:dX):List Go.Dl.Obj:=[.cells (dQ.cs v0),.cells (dS.cs v1)]
abbrev aDv (v0:fP × Int):List (Nat × D):=[(18,.iV [.agg (gC.cs v0.1),.c (iC v0.2)]),(26,.agg (gC.cs v0.1))]
abbrev aDw (v0:fP × Int):List (Nat × D):=[(37,.iV [.agg (gC.cs v0.1),.c (iC v0.2)]),(45,.agg (gC.cs v0.1))]
abbrev aDx:List (Nat × D):=[sP 3 0 0 0,sP 4 1 0 0,sP 5 2 0 0,sP 6 3 0 0]
theorem aFW:∀ K:Nat,(∀ (a0:dD),∀ (a1:dX),∀ (a2:cM),bR Tryz.prog 220 [.agg (dQ.cs a0),.agg (dS.cs a1),.agg (cA.cs a2)] [] (bU (aFV K a0 a1 a2)) (fun r=>.iV [.agg (gC.cs r.1),.c (.val (.int .i64 r.2))]) (fun r=>[.cells (gC.cs r.1)]))∧(∀ (a0:dD),∀ (a1:dX),∀ (a2:(List cM)),bR Tryz.prog 224 [.agg (dQ.cs a0),.agg (dS.cs a1),.c (cA.tree a2)] [] (bU (aEH K a0 a1 a2)) (fun r=>.iV [.c (gC.tree r.1),.c (.val (.int .i64 r.2))]) (fun r=>[]))∧(∀ (a0:dD),∀ (a1:dX),∀ (a2:cM),bR Tryz.prog 226 [.agg (dQ.cs a0),.agg (dS.cs a1),.agg (cA.cs a2)] [] (bU (aCb K a0 a1 a2)) (fun r=>.iV [.agg (gC.cs r.1),.c (.val (.int .i64 r.2))]) (fun r=>[.cells (gC.cs r.1)]))∧(∀ (a0:dD),∀ (a1:dX),∀ (a2:cM),∀ (a3:fG),bR Tryz.prog 228 [.agg (dQ.cs a0),.agg (dS.cs a1),.agg (cA.cs a2),.agg (eU.cs a3)] [] (bU (aIR K a0 a1 a2 a3)) (fun r=>.iV [.agg (gC.cs r.1),.c (.val (.int .i64 r.2))]) (fun r=>[.cells (gC.cs r.1)])):=by
 intro K
 induction K with
 | zero=>exact ⟨fun a0 a1 a2=>bR.none (by rw[aFV];rfl),fun a0 a1 a2=>bR.none (by rw[aEH];rfl),fun a0 a1 a2=>bR.none (by rw[aCb];rfl),fun a0 a1 a2 a3=>bR.none (by rw[aIR];rfl)⟩
 | succ K ih =>
  obtain ⟨aWP,aST,aKl,aWQ⟩:=ih
  refine ⟨?_,?_,?_,?_⟩
  ·
   intro a0 a1 a2
   refine bR.it Tryz.f220 (fun r=>⟨[sP 6 0 0 0,sI 7 r.2],[.cells (gC.cs r.1)],[],0⟩) ?_
   rw[aFV]
   exact Ref.pt (
    .call [] (aKk _ _ _ _) fun r1 =>
    .ite _ (
     .ret [3] _) (
     .call [] (pU _ _ _ _) fun r2 =>
     .ite _ (
      .ret [3] _) (
      .call [] (aDp _ _ _) fun r3 =>
      .ite _ (
       .ret [3] _) (
       .sl 10 6 52 (x:=.c (tM a2.gD)) (y:=(.c (cA.tree a2.gD))) (eG.c (wF _)) <|
       .call [] (aST _ _ _) fun r4 =>
       .ite _ (
        .ret [3] _) (
        .lt _ fun x5 =>
        .ite _ (
         .ret [3] _) (
         .bk 0 (fun nO=>⟨[sP 6 0 0 0,sP 12 1 0 0],[qC,kT.o r3],[],0⟩) (
          .lp [0,3,7] (fun u27=>⟨[sP 3 0 0 0,sP 6 1 0 0,sP 12 2 0 0,(13,.c (gC.tree r4.1)),sI 14 u27],[.cells (dQ.cs a0),qC,kT.o r3],[],0⟩) fun u27 =>
          .lt _ fun x33 =>
          .ite _ (
           .bk 1 (fun u35=>⟨[sP 3 0 0 0,sP 6 1 0 0,sP 12 2 0 0,(13,.c (gC.tree r4.1)),sI 14 u27],[.cells (dQ.cs a0),qC,kT.o r3],[],0⟩) (
            .mT [1,3,7,8,9] _ <|
            .tx [] <|
            .mT [0,2,4,5,6,10] _ <|
            .gB 11 (default:Bool) _ [] (aFR K a0 ((gd r3.cV u27).cI) (gd r4.1 u27)) (fun _=>rfl) fun r36 =>
            .ex [12] <|
            .ite _ (
             .ret [1] _) (
             .nil [0,1,2] _)) fun u35 =>
           .nil [0,1,2] _) (
           .ret [1,2] _)) fun nO =>
         .ret [0] _))))))
  ·
   intro a0 a1 a2
   refine bR.it Tryz.f224 (fun r=>⟨[(6,.c (gC.tree r.1)),sI 7 r.2],[],[],0⟩) ?_
   rw[aEH]
   exact Ref.pt (
    .bk 0 (fun nO=>⟨[(8,.c (.own 0 nO.length))],[gC.row nO],[],0⟩) (
     .ad 2 0 8 gC.ty gC.w (gC.at []) <|
     .lp [0,1,2] (fun gX=>⟨(2,.c (cA.tree a2))::nX gX,j0 a0 a1++[gC.row gX.1],[],0⟩) fun gX =>
     .lt _ fun x36 =>
     .ite _ (
      .bk 1 (fun u39=>⟨[(2,.c (cA.tree a2)),sP 3 0 0 0,sP 4 1 0 0,(8,.c (.own 2 u39.length)),sI 9 gX.2],j0 a0 a1++[gC.row u39],[],0⟩) (
       .esc [0,1,2] [(cd (bd Tryz.f224) [1,1,0,1,0,0,1,0,0,0]),(cd (bd Tryz.f224) [1,1,0,1,0,0,1,0,0,1])] ⟨(2,.c (cA.tree a2))::(nX gX++[sB 15 x36]),j0 a0 a1++[gC.row gX.1],[],0⟩ (by
        refine Ref.eR 5 (by kernel_rfl) (by kernel_rfl) ?_
        refine dV.fE (cR:=⟨(2,.c (cA.tree a2))::(nX gX++[(21,.c (cA.tree a2)),sI 22 gX.2]),j0 a0 a1++[gC.row gX.1],[],0⟩) (fuel':=11) [2,3] [2,3,4,8,9,21,22] [0,1,2] rfl (by kernel_rfl) (by kernel_rfl) ?_
        refine dV.rG [6,11] ?_
        refine bQ.iD (fun (mS:fP × Int)=>⟨(2,.c (cA.tree a2))::(nX gX++[sP 10 3 0 0,sI 11 mS.2]),j0 a0 a1++[gC.row gX.1,.cells (gC.cs mS.1)],[],0⟩) (fun (mS:fP × Int)=>(if ((mS.2:Int) != 0)=true then (some (.inl (Sum.inr (Sum.inr ([],mS.2))))) else (bW [room ((gX.1.length+([mS.1].length)) * 40)] (some (.inr ((gX.1++[mS.1]))))))) (fun mS=>?_) (fun hk=>?_)
        ·
         exact Ref.pt (
          .ite _ (
           .sl 7 0 6 (x:=.c (.nil)) (y:=(.c (gC.tree []))) (eG.c (El.cO gC)) <|
           .ret [] _) (
           .ob 8 2 4 (x:=.row 37 4 1 (hG [(gC.cs mS.1)])) (y:=(gC.row [mS.1])) (El.bZ gC [mS.1] rfl (by kernel_rfl)) <|
           .sl 8 2 33 (x:=.c (.own 4 1)) (y:=(.c (.own 4 ([mS.1].length)))) (eG.c (eD.own (by first | (simp;done) | (simp;omega) | omega))) <|
           .ck _ <|
           .ob 8 1 5 (x:=.row 37 4 (gX.1.length+([mS.1].length)) fun i j=>bif Nat.blt i gX.1.length then gC.at gX.1 i j else (gC.at [mS.1]) (i - gX.1.length) j) (y:=(gC.row (gX.1++[mS.1]))) (El.cH gC gX.1 [mS.1] rfl rfl) <|
           .sl 8 1 34 (x:=.c (.own 5 (gX.1.length+([mS.1].length)))) (y:=(.c (.own 5 ((gX.1++[mS.1]).length)))) (eG.c (eD.own (by first | (simp;done) | (simp;omega) | omega))) <|
           .nil [0,1,5] _))
        ·
         refine bQ.v1 (fuel':=7) [cS gX.2 a2.length] [0,1,4,5] [2,3,4,8,9,19,20,24] [0,1,2] ?_
         refine bQ.lW (fuel':=6) 6 10 (by kernel_rfl) ?_ ?_
         ·
          refine cE.cF (t:=25) 6 [] rfl (by kernel_rfl) (aKl a0 a1 (gd a2 gX.2)) (fun mS=>?_)
          refine bQ.fE (cR:=⟨(2,.c (cA.tree a2))::(nX gX++aDv mS),j0 a0 a1++[gC.row gX.1],[],0⟩) (fuel':=4) [7,8] [2,3,4,8,9,18,26] [0,1,2] rfl (by kernel_rfl) (by kernel_rfl) ?_
          refine bQ.iT (fuel':=3) [[],[(9,27)]] [(9,27)] [2,3,4,8,9,18,26] [0,1,2] ⟨(2,.c (cA.tree a2))::(nX gX++aDv mS++[sI 27 mS.2]),j0 a0 a1++[gC.row gX.1],[],0⟩ ?_
          refine cQ.cP (fuel':=2) 10 ?_
          refine dP.kC (cR:=⟨(2,.c (cA.tree a2))::(nX gX++(sP 10 3 0 0::(aDv mS++[sI 27 mS.2]))),j0 a0 a1++[gC.row gX.1,qC],[],0⟩) 10 [2,3,4,8,9,10,18,26,27] [0,1,2,3] (by kernel_rfl) (by kernel_rfl) ?_
          refine cQ.cP (fuel':=1) 11 ?_
          refine dP.iA (cR:=⟨(2,.c (cA.tree a2))::(nX gX++[sP 10 3 0 0,(18,.iV [.agg (gC.cs mS.1),.c (iC mS.2)]),sI 27 mS.2]),j0 a0 a1++[gC.row gX.1,.cells (gC.cs mS.1)],[],0⟩) 11 [2,3,4,8,9,10,18,27] [0,1,2,3] (by kernel_rfl) (by kernel_rfl) ?_
          refine cQ.close ?_
          refine bQ.v0 (fuel':=0) [12] [2,3,4,8,9,10,11] [0,1,2,3] ?_
          refine bQ.done (by kernel_rfl) ?_
          refine Ref.ck ⟨(2,.c (cA.tree a2))::(nX gX++[sP 10 3 0 0,sI 11 mS.2]),j0 a0 a1++[gC.row gX.1,.cells (gC.cs mS.1)],[],0⟩ [2,3,4,8,9,10,11] [0,1,2,3] ?_
          exact hk mS
         ·
          refine cE.a0 10 [2,3,4,8,9,10,19,20,24] [0,1,2,3] ?_
          refine bQ.cP (fuel':=5) 6 (by kernel_rfl) ?_
          refine cE.cF (t:=25) 6 [] rfl (by kernel_rfl) (aKl a0 a1 (gd a2 gX.2)) (fun mS=>?_)
          refine bQ.fE (cR:=⟨(2,.c (cA.tree a2))::(nX gX++(sP 10 3 0 0::aDv mS)),j0 a0 a1++[gC.row gX.1,qC],[],0⟩) (fuel':=3) [7,8] [2,3,4,8,9,10,18,26] [0,1,2,3] rfl (by kernel_rfl) (by kernel_rfl) ?_
          refine bQ.iT (fuel':=2) [[],[(9,27)]] [(9,27)] [2,3,4,8,9,10,18,26] [0,1,2,3] ⟨(2,.c (cA.tree a2))::(nX gX++(sP 10 3 0 0::(aDv mS++[sI 27 mS.2]))),j0 a0 a1++[gC.row gX.1,qC],[],0⟩ ?_
          refine cQ.cP (fuel':=1) 11 ?_
          refine dP.iA (cR:=⟨(2,.c (cA.tree a2))::(nX gX++[sP 10 3 0 0,(18,.iV [.agg (gC.cs mS.1),.c (iC mS.2)]),sI 27 mS.2]),j0 a0 a1++[gC.row gX.1,.cells (gC.cs mS.1)],[],0⟩) 11 [2,3,4,8,9,10,18,27] [0,1,2,3] (by kernel_rfl) (by kernel_rfl) ?_
          refine cQ.close ?_
          refine bQ.v0 (fuel':=0) [12] [2,3,4,8,9,10,11] [0,1,2,3] ?_
          refine bQ.done (by kernel_rfl) ?_
          refine Ref.ck ⟨(2,.c (cA.tree a2))::(nX gX++[sP 10 3 0 0,sI 11 mS.2]),j0 a0 a1++[gC.row gX.1,.cells (gC.cs mS.1)],[],0⟩ [2,3,4,8,9,10,11] [0,1,2,3] ?_
          exact hk mS)) fun u39 =>
      .nil [0,1,2] _) (
      .ret [2] _)) fun nO =>
    .fz 9 0 0 <|
    .ret [] _)
  ·
   intro a0 a1 a2
   refine bR.it Tryz.f226 (fun r=>⟨[sP 6 0 0 0,sI 7 r.2],[.cells (gC.cs r.1)],[],0⟩) ?_
   rw[aCb]
   exact Ref.pt (
    .call [] (aCz _ _ _) fun r1 =>
    .ite _ (
     .ret [3] _) (
     .ite _ (
      .call [] (aWP _ _ _) fun r2 =>
      .lt _ fun x3 =>
      .ite _ (
       .ret [3] _) (
       .ret [3] _)) (
      .call [] (aQU _ _) fun r4 =>
      .lt _ fun x5 =>
      .ite _ (
       .ret [3] _) (
       .call [] (aFP _ _ _ _) fun r6 =>
       .bk 0 (fun u11=>⟨aDx++[sI 10 r4],j0 a0 a1++[cA.o a2,qC],[],0⟩) (
        .ite _ (
         .ret [3] _) (
         .jn (fun vA=>⟨aDx++[sI 10 r4,sP 11 4 0 0,sB 12 r6.2,sI 62 a2.bP,sB 66 vA],j0 a0 a1++[cA.o a2,qC,eU.o r6.1],[],0⟩) (
          .ite _ (
           .nil [0,1,2,3,5] _) (
           .nil [0,1,2,3,5] _)) fun vA =>
         .ite _ (
          .ret [3] _) (
          .ite _ (
           .ret [3] _) (
           .jn (fun u13=>⟨aDx++[sI 10 r4,sP 11 4 0 0,sB 12 r6.2,sI 62 a2.bP,sB 73 u13],j0 a0 a1++[cA.o a2,qC,eU.o r6.1],[],0⟩) (
            .ite _ (
             .nil [0,1,2,3,4] _) (
             .ite _ (
              .nil [0,1,2,3,4] _) (
              .ite _ (
               .nil [0,1,2,3,4] _) (
               .ite _ (
                .nil [0,1,2,3,4] _) (
                .nil [0,1,2,3,4] _))))) fun u13 =>
           .ite _ (
            .ite _ (
             .ret [3] _) (
             .call [] (aWQ _ _ _ _) fun r14 =>
             .ret [3] _)) (
            .ite _ (
             .call [] (aKd _ _ _) fun r15 =>
             .ite _ (
              .ret [3] _) (
              .nil [0,1,2,3] _)) (
             .nil [0,1,2,3] _)))))) fun u11 =>
       .esc [0,1,2,3] [(cd (bd Tryz.f226) [1,1,1,1,1,1,1,0]),(cd (bd Tryz.f226) [1,1,1,1,1,1,1,1])] ⟨aDx++[sI 10 r4],j0 a0 a1++[cA.o a2,qC],[],0⟩ (by
        refine Ref.eR 31 (by kernel_rfl) (by kernel_rfl) ?_
        refine dV.fE (cR:=⟨aDx++[sP 100 2 0 4,sI 102 r4],j0 a0 a1++[cA.o a2,qC],[],0⟩) (fuel':=10) [2,4] [3,4,5,6,100,102] [0,1,2,3] rfl (by kernel_rfl) (by kernel_rfl) ?_
        refine dV.rG [6] ?_
        refine bQ.iD (fun (mN:(List fP) × Int)=>⟨[sP 5 0 0 0,sP 6 1 0 0,(13,.c (gC.tree mN.1)),sI 14 mN.2],[cA.o a2,qC],[],0⟩) (fun (mN:(List fP) × Int)=>(if ((mN.2:Int) != 0)=true then (some (.inl ((⟨0,0,0,([]:Bytes)⟩:fP),mN.2))) else (bM (bL (bW [!((a2.bP:Int) == 7) || cS 0 mN.1.length,!(((a2.bP:Int) == 8) && (!(((a2.bP:Int) == 7) && ((((gd mN.1 0).bP):Int) == 1)))) || cS 0 mN.1.length] (bO ((((a2.bP:Int) == 7) && ((((gd mN.1 0).bP):Int) == 1)) || (((a2.bP:Int) == 8) && ((((gd mN.1 0).bP):Int) == 2))) (fun (x23:Bool)=>(if x23=true then (bW [cS 0 mN.1.length] (some (.inl (Sum.inr ((gd mN.1 0),0))))) else (if ((a2.bP:Int) == 9)=true then (bW [cS 0 mN.1.length,cS 1 mN.1.length] ((bU (aLV K a2.fN (gd mN.1 0) (gd mN.1 1))).bind (fun qD=>(some (.inl (Sum.inr (qD.1,qD.2))))))) else (bW [!((a2.bP:Int) == 14) || cS 0 mN.1.length] (bO (((a2.bP:Int) == 14) && ((((gd mN.1 0).bP):Int) == 5)) (fun (yV:Bool)=>(if yV=true then (some (.inl (Sum.inr ((⟨5,0,0,a2.cG⟩:fP),0)))) else (some (.inr ())))))))))))) (fun (dY:Unit)=>(some (.inl ((⟨0,0,0,([]:Bytes)⟩:fP),14))))))) (fun mN=>?_) (fun hk=>?_)
        ·
         exact Ref.pt (
          .ite _ (
           .ret [1] _) (
           .bk 1 (fun dY=>⟨[sP 6 0 0 0],[qC],[],0⟩) (
            .ck _ <|
            .lt _ fun x23 =>
            .ite _ (
             .ck _ <|
             .ret [1] _) (
             .ite _ (
              .esc [0,1] [(cd (bd Tryz.f226) [1,1,1,1,1,1,1,1,1,0,0,1,1,1,0,0]),(cd (bd Tryz.f226) [1,1,1,1,1,1,1,1,1,0,0,1,1,1,0,1])] ⟨[sP 5 0 0 0,sP 6 1 0 0,(13,.c (gC.tree mN.1)),sB 137 ((a2.bP:Int) == 9)],[cA.o a2,qC],[],0⟩ (by
               refine Ref.eR 37 (by kernel_rfl) (by kernel_rfl) ?_
               refine dV.evC (vs:=[cS 0 mN.1.length,cS 1 mN.1.length]) (cR:=⟨[sP 6 1 0 0,sP 141 0 0 1,(144,.c (gC.ep (gd mN.1 0) 0)),(147,.c (gC.ep (gd mN.1 1) 0))],[cA.o a2,qC],[],0⟩) (fuel':=8) [0,2,3,5,6] [6,141,144,147] [0,1] rfl (by kernel_rfl) (by kernel_rfl) ?_
               refine dV.rG [8,11] ?_
               refine bQ.iD (fun (qD:fP × Int)=>⟨[sP 6 0 0 0,sI 7 qD.2],[.cells (gC.cs qD.1)],[],0⟩) (fun (qD:fP × Int)=>(some (.inl (Sum.inr (qD.1,qD.2))))) (fun qD=>?_) (fun hk=>?_)
               ·
                exact Ref.pt (
                 .ret [0] _)
               ·
                refine bQ.v0 (fuel':=5) [1,4,7] [6,142,145,148] [1] ?_
                refine bQ.cP (fuel':=4) 8 (by kernel_rfl) ?_
                refine cE.cF (t:=149) 8 [] rfl (by kernel_rfl) (aQV K a2.fN (gd mN.1 0) (gd mN.1 1)) (fun qD=>?_)
                refine bQ.v0 (fuel':=2) [9,10] [6,150,151] [0] ?_
                refine bQ.cP (fuel':=1) 11 (by kernel_rfl) ?_
                refine cE.w0 11 [6,151] [0] ?_
                refine bQ.v0 (fuel':=0) [12] [6,7] [0] ?_
                refine bQ.done (by kernel_rfl) ?_
                refine Ref.ck ⟨[sP 6 0 0 0,sI 7 qD.2],[.cells (gC.cs qD.1)],[],0⟩ [6,7] [0] ?_
                exact hk qD)) (
              .ck _ <|
              .lt _ fun yV =>
              .ite _ (
               .ret [1] _) (
               .nil [1] _)))) fun dY =>
           .ret [0] _))
        ·
         refine bQ.fE (cR:=⟨[sP 5 0 0 0,sP 6 1 0 0,(98,.agg (dQ.cs a0)),(99,.agg (dS.cs a1)),(101,.c (tM a2.gD)),sI 102 r4],[cA.o a2,qC],[],0⟩) (fuel':=7) [0,1,3] [5,6,98,99,101,102] [2,3] rfl (by kernel_rfl) (by kernel_rfl) ?_
         refine bQ.conv (Conv.sl 101 (.c (cA.tree a2.gD)) (eG.c (wF _))) ?_
         refine bQ.evH (vs:=[c9 a2.gD.length 0 r4]) (cR:=⟨[sP 5 0 0 0,sP 6 1 0 0,(98,.agg (dQ.cs a0)),(99,.agg (dS.cs a1)),(103,.c (.tree cA.w ((r4:Int).toNat - (0:Int).toNat) fun i j=>cA.at a2.gD ((0:Int).toNat+i) j))],[cA.o a2,qC],[],0⟩) (fuel':=6) [5] [5,6,98,99,103] [0,1] rfl (by kernel_rfl) (by kernel_rfl) (fun hv=>?_)
         refine bQ.conv (Conv.sl 103 (.c (cA.tree ((a2.gD.drop (0:Int).toNat).take ((r4:Int).toNat - (0:Int).toNat)))) (eG.c (El.qN cA _ (vW (hv _ (List.Mem.head _)))))) ?_
         refine bQ.cP (fuel':=5) 6 (by kernel_rfl) ?_
         refine cE.cF (t:=104) 6 [] rfl (by kernel_rfl) (aST a0 a1 ((a2.gD.drop (0:Int).toNat).take ((r4:Int).toNat - (0:Int).toNat))) (fun mN=>?_)
         refine bQ.v0 (fuel':=0) [7,8,9,10,11] [5,6,13,14] [0,1] ?_
         refine bQ.done (by kernel_rfl) ?_
         refine Ref.ck ⟨[sP 5 0 0 0,sP 6 1 0 0,(13,.c (gC.tree mN.1)),sI 14 mN.2],[cA.o a2,qC],[],0⟩ [5,6,13,14] [0,1] ?_
         exact hk mN)))))
  ·
   intro a0 a1 a2 a3
   refine bR.it Tryz.f228 (fun r=>⟨[sP 8 0 0 0,sI 9 r.2],[.cells (gC.cs r.1)],[],0⟩) ?_
   rw[aIR]
   exact Ref.pt (
    .bk 0 (fun u6=>⟨[sP 8 0 0 0],[qC],[],0⟩) (
     .ite _ (
      .bk 1 (fun u8=>⟨[sP 8 0 0 0],[qC],[],0⟩) (
       .jn (fun u9=>⟨[sP 7 0 0 0,sP 8 1 0 0,sI 20 a3.cI.bP,sB 21 u9],[eU.o a3,qC],[],0⟩) (
        .ite _ (
         .nil [3,4] _) (
         .nil [3,4] _)) fun u9 =>
       .ite _ (
        .ret [1] _) (
        .ite _ (
         .ret [1] _) (
         .ite _ (
          .ret [1] _) (
          .nil [1] _)))) fun u8 =>
      .nil [0] _) (
      .ite _ (
       .ite _ (
        .ret [4] _) (
        .esc [0,1,2,4] [(cd (bd Tryz.f228) [1,1,0,1,0,1,1,1,0,1,0]),(cd (bd Tryz.f228) [1,1,0,1,0,1,1,1,0,1,1])] ⟨[sP 4 0 0 0,sP 5 1 0 0,sP 6 2 0 0,sP 8 3 0 0,sB 35 ((a3.cI.bP:Int) != 4)],j0 a0 a1++[cA.o a2,qC],[],0⟩ (by
         refine Ref.eR 15 (by kernel_rfl) (by kernel_rfl) ?_
         refine dV.fE (cR:=⟨[sP 4 0 0 0,sP 5 1 0 0,sP 8 3 0 0,sP 40 2 0 4],j0 a0 a1++[cA.o a2,qC],[],0⟩) (fuel':=12) [2] [4,5,8,40] [0,1,2,3] rfl (by kernel_rfl) (by kernel_rfl) ?_
         refine dV.rG [6,11] ?_
         refine bQ.iD (fun (jZ:fP × Int)=>⟨[sP 8 0 0 0,sP 11 1 0 0,sI 12 jZ.2],[qC,.cells (gC.cs jZ.1)],[],0⟩) (fun (jZ:fP × Int)=>(if ((jZ.2:Int) != 0)=true then (some (.inl (Sum.inr ((⟨0,0,0,([]:Bytes)⟩:fP),jZ.2)))) else (if ((jZ.1.bP:Int) == 1)=true then (some (.inl (Sum.inr ((⟨1,0,0,([]:Bytes)⟩:fP),0)))) else (some (.inr ()))))) (fun jZ=>?_) (fun hk=>?_)
         ·
          exact Ref.pt (
           .ite _ (
            .ret [0] _) (
            .ite _ (
             .ret [0] _) (
             .nil [0] _)))
         ·
          refine bQ.fE (cR:=⟨[sP 8 0 0 0,(38,.agg (dQ.cs a0)),(39,.agg (dS.cs a1)),(41,.c (tM a2.gD))],[qC],[],0⟩) (fuel':=9) [0,1,3] [8,38,39,41] [3] rfl (by kernel_rfl) (by kernel_rfl) ?_
          refine bQ.conv (Conv.sl 41 (.c (cA.tree a2.gD)) (eG.c (wF _))) ?_
          refine bQ.v1 (fuel':=7) [cS 0 a2.gD.length] [4,5] [8,38,39,43] [0] ?_
          refine bQ.lW (fuel':=6) 6 10 (by kernel_rfl) ?_ ?_
          ·
           refine cE.cF (t:=44) 6 [] rfl (by kernel_rfl) (aKl a0 a1 (gd a2.gD 0)) (fun jZ=>?_)
           refine bQ.fE (cR:=⟨sP 8 0 0 0::aDw jZ,[qC],[],0⟩) (fuel':=4) [7,8] [8,37,45] [0] rfl (by kernel_rfl) (by kernel_rfl) ?_
           refine bQ.iT (fuel':=3) [[],[(9,46)]] [(9,46)] [8,37,45] [0] ⟨sP 8 0 0 0::(aDw jZ++[sI 46 jZ.2]),[qC],[],0⟩ ?_
           refine cQ.cP (fuel':=2) 10 ?_
           refine dP.kC (cR:=⟨sP 8 0 0 0::sP 11 1 0 0::(aDw jZ++[sI 46 jZ.2]),[qC,qC],[],0⟩) 10 [8,11,37,45,46] [0,1] (by kernel_rfl) (by kernel_rfl) ?_
           refine cQ.cP (fuel':=1) 11 ?_
           refine dP.iA (cR:=⟨[sP 8 0 0 0,sP 11 1 0 0,(37,.iV [.agg (gC.cs jZ.1),.c (iC jZ.2)]),sI 46 jZ.2],[qC,.cells (gC.cs jZ.1)],[],0⟩) 11 [8,11,37,46] [0,1] (by kernel_rfl) (by kernel_rfl) ?_
           refine cQ.close ?_
           refine bQ.v0 (fuel':=0) [12] [8,11,12] [0,1] ?_
           refine bQ.done (by kernel_rfl) ?_
           refine Ref.ck ⟨[sP 8 0 0 0,sP 11 1 0 0,sI 12 jZ.2],[qC,.cells (gC.cs jZ.1)],[],0⟩ [8,11,12] [0,1] ?_
           exact hk jZ
          ·
           refine cE.a0 10 [8,11,38,39,43] [0,1] ?_
           refine bQ.cP (fuel':=5) 6 (by kernel_rfl) ?_
           refine cE.cF (t:=44) 6 [] rfl (by kernel_rfl) (aKl a0 a1 (gd a2.gD 0)) (fun jZ=>?_)
           refine bQ.fE (cR:=⟨sP 8 0 0 0::sP 11 1 0 0::aDw jZ,[qC,qC],[],0⟩) (fuel':=3) [7,8] [8,11,37,45] [0,1] rfl (by kernel_rfl) (by kernel_rfl) ?_
           refine bQ.iT (fuel':=2) [[],[(9,46)]] [(9,46)] [8,11,37,45] [0,1] ⟨sP 8 0 0 0::sP 11 1 0 0::(aDw jZ++[sI 46 jZ.2]),[qC,qC],[],0⟩ ?_
           refine cQ.cP (fuel':=1) 11 ?_
           refine dP.iA (cR:=⟨[sP 8 0 0 0,sP 11 1 0 0,(37,.iV [.agg (gC.cs jZ.1),.c (iC jZ.2)]),sI 46 jZ.2],[qC,.cells (gC.cs jZ.1)],[],0⟩) 11 [8,11,37,46] [0,1] (by kernel_rfl) (by kernel_rfl) ?_
           refine cQ.close ?_
           refine bQ.v0 (fuel':=0) [12] [8,11,12] [0,1] ?_
           refine bQ.done (by kernel_rfl) ?_
           refine Ref.ck ⟨[sP 8 0 0 0,sP 11 1 0 0,sI 12 jZ.2],[qC,.cells (gC.cs jZ.1)],[],0⟩ [8,11,12] [0,1] ?_
           exact hk jZ))) (
       .ite _ (
        .ite _ (
         .ret [4] _) (
         .nil [4] _)) (
        .ite _ (
         .ite _ (
          .ret [4] _) (
          .nil [4] _)) (
         .ite _ (
          .ite _ (
           .ret [4] _) (
           .nil [4] _)) (
          .nil [4] _)))))) fun u6 =>
    .ret [0] _)
theorem aKm (K:Nat) (a0:dD) (a1:dX) (a2:cM):bR Tryz.prog 220 [.agg (dQ.cs a0),.agg (dS.cs a1),.agg (cA.cs a2)] [] (bU (aFV K a0 a1 a2)) (fun r=>.iV [.agg (gC.cs r.1),.c (.val (.int .i64 r.2))]) (fun r=>[.cells (gC.cs r.1)]):=(aFW K).1 a0 a1 a2
theorem aQ6 (K:Nat) (a0:dD) (a1:dX) (a2:(List cM)):bR Tryz.prog 224 [.agg (dQ.cs a0),.agg (dS.cs a1),.c (cA.tree a2)] [] (bU (aEH K a0 a1 a2)) (fun r=>.iV [.c (gC.tree r.1),.c (.val (.int .i64 r.2))]) (fun r=>[]):=(aFW K).2.1 a0 a1 a2
theorem aAn (K:Nat) (a0:dD) (a1:dX) (a2:cM):bR Tryz.prog 226 [.agg (dQ.cs a0),.agg (dS.cs a1),.agg (cA.cs a2)] [] (bU (aCb K a0 a1 a2)) (fun r=>.iV [.agg (gC.cs r.1),.c (.val (.int .i64 r.2))]) (fun r=>[.cells (gC.cs r.1)]):=(aFW K).2.2.1 a0 a1 a2
def aIS (K:Nat) (a0:dD) (a1:dX) (a2:cM):Option ((Int) ⊕ (Int)) :=
 ((bU (aCb K a0 a1 a2)).bind (fun r1=>(bO (((r1.2:Int) == 0) && ((r1.1.bP:Int) != 2)) (fun (x2:Bool)=>(if x2=true then (some (.inl (14))) else (some (.inl (r1.2))))))))
theorem aKn (K:Nat) (a0:dD) (a1:dX) (a2:cM):bR Tryz.prog 221 [.agg (dQ.cs a0),.agg (dS.cs a1),.agg (cA.cs a2)] [] (bU (aIS K a0 a1 a2)) (fun r=>.c (.val (.int .i64 r))) (fun r=>[]):=by
 refine bR.it Tryz.f221 (fun r=>⟨[sI 6 r],[],[],0⟩) ?_
 unfold aIS
 exact Ref.pt (
  .call [] (aAn _ _ _ _) fun r1 =>
  .lt _ fun x2 =>
  .ite _ (
   .ret [] _) (
   .ret [] _))
def aNS (K:Nat) (a0:dD) (a1:dX) (a2:cJ):Option ((Int) ⊕ (Int)) :=
 (bM (if (decide ((a1.dH:Int) ≥ 0))=true then (bW [cS a1.dA a0.bK.length,cS a1.dH ((a0.bK.getD (a1.dA:Int).toNat default).bN).length] (some (.inr (((((a0.bK.getD (a1.dA:Int).toNat default).bN).getD (a1.dH:Int).toNat default).fH).bP,((((a0.bK.getD (a1.dA:Int).toNat default).bN).getD (a1.dH:Int).toNat default).fH).fLo,((((a0.bK.getD (a1.dA:Int).toNat default).bN).getD (a1.dH:Int).toNat default).fH).vG,((((a0.bK.getD (a1.dA:Int).toNat default).bN).getD (a1.dH:Int).toNat default).fH).cG)))) else (some (.inr (0,0,0,([]:Bytes))))) (fun (u1:Int × Int × Int × Bytes)=>(if (((Int.ofNat a2.cT.length):Int) == 0)=true then (if ((u1.1:Int) != 0)=true then (some (.inl (14))) else (some (.inl (0)))) else (bW [cS 0 a2.cT.length] ((bU (aCb K a0 a1 (a2.cT.getD (0:Int).toNat default))).bind (fun r2=>(if ((r2.2:Int) != 0)=true then (some (.inl (r2.2))) else ((cK (!((u1.1:Int) == 0)) (bU (aFQ K a0 (⟨u1.1,u1.2.1,u1.2.2.1,u1.2.2.2⟩:fP) r2.1)) default).bind (fun r4=>(if (((u1.1:Int) == 0) || (!r4))=true then (some (.inl (14))) else (some (.inl (0)))))))))))))
abbrev sZ (v0:dD) (v1:Int × Int × Int × Bytes):List Go.Dl.Obj:=[.cells (dQ.cs v0),.cells [iC v1.1,iC v1.2.1,iC v1.2.2.1,.str v1.2.2.2]]
abbrev aDy (v0:fP × Int):List (Nat × D):=[sP 3 0 0 0,sP 7 1 0 0,sP 8 2 0 0,(33,.iV [.agg (gC.cs v0.1),.c (iC v0.2)])]
theorem aQ7 (K:Nat) (a0:dD) (a1:dX) (a2:cJ):bR Tryz.prog 223 [.agg (dQ.cs a0),.agg (dS.cs a1),.agg (dL.cs a2)] [] (bU (aNS K a0 a1 a2)) (fun r=>.c (.val (.int .i64 r))) (fun r=>[]):=by
 refine bR.it Tryz.f223 (fun r=>⟨[sI 6 r],[],[],0⟩) ?_
 unfold aNS
 exact Ref.pt (
  .jn (fun u1=>⟨[sP 3 0 0 0,sP 4 1 0 0,sP 5 2 0 0,sP 7 3 0 0],[.cells (dQ.cs a0),.cells (dS.cs a1),dL.o a2,.cells [iC u1.1,iC u1.2.1,iC u1.2.2.1,.str u1.2.2.2]],[],0⟩) (
   .ite _ (
    .ex [0,2,7] <|
    .tx [12] <|
    .mT [1,3,4,5,6,8,9,10,11] _ <|
    .tl [12] <|
    .nil [0,1,2,3] _) (
    .nil [0,1,2,3] _)) fun u1 =>
  .ite _ (
   .ite _ (
    .ret [] _) (
    .ret [] _)) (
   .esc [0,1,2,3] [(cd (bd Tryz.f223) [1,1,1,1,0]),(cd (bd Tryz.f223) [1,1,1,1,1])] ⟨[sP 3 0 0 0,sP 4 1 0 0,sP 5 2 0 0,sP 7 3 0 0,sB 29 ((Int.ofNat a2.cT.length) == 0)],[.cells (dQ.cs a0),.cells (dS.cs a1),dL.o a2,.cells [iC u1.1,iC u1.2.1,iC u1.2.2.1,.str u1.2.2.2]],[],0⟩ (by
    refine Ref.eR 8 (by kernel_rfl) (by kernel_rfl) ?_
    refine dV.fE (cR:=⟨[sP 3 0 0 0,sP 4 1 0 0,sP 7 3 0 0,sP 36 2 0 3],[.cells (dQ.cs a0),.cells (dS.cs a1),dL.o a2,.cells [iC u1.1,iC u1.2.1,iC u1.2.2.1,.str u1.2.2.2]],[],0⟩) (fuel':=12) [2] [3,4,7,36] [0,1,2,3] rfl (by kernel_rfl) (by kernel_rfl) ?_
    refine dV.rG [6,11] ?_
    refine bQ.iD (fun (r2:fP × Int)=>⟨[sP 3 0 0 0,sP 7 1 0 0,sP 8 2 0 0,sI 9 r2.2],sZ a0 u1++[.cells (gC.cs r2.1)],[],0⟩) (fun (r2:fP × Int)=>(if ((r2.2:Int) != 0)=true then (some (.inl (r2.2))) else ((cK (!((u1.1:Int) == 0)) (bU (aFQ K a0 (⟨u1.1,u1.2.1,u1.2.2.1,u1.2.2.2⟩:fP) r2.1)) default).bind (fun r4=>(if (((u1.1:Int) == 0) || (!r4))=true then (some (.inl (14))) else (some (.inl (0)))))))) (fun r2=>?_) (fun hk=>?_)
    ·
     exact Ref.pt (
      .ite _ (
       .ret [] _) (
       .look (default:Bool) _ [] (aFR K a0 (⟨u1.1,u1.2.1,u1.2.2.1,u1.2.2.2⟩:fP) r2.1) (fun _=>rfl) fun r4 =>
       .ite _ (
        .ret [] _) (
        .ret [] _)))
    ·
     refine bQ.v0 (fuel':=9) [0,1,3] [3,7,34,35,37] [0,3] ?_
     refine bQ.v1 (fuel':=7) [cS 0 a2.cT.length] [4,5] [3,7,34,35,39] [0,1] ?_
     refine bQ.lW (fuel':=6) 6 10 (by kernel_rfl) ?_ ?_
     ·
      refine cE.cF (t:=40) 6 [] rfl (by kernel_rfl) (aAn K a0 a1 (gd a2.cT 0)) (fun r2=>?_)
      refine bQ.fE (cR:=⟨[sP 3 0 0 0,sP 7 1 0 0,(33,.iV [.agg (gC.cs r2.1),.c (iC r2.2)]),(41,.agg (gC.cs r2.1))],sZ a0 u1,[],0⟩) (fuel':=4) [7,8] [3,7,33,41] [0,1] rfl (by kernel_rfl) (by kernel_rfl) ?_
      refine bQ.iT (fuel':=3) [[],[(9,42)]] [(9,42)] [3,7,33,41] [0,1] ⟨[sP 3 0 0 0,sP 7 1 0 0,(33,.iV [.agg (gC.cs r2.1),.c (iC r2.2)]),(41,.agg (gC.cs r2.1)),sI 42 r2.2],sZ a0 u1,[],0⟩ ?_
      refine cQ.cP (fuel':=2) 10 ?_
      refine dP.kC (cR:=⟨aDy r2++[(41,.agg (gC.cs r2.1)),sI 42 r2.2],sZ a0 u1++[qC],[],0⟩) 10 [3,7,8,33,41,42] [0,1,2] (by kernel_rfl) (by kernel_rfl) ?_
      refine cQ.cP (fuel':=1) 11 ?_
      refine dP.iA (cR:=⟨aDy r2++[sI 42 r2.2],sZ a0 u1++[.cells (gC.cs r2.1)],[],0⟩) 11 [3,7,8,33,42] [0,1,2] (by kernel_rfl) (by kernel_rfl) ?_
      refine cQ.close ?_
      refine bQ.v0 (fuel':=0) [12] [3,7,8,9] [0,1,2] ?_
      refine bQ.done (by kernel_rfl) ?_
      refine Ref.ck ⟨[sP 3 0 0 0,sP 7 1 0 0,sP 8 2 0 0,sI 9 r2.2],sZ a0 u1++[.cells (gC.cs r2.1)],[],0⟩ [3,7,8,9] [0,1,2] ?_
      exact hk r2
     ·
      refine cE.a0 10 [3,7,8,34,35,39] [0,1,2] ?_
      refine bQ.cP (fuel':=5) 6 (by kernel_rfl) ?_
      refine cE.cF (t:=40) 6 [] rfl (by kernel_rfl) (aAn K a0 a1 (gd a2.cT 0)) (fun r2=>?_)
      refine bQ.fE (cR:=⟨aDy r2++[(41,.agg (gC.cs r2.1))],sZ a0 u1++[qC],[],0⟩) (fuel':=3) [7,8] [3,7,8,33,41] [0,1,2] rfl (by kernel_rfl) (by kernel_rfl) ?_
      refine bQ.iT (fuel':=2) [[],[(9,42)]] [(9,42)] [3,7,8,33,41] [0,1,2] ⟨aDy r2++[(41,.agg (gC.cs r2.1)),sI 42 r2.2],sZ a0 u1++[qC],[],0⟩ ?_
      refine cQ.cP (fuel':=1) 11 ?_
      refine dP.iA (cR:=⟨aDy r2++[sI 42 r2.2],sZ a0 u1++[.cells (gC.cs r2.1)],[],0⟩) 11 [3,7,8,33,42] [0,1,2] (by kernel_rfl) (by kernel_rfl) ?_
      refine cQ.close ?_
      refine bQ.v0 (fuel':=0) [12] [3,7,8,9] [0,1,2] ?_
      refine bQ.done (by kernel_rfl) ?_
      refine Ref.ck ⟨[sP 3 0 0 0,sP 7 1 0 0,sP 8 2 0 0,sI 9 r2.2],sZ a0 u1++[.cells (gC.cs r2.1)],[],0⟩ [3,7,8,9] [0,1,2] ?_
      exact hk r2)))
def aNT (K:Nat) (a0:cJ):Option ((Bool) ⊕ (Bool)) :=
 (if ((a0.bP:Int) == 6)=true then (bM (bL ((iter K (fun (dY:Int)=>(bO (decide ((dY:Int)<(Int.ofNat a0.eP.length))) (fun (l8:Bool)=>(if l8=true then (bM (bL (bW [cS dY a0.eP.length] (bO (((Int.ofNat (a0.eP.getD (dY:Int).toNat default).length):Int) == 0) (fun (x31:Bool)=>(if x31=true then (some (.inl (Sum.inr (Sum.inr (false))))) else (some (.inr ()))))))) (fun (eZ:Unit)=>(some (.inr ((IntKind.i64.wrap (dY+1))))))) else (some (.inl (Sum.inl ()))))))) (0)).map .inl)) (fun (u16:Unit)=>(bO ((((Int.ofNat a0.cT.length):Int) == 1) && (((Int.ofNat a0.bX.length):Int) == (IntKind.i64.wrap ((Int.ofNat a0.eP.length)+1)))) (fun (x32:Bool)=>(some (.inl (x32))))))) else (bO (decide (((Int.ofNat a0.eP.length):Int) > 0)) (fun (x33:Bool)=>(if x33=true then (some (.inl (false))) else (bM (bL (bM (if ((a0.bP:Int) == 1)=true then (some (.inr (((a0.bP:Int) == 1)))) else (some (.inr (((a0.bP:Int) == 3))))) (fun (u46:Bool)=>(if u46=true then (bO ((((Int.ofNat a0.cT.length):Int) == 1) && (((Int.ofNat a0.bX.length):Int) == 0)) (fun (x47:Bool)=>(some (.inl (Sum.inr (x47)))))) else (bM (if ((a0.bP:Int) == 2)=true then (some (.inr (((a0.bP:Int) == 2)))) else (some (.inr (((a0.bP:Int) == 11))))) (fun (gZ:Bool)=>(if gZ=true then (bO ((((Int.ofNat a0.cT.length):Int) == 2) && (((Int.ofNat a0.bX.length):Int) == 0)) (fun (x49:Bool)=>(some (.inl (Sum.inr (x49)))))) else (if ((a0.bP:Int) == 4)=true then (bO ((((Int.ofNat a0.cT.length):Int) == 1) && (((Int.ofNat a0.bX.length):Int) == 0)) (fun (x50:Bool)=>(bW [!x50 || cS 0 a0.cT.length] (bO (x50 && ((((a0.cT.getD (0:Int).toNat default).bP):Int) == 13)) (fun (x51:Bool)=>(some (.inl (Sum.inr (x51))))))))) else (if ((a0.bP:Int) == 5)=true then (bO ((decide (((Int.ofNat a0.cT.length):Int) ≥ 1)) && (((Int.ofNat a0.bX.length):Int) == (IntKind.i64.wrap ((Int.ofNat a0.cT.length)+1)))) (fun (x52:Bool)=>(some (.inl (Sum.inr (x52)))))) else (if ((a0.bP:Int) == 7)=true then (bO ((((Int.ofNat a0.cT.length):Int) == 1) && (((Int.ofNat a0.bX.length):Int) == 1)) (fun (x53:Bool)=>(some (.inl (Sum.inr (x53)))))) else (if ((a0.bP:Int) == 8)=true then (bO ((((Int.ofNat a0.cT.length):Int) == 2) && (((Int.ofNat a0.bX.length):Int) == 1)) (fun (x54:Bool)=>(some (.inl (Sum.inr (x54)))))) else (if ((a0.bP:Int) == 9)=true then (bO ((decide (((Int.ofNat a0.cT.length):Int)≤1)) && (((Int.ofNat a0.bX.length):Int) == 0)) (fun (x55:Bool)=>(some (.inl (Sum.inr (x55)))))) else (if ((a0.bP:Int) == 10)=true then (bO ((((Int.ofNat a0.cT.length):Int) == 0) && (((Int.ofNat a0.bX.length):Int) == 0)) (fun (x56:Bool)=>(some (.inl (Sum.inr (x56)))))) else (some (.inr ()))))))))))))))) (fun (u45:Unit)=>(some (.inl (false)))))))))
theorem aQ8 (K:Nat) (a0:cJ):bR Tryz.prog 218 [.agg (dL.cs a0)] [] (bU (aNT K a0)) (fun r=>.c (.val (.bool r))) (fun r=>[]):=by
 refine bR.it Tryz.f218 (fun r=>⟨[sB 2 r],[],[],0⟩) ?_
 unfold aNT
 exact Ref.pt (
  .ex [0,3,6] <|
  .tx [] <|
  .ex [1,2,4,5,7,8,9,10,11] <|
  .ite _ (
   .bk 0 (fun u16=>⟨[sI 3 (Int.ofNat a0.cT.length),sI 4 (Int.ofNat a0.bX.length),sI 5 (Int.ofNat a0.eP.length)],[],[],0⟩) (
    .lp [0] (fun dY=>⟨[sP 1 0 0 0,sI 3 (Int.ofNat a0.cT.length),sI 4 (Int.ofNat a0.bX.length),sI 5 (Int.ofNat a0.eP.length),sI 6 dY],[dL.o a0],[],0⟩) fun dY =>
    .lt _ fun l8 =>
    .ite _ (
     .bk 1 (fun eZ=>⟨[sP 1 0 0 0,sI 3 (Int.ofNat a0.cT.length),sI 4 (Int.ofNat a0.bX.length),sI 5 (Int.ofNat a0.eP.length),sI 6 dY],[dL.o a0],[],0⟩) (
      .ck _ <|
      .lt _ fun x31 =>
      .ite _ (
       .ret [] _) (
       .nil [0] _)) fun eZ =>
     .nil [0] _) (
     .ret [] _)) fun u16 =>
   .lt _ fun x32 =>
   .ret [] _) (
   .lt _ fun x33 =>
   .ite _ (
    .ret [] _) (
    .bk 2 (fun u45=>⟨[],[],[],0⟩) (
     .jn (fun u46=>⟨[sP 1 0 0 0,sI 3 (Int.ofNat a0.cT.length),sI 4 (Int.ofNat a0.bX.length),sI 42 a0.bP,sB 43 u46],[dL.o a0],[],0⟩) (
      .ite _ (
       .nil [0] _) (
       .nil [0] _)) fun u46 =>
     .ite _ (
      .lt _ fun x47 =>
      .ret [] _) (
      .jn (fun gZ=>⟨[sP 1 0 0 0,sI 3 (Int.ofNat a0.cT.length),sI 4 (Int.ofNat a0.bX.length),sI 42 a0.bP,sB 52 gZ],[dL.o a0],[],0⟩) (
       .ite _ (
        .nil [0] _) (
        .nil [0] _)) fun gZ =>
      .ite _ (
       .lt _ fun x49 =>
       .ret [] _) (
       .ite _ (
        .lt _ fun x50 =>
        .ck _ <|
        .lt _ fun x51 =>
        .ret [] _) (
        .ite _ (
         .lt _ fun x52 =>
         .ret [] _) (
         .ite _ (
          .lt _ fun x53 =>
          .ret [] _) (
          .ite _ (
           .lt _ fun x54 =>
           .ret [] _) (
           .ite _ (
            .lt _ fun x55 =>
            .ret [] _) (
            .ite _ (
             .lt _ fun x56 =>
             .ret [] _) (
             .nil [] _))))))))) fun u45 =>
    .ret [] _)))
end Go.Proofs.YtdbfbedholdjaaaGreat
