/- No conditions. -/
import Derived.Test.YtdbfbedholdjaaaGreatPLA
import Derived.Test.YtdbfbedholdjaaaGreatProg
set_option linter.unusedVariables false
set_option linter.unusedSimpArgs false
set_option linter.unusedSectionVars false
namespace Go.Proofs.YtdbfbedholdjaaaGreat
open Go Go.Proofs Go.Dl
variable [dW]
set_option maxRecDepth 100000
set_option maxHeartbeats 4000000
def aMi (K:Nat) (a0:cZ) (a1:dR) (a2:cL):Option ((Int × Int) ⊕ (Int × Int)) :=
 ((bT (aDx K a0 a1.c8)).bind (fun r1=>(bL (bJ (if ((a2.fN:Int) == 0)=true then ((bT (aIX K a0 a1 a2.cC)).bind (fun jY=>(if (!jY.2)=true then (some (.inl (Sum.inr (0,13)))) else (bN (((jY.1.cQ.bP:Int) != 6) && (((jY.1.cQ.bP:Int) != 5) || (jY.1.cQ.cC == ([]:Bytes)))) (fun (x11:Bool)=>(if x11=true then (some (.inl (Sum.inr (0,14)))) else ((bT (aIZ K a0 jY.1.cQ.cC)).bind (fun r12=>(if (!r12)=true then (some (.inl (Sum.inr (0,13)))) else ((bT (F61 K a0 jY.1.cQ.cC)).bind (fun r13=>(some (.inl (Sum.inr (r13,0))))))))))))))) else (if ((a2.fN:Int) == 1)=true then ((bT (aIV K a0 a1)).bind (fun r14=>(if (!r14)=true then (some (.inl (Sum.inr (0,15)))) else (some (.inl (Sum.inr (a1.c8,0))))))) else (if ((a2.fN:Int) == 2)=true then ((bT (aIV K a0 a1)).bind (fun r15=>(bN ((!r15) || (decide (((Int.ofNat r1.length):Int)<2))) (fun (x16:Bool)=>(if x16=true then (some (.inl (Sum.inr (0,15)))) else (bW [cS 1 r1.length] (some (.inl (Sum.inr ((r1.getD (1:Int).toNat default),0)))))))))) else (some (.inr ())))))) (fun (u9:Unit)=>(some (.inl (0,14)))))))
theorem aKv (K:Nat) (a0:cZ) (a1:dR) (a2:cL):bS Tryz.prog 159 [.agg (dM.cs a0),.agg (dO.cs a1),.agg (cA.cs a2)] [] (bT (aMi K a0 a1 a2)) (fun r=>.iT [.c (.val (.int .i64 r.1)),.c (.val (.int .i64 r.2))]) (fun r=>[]):=by
 refine bS.it Tryz.f159 (fun r=>⟨[sI 6 r.1,sI 7 r.2],[],[],0⟩) ?_
 unfold aMi
 exact Ref.pt (
  .call [] (uC _ _ _) fun r1 =>
  .bk 0 (fun u9=>⟨[],[],[],0⟩) (
   .ite _ (
    .call [] (aFW _ _ _ _) fun jY =>
    .ite _ (
     .ret [] _) (
     .lt _ fun x11 =>
     .ite _ (
      .ret [] _) (
      .call [] (aKo _ _ _) fun r12 =>
      .ite _ (
       .ret [] _) (
       .call [] (oY _ _ _) fun r13 =>
       .ret [] _)))) (
    .ite _ (
     .call [] (aFV _ _ _) fun r14 =>
     .ite _ (
      .ret [] _) (
      .ret [] _)) (
     .ite _ (
      .call [] (aFV _ _ _) fun r15 =>
      .lt _ fun x16 =>
      .ite _ (
       .ret [] _) (
       .ck _ <|
       .ret [] _)) (
      .nil [] _)))) fun u9 =>
  .ret [] _)
mutual
def aF2:(K:Nat)→(cZ)→(dR)→(cL)→Option ((fL × Int) ⊕ (fL × Int))
 | 0,_,_,_=>none
 | K+1,a0,a1,a2 =>
 ((bT (aMi K a0 a1 a2)).bind (fun r1=>(if ((r1.2:Int) != 0)=true then (some (.inl ((⟨0,0,0,([]:Bytes)⟩:fL),r1.2))) else ((bT (aEN K a0 r1.1 a2.wF)).bind (fun r2=>(if (!r2.2)=true then (some (.inl ((⟨0,0,0,([]:Bytes)⟩:fL),15))) else ((bT (F63 K a0 r2.1)).bind (fun r3=>(if (((a2.fN:Int) == 2) && r3.eV)=true then (some (.inl ((⟨0,0,0,([]:Bytes)⟩:fL),15))) else ((bT (aEP K a0 a1 a2.fY)).bind (fun r4=>(if ((r4.2:Int) != 0)=true then (some (.inl ((⟨0,0,0,([]:Bytes)⟩:fL),r4.2))) else (bN (((Int.ofNat r4.1.length):Int) != (Int.ofNat r3.cV.length)) (fun (x5:Bool)=>(if x5=true then (some (.inl ((⟨0,0,0,([]:Bytes)⟩:fL),15))) else (bL (bJ ((iter K (fun (u27:Int)=>(bN (decide ((u27:Int)<(Int.ofNat r4.1.length))) (fun (x33:Bool)=>(if x33=true then (bL (bJ (bW [cS u27 r4.1.length] (bW [cS u27 r3.cV.length] ((cH true (bT (aFX K a0 ((r3.cV.getD (u27:Int).toNat default).cQ) (r4.1.getD (u27:Int).toNat default))) default).bind (fun r36=>(if (!r36)=true then (some (.inl (Sum.inr (Sum.inr ((⟨0,0,0,([]:Bytes)⟩:fL),15))))) else (some (.inr ())))))))) (fun (u35:Unit)=>(some (.inr ((IntKind.i64.wrap (u27+1))))))) else (some (.inl (Sum.inl ()))))))) (0)).map .inl)) (fun (lV:Unit)=>(some (.inl (r3.fG,0))))))))))))))))))))
def aEP:(K:Nat)→(cZ)→(dR)→((List cL))→Option (((List fL) × Int) ⊕ ((List fL) × Int))
 | 0,_,_,_=>none
 | K+1,a0,a1,a2 =>
 (bL (bJ ((iter K (fun (gU:(List fL) × Int)=>(bN (decide ((gU.2:Int)<(Int.ofNat a2.length))) (fun (x36:Bool)=>(if x36=true then (bL (bJ (bW [cS gU.2 a2.length] ((bT (aCh K a0 a1 (a2.getD (gU.2:Int).toNat default))).bind (fun mO=>(if ((mO.2:Int) != 0)=true then (some (.inl (Sum.inr (Sum.inr ([],mO.2))))) else (bW [room ((gU.1.length+([mO.1].length)) * 40)] (some (.inr ((gU.1++[mO.1])))))))))) (fun (u39:(List fL))=>(some (.inr (u39,(IntKind.i64.wrap (gU.2+1))))))) else (some (.inl (Sum.inl (gU.1)))))))) ([],0)).map .inl)) (fun (lV:(List fL))=>(some (.inl (lV,0)))))
def aCh:(K:Nat)→(cZ)→(dR)→(cL)→Option ((fL × Int) ⊕ (fL × Int))
 | 0,_,_,_=>none
 | K+1,a0,a1,a2 =>
 ((bT (aG2 K a0 a1)).bind (fun r1=>(if (!r1)=true then (some (.inl ((⟨0,0,0,([]:Bytes)⟩:fL),22))) else (if ((a2.bP:Int) == 13)=true then ((bT (aF2 K a0 a1 a2)).bind (fun r2=>(bN (((r2.2:Int) == 0) && ((r2.1.bP:Int) == 0)) (fun (x3:Bool)=>(if x3=true then (some (.inl ((⟨0,0,0,([]:Bytes)⟩:fL),14))) else (some (.inl (r2.1,r2.2)))))))) else ((bT (aNV K a2.bP)).bind (fun r4=>(bN ((decide ((r4:Int)<0)) || (((Int.ofNat a2.fY.length):Int) != r4)) (fun (x5:Bool)=>(if x5=true then (some (.inl ((⟨0,0,0,([]:Bytes)⟩:fL),14))) else ((bT (aIX K a0 a1 a2.cC)).bind (fun r6=>(bL (bJ (if ((a2.bP:Int) == 1)=true then (some (.inl (Sum.inr ((⟨1,0,0,([]:Bytes)⟩:fL),0)))) else (bL (if ((a2.bP:Int) == 2)=true then (some (.inr (((a2.bP:Int) == 2)))) else (some (.inr (((a2.bP:Int) == 3))))) (fun (qS:Bool)=>(if qS=true then (some (.inl (Sum.inr ((⟨2,0,0,([]:Bytes)⟩:fL),0)))) else (if ((a2.bP:Int) == 4)=true then (some (.inl (Sum.inr ((⟨5,0,0,([]:Bytes)⟩:fL),0)))) else (bL (if ((a2.bP:Int) == 5)=true then (some (.inr (((a2.bP:Int) == 5)))) else (if ((a2.bP:Int) == 6)=true then (some (.inr (((a2.bP:Int) == 6)))) else (if ((a2.bP:Int) == 10)=true then (some (.inr (((a2.bP:Int) == 10)))) else (if ((a2.bP:Int) == 11)=true then (some (.inr (((a2.bP:Int) == 11)))) else (some (.inr (((a2.bP:Int) == 12)))))))) (fun (u13:Bool)=>(if u13=true then (if (!r6.2)=true then (some (.inl (Sum.inr ((⟨0,0,0,([]:Bytes)⟩:fL),13)))) else ((bT (aI1 K a0 a1 a2 r6.1)).bind (fun r14=>(some (.inl (Sum.inr (r14.1,r14.2))))))) else (if ((a2.bP:Int) == 14)=true then ((bT (aIZ K a0 a2.cC)).bind (fun r15=>(if (!r15)=true then (some (.inl (Sum.inr ((⟨0,0,0,([]:Bytes)⟩:fL),13)))) else (some (.inr ()))))) else (some (.inr ())))))))))))) (fun (u11:Unit)=>(bW [cW a2.fY.length 0 r4] ((bT (aEP K a0 a1 ((a2.fY.drop (0:Int).toNat).take ((r4:Int).toNat - (0:Int).toNat)))).bind (fun mI=>(if ((mI.2:Int) != 0)=true then (some (.inl ((⟨0,0,0,([]:Bytes)⟩:fL),mI.2))) else (bL (bJ (bW [!((a2.bP:Int) == 7) || cS 0 mI.1.length,!(((a2.bP:Int) == 8) && (!(((a2.bP:Int) == 7) && ((((mI.1.getD (0:Int).toNat default).bP):Int) == 1)))) || cS 0 mI.1.length] (bN ((((a2.bP:Int) == 7) && ((((mI.1.getD (0:Int).toNat default).bP):Int) == 1)) || (((a2.bP:Int) == 8) && ((((mI.1.getD (0:Int).toNat default).bP):Int) == 2))) (fun (x23:Bool)=>(if x23=true then (bW [cS 0 mI.1.length] (some (.inl (Sum.inr ((mI.1.getD (0:Int).toNat default),0))))) else (if ((a2.bP:Int) == 9)=true then (bW [cS 0 mI.1.length,cS 1 mI.1.length] ((bT (aMa K a2.fN (mI.1.getD (0:Int).toNat default) (mI.1.getD (1:Int).toNat default))).bind (fun qF=>(some (.inl (Sum.inr (qF.1,qF.2))))))) else (bW [!((a2.bP:Int) == 14) || cS 0 mI.1.length] (bN (((a2.bP:Int) == 14) && ((((mI.1.getD (0:Int).toNat default).bP):Int) == 5)) (fun (y7:Bool)=>(if y7=true then (some (.inl (Sum.inr ((⟨5,0,0,a2.cC⟩:fL),0)))) else (some (.inr ())))))))))))) (fun (dU:Unit)=>(some (.inl ((⟨0,0,0,([]:Bytes)⟩:fL),14))))))))))))))))))))))
def aI1:(K:Nat)→(cZ)→(dR)→(cL)→(fE)→Option ((fL × Int) ⊕ (fL × Int))
 | 0,_,_,_,_=>none
 | K+1,a0,a1,a2,a3 =>
 (bL (bJ (if ((a2.bP:Int) == 5)=true then (bL (bJ (bL (if ((a3.cQ.bP:Int) == 1)=true then (some (.inr (((a3.cQ.bP:Int) == 1)))) else (some (.inr (((a3.cQ.bP:Int) == 3))))) (fun (u9:Bool)=>(if u9=true then (some (.inl (Sum.inr (Sum.inr ((⟨1,0,0,([]:Bytes)⟩:fL),0))))) else (if ((a3.cQ.bP:Int) == 2)=true then (some (.inl (Sum.inr (Sum.inr ((⟨2,0,0,([]:Bytes)⟩:fL),0))))) else (if ((a3.cQ.bP:Int) == 5)=true then (some (.inl (Sum.inr (Sum.inr (a3.cQ,0))))) else (some (.inr ())))))))) (fun (u8:Unit)=>(some (.inr ())))) else (if ((a2.bP:Int) == 6)=true then (if ((a3.cQ.bP:Int) != 4)=true then (some (.inl (Sum.inr ((⟨0,0,0,([]:Bytes)⟩:fL),14)))) else (bW [cS 0 a2.fY.length] ((bT (aCh K a0 a1 (a2.fY.getD (0:Int).toNat default))).bind (fun jY=>(if ((jY.2:Int) != 0)=true then (some (.inl (Sum.inr ((⟨0,0,0,([]:Bytes)⟩:fL),jY.2)))) else (if ((jY.1.bP:Int) == 1)=true then (some (.inl (Sum.inr ((⟨1,0,0,([]:Bytes)⟩:fL),0)))) else (some (.inr ())))))))) else (if ((a2.bP:Int) == 10)=true then (if ((a3.cQ.bP:Int) == 6)=true then (some (.inl (Sum.inr ((⟨5,0,0,a3.cQ.cC⟩:fL),0)))) else (some (.inr ()))) else (if ((a2.bP:Int) == 11)=true then (if ((a3.cQ.bP:Int) == 7)=true then (some (.inl (Sum.inr ((⟨2,0,0,([]:Bytes)⟩:fL),0)))) else (some (.inr ()))) else (if ((a2.bP:Int) == 12)=true then (if ((a3.cQ.bP:Int) == 7)=true then (some (.inl (Sum.inr ((⟨1,0,0,([]:Bytes)⟩:fL),0)))) else (some (.inr ()))) else (some (.inr ())))))))) (fun (u6:Unit)=>(some (.inl ((⟨0,0,0,([]:Bytes)⟩:fL),14)))))
end
abbrev nT (v0:(List fL) × Int):List (Nat × D):=[sP 3 0 0 0,sP 4 1 0 0,(8,.c (.own 2 v0.1.length)),sI 9 v0.2]
abbrev jZ (v0:cZ) (v1:dR):List Go.Dl.Obj:=[.cells (dM.cs v0),.cells (dO.cs v1)]
abbrev aDE (v0:fL × Int):List (Nat × D):=[(18,.iT [.agg (fX.cs v0.1),.c (iC v0.2)]),(26,.agg (fX.cs v0.1))]
abbrev aDF (v0:fL × Int):List (Nat × D):=[(37,.iT [.agg (fX.cs v0.1),.c (iC v0.2)]),(45,.agg (fX.cs v0.1))]
abbrev aDG:List (Nat × D):=[sP 3 0 0 0,sP 4 1 0 0,sP 5 2 0 0,sP 6 3 0 0]
theorem aF3:∀ K:Nat,(∀ (a0:cZ),∀ (a1:dR),∀ (a2:cL),bS Tryz.prog 220 [.agg (dM.cs a0),.agg (dO.cs a1),.agg (cA.cs a2)] [] (bT (aF2 K a0 a1 a2)) (fun r=>.iT [.agg (fX.cs r.1),.c (.val (.int .i64 r.2))]) (fun r=>[.cells (fX.cs r.1)]))∧(∀ (a0:cZ),∀ (a1:dR),∀ (a2:(List cL)),bS Tryz.prog 224 [.agg (dM.cs a0),.agg (dO.cs a1),.c (cA.tree a2)] [] (bT (aEP K a0 a1 a2)) (fun r=>.iT [.c (fX.tree r.1),.c (.val (.int .i64 r.2))]) (fun r=>[]))∧(∀ (a0:cZ),∀ (a1:dR),∀ (a2:cL),bS Tryz.prog 226 [.agg (dM.cs a0),.agg (dO.cs a1),.agg (cA.cs a2)] [] (bT (aCh K a0 a1 a2)) (fun r=>.iT [.agg (fX.cs r.1),.c (.val (.int .i64 r.2))]) (fun r=>[.cells (fX.cs r.1)]))∧(∀ (a0:cZ),∀ (a1:dR),∀ (a2:cL),∀ (a3:fE),bS Tryz.prog 228 [.agg (dM.cs a0),.agg (dO.cs a1),.agg (cA.cs a2),.agg (eN.cs a3)] [] (bT (aI1 K a0 a1 a2 a3)) (fun r=>.iT [.agg (fX.cs r.1),.c (.val (.int .i64 r.2))]) (fun r=>[.cells (fX.cs r.1)])):=by
 intro K
 induction K with
 | zero=>exact ⟨fun a0 a1 a2=>bS.none (by rw[aF2];rfl),fun a0 a1 a2=>bS.none (by rw[aEP];rfl),fun a0 a1 a2=>bS.none (by rw[aCh];rfl),fun a0 a1 a2 a3=>bS.none (by rw[aI1];rfl)⟩
 | succ K ih =>
  obtain ⟨aXd,aTd,aKw,aXe⟩:=ih
  refine ⟨?_,?_,?_,?_⟩
  ·
   intro a0 a1 a2
   refine bS.it Tryz.f220 (fun r=>⟨[sP 6 0 0 0,sI 7 r.2],[.cells (fX.cs r.1)],[],0⟩) ?_
   rw[aF2]
   exact Ref.pt (
    .call [] (aKv _ _ _ _) fun r1 =>
    .ite _ (
     .ret [3] _) (
     .call [] (pT _ _ _ _) fun r2 =>
     .ite _ (
      .ret [3] _) (
      .call [] (aDy _ _ _) fun r3 =>
      .ite _ (
       .ret [3] _) (
       .sl 10 6 52 (x:=.c (tM a2.fY)) (y:=(.c (cA.tree a2.fY))) (eA.c (wG _)) <|
       .call [] (aTd _ _ _) fun r4 =>
       .ite _ (
        .ret [3] _) (
        .lt _ fun x5 =>
        .ite _ (
         .ret [3] _) (
         .bk 0 (fun lV=>⟨[sP 6 0 0 0,sP 12 1 0 0],[qE,kJ.o r3],[],0⟩) (
          .lp [0,3,7] (fun u27=>⟨[sP 3 0 0 0,sP 6 1 0 0,sP 12 2 0 0,(13,.c (fX.tree r4.1)),sI 14 u27],[.cells (dM.cs a0),qE,kJ.o r3],[],0⟩) fun u27 =>
          .lt _ fun x33 =>
          .ite _ (
           .bk 1 (fun u35=>⟨[sP 3 0 0 0,sP 6 1 0 0,sP 12 2 0 0,(13,.c (fX.tree r4.1)),sI 14 u27],[.cells (dM.cs a0),qE,kJ.o r3],[],0⟩) (
            .lT [1,3,7,8,9] _ <|
            .tx [] <|
            .lT [0,2,4,5,6,10] _ <|
            .fF 11 (default:Bool) _ [] (aFY K a0 ((gd r3.cV u27).cQ) (gd r4.1 u27)) (fun _=>rfl) fun r36 =>
            .ex [12] <|
            .ite _ (
             .ret [1] _) (
             .nil [0,1,2] _)) fun u35 =>
           .nil [0,1,2] _) (
           .ret [1,2] _)) fun lV =>
         .ret [0] _))))))
  ·
   intro a0 a1 a2
   refine bS.it Tryz.f224 (fun r=>⟨[(6,.c (fX.tree r.1)),sI 7 r.2],[],[],0⟩) ?_
   rw[aEP]
   exact Ref.pt (
    .bk 0 (fun lV=>⟨[(8,.c (.own 0 lV.length))],[fX.row lV],[],0⟩) (
     .ad 2 0 8 fX.ty fX.w (fX.at []) <|
     .lp [0,1,2] (fun gU=>⟨(2,.c (cA.tree a2))::nT gU,jZ a0 a1++[fX.row gU.1],[],0⟩) fun gU =>
     .lt _ fun x36 =>
     .ite _ (
      .bk 1 (fun u39=>⟨[(2,.c (cA.tree a2)),sP 3 0 0 0,sP 4 1 0 0,(8,.c (.own 2 u39.length)),sI 9 gU.2],jZ a0 a1++[fX.row u39],[],0⟩) (
       .esc [0,1,2] [(cd (bd Tryz.f224) [1,1,0,1,0,0,1,0,0,0]),(cd (bd Tryz.f224) [1,1,0,1,0,0,1,0,0,1])] ⟨(2,.c (cA.tree a2))::(nT gU++[sB 15 x36]),jZ a0 a1++[fX.row gU.1],[],0⟩ (by
        refine Ref.eH 5 (by kernel_rfl) (by kernel_rfl) ?_
        refine dN.eW (cR:=⟨(2,.c (cA.tree a2))::(nT gU++[(21,.c (cA.tree a2)),sI 22 gU.2]),jZ a0 a1++[fX.row gU.1],[],0⟩) (fuel':=11) [2,3] [2,3,4,8,9,21,22] [0,1,2] rfl (by kernel_rfl) (by kernel_rfl) ?_
        refine dN.qB [6,11] ?_
        refine bO.iA (fun (mO:fL × Int)=>⟨(2,.c (cA.tree a2))::(nT gU++[sP 10 3 0 0,sI 11 mO.2]),jZ a0 a1++[fX.row gU.1,.cells (fX.cs mO.1)],[],0⟩) (fun (mO:fL × Int)=>(if ((mO.2:Int) != 0)=true then (some (.inl (Sum.inr (Sum.inr ([],mO.2))))) else (bW [room ((gU.1.length+([mO.1].length)) * 40)] (some (.inr ((gU.1++[mO.1]))))))) (fun mO=>?_) (fun hk=>?_)
        ·
         exact Ref.pt (
          .ite _ (
           .sl 7 0 6 (x:=.c (.nil)) (y:=(.c (fX.tree []))) (eA.c (El.cN fX)) <|
           .ret [] _) (
           .ob 8 2 4 (x:=.row 37 4 1 (gY [(fX.cs mO.1)])) (y:=(fX.row [mO.1])) (El.bZ fX [mO.1] rfl (by kernel_rfl)) <|
           .sl 8 2 33 (x:=.c (.own 4 1)) (y:=(.c (.own 4 ([mO.1].length)))) (eA.c (dY.own (by first | (simp;done) | (simp;omega) | omega))) <|
           .ck _ <|
           .ob 8 1 5 (x:=.row 37 4 (gU.1.length+([mO.1].length)) fun i j=>bif Nat.blt i gU.1.length then fX.at gU.1 i j else (fX.at [mO.1]) (i - gU.1.length) j) (y:=(fX.row (gU.1++[mO.1]))) (El.cI fX gU.1 [mO.1] rfl rfl) <|
           .sl 8 1 34 (x:=.c (.own 5 (gU.1.length+([mO.1].length)))) (y:=(.c (.own 5 ((gU.1++[mO.1]).length)))) (eA.c (dY.own (by first | (simp;done) | (simp;omega) | omega))) <|
           .nil [0,1,5] _))
        ·
         refine bO.v1 (fuel':=7) [cS gU.2 a2.length] [0,1,4,5] [2,3,4,8,9,19,20,24] [0,1,2] ?_
         refine bO.kV (fuel':=6) 6 10 (by kernel_rfl) ?_ ?_
         ·
          refine cF.cG (t:=25) 6 [] rfl (by kernel_rfl) (aKw a0 a1 (gd a2 gU.2)) (fun mO=>?_)
          refine bO.eW (cR:=⟨(2,.c (cA.tree a2))::(nT gU++aDE mO),jZ a0 a1++[fX.row gU.1],[],0⟩) (fuel':=4) [7,8] [2,3,4,8,9,18,26] [0,1,2] rfl (by kernel_rfl) (by kernel_rfl) ?_
          refine bO.iR (fuel':=3) [[],[(9,27)]] [(9,27)] [2,3,4,8,9,18,26] [0,1,2] ⟨(2,.c (cA.tree a2))::(nT gU++aDE mO++[sI 27 mO.2]),jZ a0 a1++[fX.row gU.1],[],0⟩ ?_
          refine cO.cM (fuel':=2) 10 ?_
          refine dB.iY (cR:=⟨(2,.c (cA.tree a2))::(nT gU++(sP 10 3 0 0::(aDE mO++[sI 27 mO.2]))),jZ a0 a1++[fX.row gU.1,qE],[],0⟩) 10 [2,3,4,8,9,10,18,26,27] [0,1,2,3] (by kernel_rfl) (by kernel_rfl) ?_
          refine cO.cM (fuel':=1) 11 ?_
          refine dB.gI (cR:=⟨(2,.c (cA.tree a2))::(nT gU++[sP 10 3 0 0,(18,.iT [.agg (fX.cs mO.1),.c (iC mO.2)]),sI 27 mO.2]),jZ a0 a1++[fX.row gU.1,.cells (fX.cs mO.1)],[],0⟩) 11 [2,3,4,8,9,10,18,27] [0,1,2,3] (by kernel_rfl) (by kernel_rfl) ?_
          refine cO.close ?_
          refine bO.v0 (fuel':=0) [12] [2,3,4,8,9,10,11] [0,1,2,3] ?_
          refine bO.done (by kernel_rfl) ?_
          refine Ref.ck ⟨(2,.c (cA.tree a2))::(nT gU++[sP 10 3 0 0,sI 11 mO.2]),jZ a0 a1++[fX.row gU.1,.cells (fX.cs mO.1)],[],0⟩ [2,3,4,8,9,10,11] [0,1,2,3] ?_
          exact hk mO
         ·
          refine cF.a0 10 [2,3,4,8,9,10,19,20,24] [0,1,2,3] ?_
          refine bO.cM (fuel':=5) 6 (by kernel_rfl) ?_
          refine cF.cG (t:=25) 6 [] rfl (by kernel_rfl) (aKw a0 a1 (gd a2 gU.2)) (fun mO=>?_)
          refine bO.eW (cR:=⟨(2,.c (cA.tree a2))::(nT gU++(sP 10 3 0 0::aDE mO)),jZ a0 a1++[fX.row gU.1,qE],[],0⟩) (fuel':=3) [7,8] [2,3,4,8,9,10,18,26] [0,1,2,3] rfl (by kernel_rfl) (by kernel_rfl) ?_
          refine bO.iR (fuel':=2) [[],[(9,27)]] [(9,27)] [2,3,4,8,9,10,18,26] [0,1,2,3] ⟨(2,.c (cA.tree a2))::(nT gU++(sP 10 3 0 0::(aDE mO++[sI 27 mO.2]))),jZ a0 a1++[fX.row gU.1,qE],[],0⟩ ?_
          refine cO.cM (fuel':=1) 11 ?_
          refine dB.gI (cR:=⟨(2,.c (cA.tree a2))::(nT gU++[sP 10 3 0 0,(18,.iT [.agg (fX.cs mO.1),.c (iC mO.2)]),sI 27 mO.2]),jZ a0 a1++[fX.row gU.1,.cells (fX.cs mO.1)],[],0⟩) 11 [2,3,4,8,9,10,18,27] [0,1,2,3] (by kernel_rfl) (by kernel_rfl) ?_
          refine cO.close ?_
          refine bO.v0 (fuel':=0) [12] [2,3,4,8,9,10,11] [0,1,2,3] ?_
          refine bO.done (by kernel_rfl) ?_
          refine Ref.ck ⟨(2,.c (cA.tree a2))::(nT gU++[sP 10 3 0 0,sI 11 mO.2]),jZ a0 a1++[fX.row gU.1,.cells (fX.cs mO.1)],[],0⟩ [2,3,4,8,9,10,11] [0,1,2,3] ?_
          exact hk mO)) fun u39 =>
      .nil [0,1,2] _) (
      .ret [2] _)) fun lV =>
    .fz 9 0 0 <|
    .ret [] _)
  ·
   intro a0 a1 a2
   refine bS.it Tryz.f226 (fun r=>⟨[sP 6 0 0 0,sI 7 r.2],[.cells (fX.cs r.1)],[],0⟩) ?_
   rw[aCh]
   exact Ref.pt (
    .call [] (aCE _ _ _) fun r1 =>
    .ite _ (
     .ret [3] _) (
     .ite _ (
      .call [] (aXd _ _ _) fun r2 =>
      .lt _ fun x3 =>
      .ite _ (
       .ret [3] _) (
       .ret [3] _)) (
      .call [] (aRh _ _) fun r4 =>
      .lt _ fun x5 =>
      .ite _ (
       .ret [3] _) (
       .call [] (aFW _ _ _ _) fun r6 =>
       .bk 0 (fun u11=>⟨aDG++[sI 10 r4],jZ a0 a1++[cA.o a2,qE],[],0⟩) (
        .ite _ (
         .ret [3] _) (
         .jn (fun qS=>⟨aDG++[sI 10 r4,sP 11 4 0 0,sB 12 r6.2,sI 62 a2.bP,sB 66 qS],jZ a0 a1++[cA.o a2,qE,eN.o r6.1],[],0⟩) (
          .ite _ (
           .nil [0,1,2,3,5] _) (
           .nil [0,1,2,3,5] _)) fun qS =>
         .ite _ (
          .ret [3] _) (
          .ite _ (
           .ret [3] _) (
           .jn (fun u13=>⟨aDG++[sI 10 r4,sP 11 4 0 0,sB 12 r6.2,sI 62 a2.bP,sB 73 u13],jZ a0 a1++[cA.o a2,qE,eN.o r6.1],[],0⟩) (
            .ite _ (
             .nil [0,1,2,3,4] _) (
             .ite _ (
              .nil [0,1,2,3,4] _) (
              .ite _ (
               .nil [0,1,2,3,4] _) (
               .ite _ (
                .nil [0,1,2,3,4] _) (
                .nil [0,1,2,3,4] _))))) fun u13 =>
           .ite _ (
            .ite _ (
             .ret [3] _) (
             .call [] (aXe _ _ _ _) fun r14 =>
             .ret [3] _)) (
            .ite _ (
             .call [] (aKo _ _ _) fun r15 =>
             .ite _ (
              .ret [3] _) (
              .nil [0,1,2,3] _)) (
             .nil [0,1,2,3] _)))))) fun u11 =>
       .esc [0,1,2,3] [(cd (bd Tryz.f226) [1,1,1,1,1,1,1,0]),(cd (bd Tryz.f226) [1,1,1,1,1,1,1,1])] ⟨aDG++[sI 10 r4],jZ a0 a1++[cA.o a2,qE],[],0⟩ (by
        refine Ref.eH 31 (by kernel_rfl) (by kernel_rfl) ?_
        refine dN.eW (cR:=⟨aDG++[sP 100 2 0 4,sI 102 r4],jZ a0 a1++[cA.o a2,qE],[],0⟩) (fuel':=10) [2,4] [3,4,5,6,100,102] [0,1,2,3] rfl (by kernel_rfl) (by kernel_rfl) ?_
        refine dN.qB [6] ?_
        refine bO.iA (fun (mI:(List fL) × Int)=>⟨[sP 5 0 0 0,sP 6 1 0 0,(13,.c (fX.tree mI.1)),sI 14 mI.2],[cA.o a2,qE],[],0⟩) (fun (mI:(List fL) × Int)=>(if ((mI.2:Int) != 0)=true then (some (.inl ((⟨0,0,0,([]:Bytes)⟩:fL),mI.2))) else (bL (bJ (bW [!((a2.bP:Int) == 7) || cS 0 mI.1.length,!(((a2.bP:Int) == 8) && (!(((a2.bP:Int) == 7) && ((((gd mI.1 0).bP):Int) == 1)))) || cS 0 mI.1.length] (bN ((((a2.bP:Int) == 7) && ((((gd mI.1 0).bP):Int) == 1)) || (((a2.bP:Int) == 8) && ((((gd mI.1 0).bP):Int) == 2))) (fun (x23:Bool)=>(if x23=true then (bW [cS 0 mI.1.length] (some (.inl (Sum.inr ((gd mI.1 0),0))))) else (if ((a2.bP:Int) == 9)=true then (bW [cS 0 mI.1.length,cS 1 mI.1.length] ((bT (aMa K a2.fN (gd mI.1 0) (gd mI.1 1))).bind (fun qF=>(some (.inl (Sum.inr (qF.1,qF.2))))))) else (bW [!((a2.bP:Int) == 14) || cS 0 mI.1.length] (bN (((a2.bP:Int) == 14) && ((((gd mI.1 0).bP):Int) == 5)) (fun (y7:Bool)=>(if y7=true then (some (.inl (Sum.inr ((⟨5,0,0,a2.cC⟩:fL),0)))) else (some (.inr ())))))))))))) (fun (dU:Unit)=>(some (.inl ((⟨0,0,0,([]:Bytes)⟩:fL),14))))))) (fun mI=>?_) (fun hk=>?_)
        ·
         exact Ref.pt (
          .ite _ (
           .ret [1] _) (
           .bk 1 (fun dU=>⟨[sP 6 0 0 0],[qE],[],0⟩) (
            .ck _ <|
            .lt _ fun x23 =>
            .ite _ (
             .ck _ <|
             .ret [1] _) (
             .ite _ (
              .esc [0,1] [(cd (bd Tryz.f226) [1,1,1,1,1,1,1,1,1,0,0,1,1,1,0,0]),(cd (bd Tryz.f226) [1,1,1,1,1,1,1,1,1,0,0,1,1,1,0,1])] ⟨[sP 5 0 0 0,sP 6 1 0 0,(13,.c (fX.tree mI.1)),sB 137 ((a2.bP:Int) == 9)],[cA.o a2,qE],[],0⟩ (by
               refine Ref.eH 37 (by kernel_rfl) (by kernel_rfl) ?_
               refine dN.evC (vs:=[cS 0 mI.1.length,cS 1 mI.1.length]) (cR:=⟨[sP 6 1 0 0,sP 141 0 0 1,(144,.c (fX.ep (gd mI.1 0) 0)),(147,.c (fX.ep (gd mI.1 1) 0))],[cA.o a2,qE],[],0⟩) (fuel':=8) [0,2,3,5,6] [6,141,144,147] [0,1] rfl (by kernel_rfl) (by kernel_rfl) ?_
               refine dN.qB [8,11] ?_
               refine bO.iA (fun (qF:fL × Int)=>⟨[sP 6 0 0 0,sI 7 qF.2],[.cells (fX.cs qF.1)],[],0⟩) (fun (qF:fL × Int)=>(some (.inl (Sum.inr (qF.1,qF.2))))) (fun qF=>?_) (fun hk=>?_)
               ·
                exact Ref.pt (
                 .ret [0] _)
               ·
                refine bO.v0 (fuel':=5) [1,4,7] [6,142,145,148] [1] ?_
                refine bO.cM (fuel':=4) 8 (by kernel_rfl) ?_
                refine cF.cG (t:=149) 8 [] rfl (by kernel_rfl) (aRi K a2.fN (gd mI.1 0) (gd mI.1 1)) (fun qF=>?_)
                refine bO.v0 (fuel':=2) [9,10] [6,150,151] [0] ?_
                refine bO.cM (fuel':=1) 11 (by kernel_rfl) ?_
                refine cF.w0 11 [6,151] [0] ?_
                refine bO.v0 (fuel':=0) [12] [6,7] [0] ?_
                refine bO.done (by kernel_rfl) ?_
                refine Ref.ck ⟨[sP 6 0 0 0,sI 7 qF.2],[.cells (fX.cs qF.1)],[],0⟩ [6,7] [0] ?_
                exact hk qF)) (
              .ck _ <|
              .lt _ fun y7 =>
              .ite _ (
               .ret [1] _) (
               .nil [1] _)))) fun dU =>
           .ret [0] _))
        ·
         refine bO.eW (cR:=⟨[sP 5 0 0 0,sP 6 1 0 0,(98,.agg (dM.cs a0)),(99,.agg (dO.cs a1)),(101,.c (tM a2.fY)),sI 102 r4],[cA.o a2,qE],[],0⟩) (fuel':=7) [0,1,3] [5,6,98,99,101,102] [2,3] rfl (by kernel_rfl) (by kernel_rfl) ?_
         refine bO.conv (Conv.sl 101 (.c (cA.tree a2.fY)) (eA.c (wG _))) ?_
         refine bO.evH (vs:=[cW a2.fY.length 0 r4]) (cR:=⟨[sP 5 0 0 0,sP 6 1 0 0,(98,.agg (dM.cs a0)),(99,.agg (dO.cs a1)),(103,.c (.tree cA.w ((r4:Int).toNat - (0:Int).toNat) fun i j=>cA.at a2.fY ((0:Int).toNat+i) j))],[cA.o a2,qE],[],0⟩) (fuel':=6) [5] [5,6,98,99,103] [0,1] rfl (by kernel_rfl) (by kernel_rfl) (fun hv=>?_)
         refine bO.conv (Conv.sl 103 (.c (cA.tree ((a2.fY.drop (0:Int).toNat).take ((r4:Int).toNat - (0:Int).toNat)))) (eA.c (El.qQ cA _ (vY (hv _ (List.Mem.head _)))))) ?_
         refine bO.cM (fuel':=5) 6 (by kernel_rfl) ?_
         refine cF.cG (t:=104) 6 [] rfl (by kernel_rfl) (aTd a0 a1 ((a2.fY.drop (0:Int).toNat).take ((r4:Int).toNat - (0:Int).toNat))) (fun mI=>?_)
         refine bO.v0 (fuel':=0) [7,8,9,10,11] [5,6,13,14] [0,1] ?_
         refine bO.done (by kernel_rfl) ?_
         refine Ref.ck ⟨[sP 5 0 0 0,sP 6 1 0 0,(13,.c (fX.tree mI.1)),sI 14 mI.2],[cA.o a2,qE],[],0⟩ [5,6,13,14] [0,1] ?_
         exact hk mI)))))
  ·
   intro a0 a1 a2 a3
   refine bS.it Tryz.f228 (fun r=>⟨[sP 8 0 0 0,sI 9 r.2],[.cells (fX.cs r.1)],[],0⟩) ?_
   rw[aI1]
   exact Ref.pt (
    .bk 0 (fun u6=>⟨[sP 8 0 0 0],[qE],[],0⟩) (
     .ite _ (
      .bk 1 (fun u8=>⟨[sP 8 0 0 0],[qE],[],0⟩) (
       .jn (fun u9=>⟨[sP 7 0 0 0,sP 8 1 0 0,sI 20 a3.cQ.bP,sB 21 u9],[eN.o a3,qE],[],0⟩) (
        .ite _ (
         .nil [3,4] _) (
         .nil [3,4] _)) fun u9 =>
       .ite _ (
        .ret [1] _) (
        .ite _ (
         .ret [1] _) (
         .ite _ (
          .ret [1] _) (
          .nil [1] _)))) fun u8 =>
      .nil [0] _) (
      .ite _ (
       .ite _ (
        .ret [4] _) (
        .esc [0,1,2,4] [(cd (bd Tryz.f228) [1,1,0,1,0,1,1,1,0,1,0]),(cd (bd Tryz.f228) [1,1,0,1,0,1,1,1,0,1,1])] ⟨[sP 4 0 0 0,sP 5 1 0 0,sP 6 2 0 0,sP 8 3 0 0,sB 35 ((a3.cQ.bP:Int) != 4)],jZ a0 a1++[cA.o a2,qE],[],0⟩ (by
         refine Ref.eH 15 (by kernel_rfl) (by kernel_rfl) ?_
         refine dN.eW (cR:=⟨[sP 4 0 0 0,sP 5 1 0 0,sP 8 3 0 0,sP 40 2 0 4],jZ a0 a1++[cA.o a2,qE],[],0⟩) (fuel':=12) [2] [4,5,8,40] [0,1,2,3] rfl (by kernel_rfl) (by kernel_rfl) ?_
         refine dN.qB [6,11] ?_
         refine bO.iA (fun (jY:fL × Int)=>⟨[sP 8 0 0 0,sP 11 1 0 0,sI 12 jY.2],[qE,.cells (fX.cs jY.1)],[],0⟩) (fun (jY:fL × Int)=>(if ((jY.2:Int) != 0)=true then (some (.inl (Sum.inr ((⟨0,0,0,([]:Bytes)⟩:fL),jY.2)))) else (if ((jY.1.bP:Int) == 1)=true then (some (.inl (Sum.inr ((⟨1,0,0,([]:Bytes)⟩:fL),0)))) else (some (.inr ()))))) (fun jY=>?_) (fun hk=>?_)
         ·
          exact Ref.pt (
           .ite _ (
            .ret [0] _) (
            .ite _ (
             .ret [0] _) (
             .nil [0] _)))
         ·
          refine bO.eW (cR:=⟨[sP 8 0 0 0,(38,.agg (dM.cs a0)),(39,.agg (dO.cs a1)),(41,.c (tM a2.fY))],[qE],[],0⟩) (fuel':=9) [0,1,3] [8,38,39,41] [3] rfl (by kernel_rfl) (by kernel_rfl) ?_
          refine bO.conv (Conv.sl 41 (.c (cA.tree a2.fY)) (eA.c (wG _))) ?_
          refine bO.v1 (fuel':=7) [cS 0 a2.fY.length] [4,5] [8,38,39,43] [0] ?_
          refine bO.kV (fuel':=6) 6 10 (by kernel_rfl) ?_ ?_
          ·
           refine cF.cG (t:=44) 6 [] rfl (by kernel_rfl) (aKw a0 a1 (gd a2.fY 0)) (fun jY=>?_)
           refine bO.eW (cR:=⟨sP 8 0 0 0::aDF jY,[qE],[],0⟩) (fuel':=4) [7,8] [8,37,45] [0] rfl (by kernel_rfl) (by kernel_rfl) ?_
           refine bO.iR (fuel':=3) [[],[(9,46)]] [(9,46)] [8,37,45] [0] ⟨sP 8 0 0 0::(aDF jY++[sI 46 jY.2]),[qE],[],0⟩ ?_
           refine cO.cM (fuel':=2) 10 ?_
           refine dB.iY (cR:=⟨sP 8 0 0 0::sP 11 1 0 0::(aDF jY++[sI 46 jY.2]),[qE,qE],[],0⟩) 10 [8,11,37,45,46] [0,1] (by kernel_rfl) (by kernel_rfl) ?_
           refine cO.cM (fuel':=1) 11 ?_
           refine dB.gI (cR:=⟨[sP 8 0 0 0,sP 11 1 0 0,(37,.iT [.agg (fX.cs jY.1),.c (iC jY.2)]),sI 46 jY.2],[qE,.cells (fX.cs jY.1)],[],0⟩) 11 [8,11,37,46] [0,1] (by kernel_rfl) (by kernel_rfl) ?_
           refine cO.close ?_
           refine bO.v0 (fuel':=0) [12] [8,11,12] [0,1] ?_
           refine bO.done (by kernel_rfl) ?_
           refine Ref.ck ⟨[sP 8 0 0 0,sP 11 1 0 0,sI 12 jY.2],[qE,.cells (fX.cs jY.1)],[],0⟩ [8,11,12] [0,1] ?_
           exact hk jY
          ·
           refine cF.a0 10 [8,11,38,39,43] [0,1] ?_
           refine bO.cM (fuel':=5) 6 (by kernel_rfl) ?_
           refine cF.cG (t:=44) 6 [] rfl (by kernel_rfl) (aKw a0 a1 (gd a2.fY 0)) (fun jY=>?_)
           refine bO.eW (cR:=⟨sP 8 0 0 0::sP 11 1 0 0::aDF jY,[qE,qE],[],0⟩) (fuel':=3) [7,8] [8,11,37,45] [0,1] rfl (by kernel_rfl) (by kernel_rfl) ?_
           refine bO.iR (fuel':=2) [[],[(9,46)]] [(9,46)] [8,11,37,45] [0,1] ⟨sP 8 0 0 0::sP 11 1 0 0::(aDF jY++[sI 46 jY.2]),[qE,qE],[],0⟩ ?_
           refine cO.cM (fuel':=1) 11 ?_
           refine dB.gI (cR:=⟨[sP 8 0 0 0,sP 11 1 0 0,(37,.iT [.agg (fX.cs jY.1),.c (iC jY.2)]),sI 46 jY.2],[qE,.cells (fX.cs jY.1)],[],0⟩) 11 [8,11,37,46] [0,1] (by kernel_rfl) (by kernel_rfl) ?_
           refine cO.close ?_
           refine bO.v0 (fuel':=0) [12] [8,11,12] [0,1] ?_
           refine bO.done (by kernel_rfl) ?_
           refine Ref.ck ⟨[sP 8 0 0 0,sP 11 1 0 0,sI 12 jY.2],[qE,.cells (fX.cs jY.1)],[],0⟩ [8,11,12] [0,1] ?_
           exact hk jY))) (
       .ite _ (
        .ite _ (
         .ret [4] _) (
         .nil [4] _)) (
        .ite _ (
         .ite _ (
          .ret [4] _) (
          .nil [4] _)) (
         .ite _ (
          .ite _ (
           .ret [4] _) (
           .nil [4] _)) (
          .nil [4] _)))))) fun u6 =>
    .ret [0] _)
theorem aKx (K:Nat) (a0:cZ) (a1:dR) (a2:cL):bS Tryz.prog 220 [.agg (dM.cs a0),.agg (dO.cs a1),.agg (cA.cs a2)] [] (bT (aF2 K a0 a1 a2)) (fun r=>.iT [.agg (fX.cs r.1),.c (.val (.int .i64 r.2))]) (fun r=>[.cells (fX.cs r.1)]):=(aF3 K).1 a0 a1 a2
theorem aRt (K:Nat) (a0:cZ) (a1:dR) (a2:(List cL)):bS Tryz.prog 224 [.agg (dM.cs a0),.agg (dO.cs a1),.c (cA.tree a2)] [] (bT (aEP K a0 a1 a2)) (fun r=>.iT [.c (fX.tree r.1),.c (.val (.int .i64 r.2))]) (fun r=>[]):=(aF3 K).2.1 a0 a1 a2
theorem aAr (K:Nat) (a0:cZ) (a1:dR) (a2:cL):bS Tryz.prog 226 [.agg (dM.cs a0),.agg (dO.cs a1),.agg (cA.cs a2)] [] (bT (aCh K a0 a1 a2)) (fun r=>.iT [.agg (fX.cs r.1),.c (.val (.int .i64 r.2))]) (fun r=>[.cells (fX.cs r.1)]):=(aF3 K).2.2.1 a0 a1 a2
def aI2 (K:Nat) (a0:cZ) (a1:dR) (a2:cL):Option ((Int) ⊕ (Int)) :=
 ((bT (aCh K a0 a1 a2)).bind (fun r1=>(bN (((r1.2:Int) == 0) && ((r1.1.bP:Int) != 2)) (fun (x2:Bool)=>(if x2=true then (some (.inl (14))) else (some (.inl (r1.2))))))))
theorem aKy (K:Nat) (a0:cZ) (a1:dR) (a2:cL):bS Tryz.prog 221 [.agg (dM.cs a0),.agg (dO.cs a1),.agg (cA.cs a2)] [] (bT (aI2 K a0 a1 a2)) (fun r=>.c (.val (.int .i64 r))) (fun r=>[]):=by
 refine bS.it Tryz.f221 (fun r=>⟨[sI 6 r],[],[],0⟩) ?_
 unfold aI2
 exact Ref.pt (
  .call [] (aAr _ _ _ _) fun r1 =>
  .lt _ fun x2 =>
  .ite _ (
   .ret [] _) (
   .ret [] _))
def aN7 (K:Nat) (a0:cZ) (a1:dR) (a2:cJ):Option ((Int) ⊕ (Int)) :=
 (bL (if (decide ((a1.dD:Int) ≥ 0))=true then (bW [cS a1.c8 a0.bK.length,cS a1.dD ((a0.bK.getD (a1.c8:Int).toNat default).bM).length] (some (.inr (((((a0.bK.getD (a1.c8:Int).toNat default).bM).getD (a1.dD:Int).toNat default).fG).bP,((((a0.bK.getD (a1.c8:Int).toNat default).bM).getD (a1.dD:Int).toNat default).fG).fLo,((((a0.bK.getD (a1.c8:Int).toNat default).bM).getD (a1.dD:Int).toNat default).fG).fHi,((((a0.bK.getD (a1.c8:Int).toNat default).bM).getD (a1.dD:Int).toNat default).fG).cC)))) else (some (.inr (0,0,0,([]:Bytes))))) (fun (u1:Int × Int × Int × Bytes)=>(if (((Int.ofNat a2.cT.length):Int) == 0)=true then (if ((u1.1:Int) != 0)=true then (some (.inl (14))) else (some (.inl (0)))) else (bW [cS 0 a2.cT.length] ((bT (aCh K a0 a1 (a2.cT.getD (0:Int).toNat default))).bind (fun r2=>(if ((r2.2:Int) != 0)=true then (some (.inl (r2.2))) else ((cH (!((u1.1:Int) == 0)) (bT (aFX K a0 (⟨u1.1,u1.2.1,u1.2.2.1,u1.2.2.2⟩:fL) r2.1)) default).bind (fun r4=>(if (((u1.1:Int) == 0) || (!r4))=true then (some (.inl (14))) else (some (.inl (0)))))))))))))
abbrev s4 (v0:cZ) (v1:Int × Int × Int × Bytes):List Go.Dl.Obj:=[.cells (dM.cs v0),.cells [iC v1.1,iC v1.2.1,iC v1.2.2.1,.str v1.2.2.2]]
abbrev aDH (v0:fL × Int):List (Nat × D):=[sP 3 0 0 0,sP 7 1 0 0,sP 8 2 0 0,(33,.iT [.agg (fX.cs v0.1),.c (iC v0.2)])]
theorem aRu (K:Nat) (a0:cZ) (a1:dR) (a2:cJ):bS Tryz.prog 223 [.agg (dM.cs a0),.agg (dO.cs a1),.agg (dJ.cs a2)] [] (bT (aN7 K a0 a1 a2)) (fun r=>.c (.val (.int .i64 r))) (fun r=>[]):=by
 refine bS.it Tryz.f223 (fun r=>⟨[sI 6 r],[],[],0⟩) ?_
 unfold aN7
 exact Ref.pt (
  .jn (fun u1=>⟨[sP 3 0 0 0,sP 4 1 0 0,sP 5 2 0 0,sP 7 3 0 0],[.cells (dM.cs a0),.cells (dO.cs a1),dJ.o a2,.cells [iC u1.1,iC u1.2.1,iC u1.2.2.1,.str u1.2.2.2]],[],0⟩) (
   .ite _ (
    .ex [0,2,7] <|
    .tx [12] <|
    .lT [1,3,4,5,6,8,9,10,11] _ <|
    .tl [12] <|
    .nil [0,1,2,3] _) (
    .nil [0,1,2,3] _)) fun u1 =>
  .ite _ (
   .ite _ (
    .ret [] _) (
    .ret [] _)) (
   .esc [0,1,2,3] [(cd (bd Tryz.f223) [1,1,1,1,0]),(cd (bd Tryz.f223) [1,1,1,1,1])] ⟨[sP 3 0 0 0,sP 4 1 0 0,sP 5 2 0 0,sP 7 3 0 0,sB 29 ((Int.ofNat a2.cT.length) == 0)],[.cells (dM.cs a0),.cells (dO.cs a1),dJ.o a2,.cells [iC u1.1,iC u1.2.1,iC u1.2.2.1,.str u1.2.2.2]],[],0⟩ (by
    refine Ref.eH 8 (by kernel_rfl) (by kernel_rfl) ?_
    refine dN.eW (cR:=⟨[sP 3 0 0 0,sP 4 1 0 0,sP 7 3 0 0,sP 36 2 0 3],[.cells (dM.cs a0),.cells (dO.cs a1),dJ.o a2,.cells [iC u1.1,iC u1.2.1,iC u1.2.2.1,.str u1.2.2.2]],[],0⟩) (fuel':=12) [2] [3,4,7,36] [0,1,2,3] rfl (by kernel_rfl) (by kernel_rfl) ?_
    refine dN.qB [6,11] ?_
    refine bO.iA (fun (r2:fL × Int)=>⟨[sP 3 0 0 0,sP 7 1 0 0,sP 8 2 0 0,sI 9 r2.2],s4 a0 u1++[.cells (fX.cs r2.1)],[],0⟩) (fun (r2:fL × Int)=>(if ((r2.2:Int) != 0)=true then (some (.inl (r2.2))) else ((cH (!((u1.1:Int) == 0)) (bT (aFX K a0 (⟨u1.1,u1.2.1,u1.2.2.1,u1.2.2.2⟩:fL) r2.1)) default).bind (fun r4=>(if (((u1.1:Int) == 0) || (!r4))=true then (some (.inl (14))) else (some (.inl (0)))))))) (fun r2=>?_) (fun hk=>?_)
    ·
     exact Ref.pt (
      .ite _ (
       .ret [] _) (
       .look (default:Bool) _ [] (aFY K a0 (⟨u1.1,u1.2.1,u1.2.2.1,u1.2.2.2⟩:fL) r2.1) (fun _=>rfl) fun r4 =>
       .ite _ (
        .ret [] _) (
        .ret [] _)))
    ·
     refine bO.v0 (fuel':=9) [0,1,3] [3,7,34,35,37] [0,3] ?_
     refine bO.v1 (fuel':=7) [cS 0 a2.cT.length] [4,5] [3,7,34,35,39] [0,1] ?_
     refine bO.kV (fuel':=6) 6 10 (by kernel_rfl) ?_ ?_
     ·
      refine cF.cG (t:=40) 6 [] rfl (by kernel_rfl) (aAr K a0 a1 (gd a2.cT 0)) (fun r2=>?_)
      refine bO.eW (cR:=⟨[sP 3 0 0 0,sP 7 1 0 0,(33,.iT [.agg (fX.cs r2.1),.c (iC r2.2)]),(41,.agg (fX.cs r2.1))],s4 a0 u1,[],0⟩) (fuel':=4) [7,8] [3,7,33,41] [0,1] rfl (by kernel_rfl) (by kernel_rfl) ?_
      refine bO.iR (fuel':=3) [[],[(9,42)]] [(9,42)] [3,7,33,41] [0,1] ⟨[sP 3 0 0 0,sP 7 1 0 0,(33,.iT [.agg (fX.cs r2.1),.c (iC r2.2)]),(41,.agg (fX.cs r2.1)),sI 42 r2.2],s4 a0 u1,[],0⟩ ?_
      refine cO.cM (fuel':=2) 10 ?_
      refine dB.iY (cR:=⟨aDH r2++[(41,.agg (fX.cs r2.1)),sI 42 r2.2],s4 a0 u1++[qE],[],0⟩) 10 [3,7,8,33,41,42] [0,1,2] (by kernel_rfl) (by kernel_rfl) ?_
      refine cO.cM (fuel':=1) 11 ?_
      refine dB.gI (cR:=⟨aDH r2++[sI 42 r2.2],s4 a0 u1++[.cells (fX.cs r2.1)],[],0⟩) 11 [3,7,8,33,42] [0,1,2] (by kernel_rfl) (by kernel_rfl) ?_
      refine cO.close ?_
      refine bO.v0 (fuel':=0) [12] [3,7,8,9] [0,1,2] ?_
      refine bO.done (by kernel_rfl) ?_
      refine Ref.ck ⟨[sP 3 0 0 0,sP 7 1 0 0,sP 8 2 0 0,sI 9 r2.2],s4 a0 u1++[.cells (fX.cs r2.1)],[],0⟩ [3,7,8,9] [0,1,2] ?_
      exact hk r2
     ·
      refine cF.a0 10 [3,7,8,34,35,39] [0,1,2] ?_
      refine bO.cM (fuel':=5) 6 (by kernel_rfl) ?_
      refine cF.cG (t:=40) 6 [] rfl (by kernel_rfl) (aAr K a0 a1 (gd a2.cT 0)) (fun r2=>?_)
      refine bO.eW (cR:=⟨aDH r2++[(41,.agg (fX.cs r2.1))],s4 a0 u1++[qE],[],0⟩) (fuel':=3) [7,8] [3,7,8,33,41] [0,1,2] rfl (by kernel_rfl) (by kernel_rfl) ?_
      refine bO.iR (fuel':=2) [[],[(9,42)]] [(9,42)] [3,7,8,33,41] [0,1,2] ⟨aDH r2++[(41,.agg (fX.cs r2.1)),sI 42 r2.2],s4 a0 u1++[qE],[],0⟩ ?_
      refine cO.cM (fuel':=1) 11 ?_
      refine dB.gI (cR:=⟨aDH r2++[sI 42 r2.2],s4 a0 u1++[.cells (fX.cs r2.1)],[],0⟩) 11 [3,7,8,33,42] [0,1,2] (by kernel_rfl) (by kernel_rfl) ?_
      refine cO.close ?_
      refine bO.v0 (fuel':=0) [12] [3,7,8,9] [0,1,2] ?_
      refine bO.done (by kernel_rfl) ?_
      refine Ref.ck ⟨[sP 3 0 0 0,sP 7 1 0 0,sP 8 2 0 0,sI 9 r2.2],s4 a0 u1++[.cells (fX.cs r2.1)],[],0⟩ [3,7,8,9] [0,1,2] ?_
      exact hk r2)))
def aN8 (K:Nat) (a0:cJ):Option ((Bool) ⊕ (Bool)) :=
 (if ((a0.bP:Int) == 6)=true then (bL (bJ ((iter K (fun (dU:Int)=>(bN (decide ((dU:Int)<(Int.ofNat a0.eL.length))) (fun (l4:Bool)=>(if l4=true then (bL (bJ (bW [cS dU a0.eL.length] (bN (((Int.ofNat (a0.eL.getD (dU:Int).toNat default).length):Int) == 0) (fun (x31:Bool)=>(if x31=true then (some (.inl (Sum.inr (Sum.inr (false))))) else (some (.inr ()))))))) (fun (eY:Unit)=>(some (.inr ((IntKind.i64.wrap (dU+1))))))) else (some (.inl (Sum.inl ()))))))) (0)).map .inl)) (fun (u16:Unit)=>(bN ((((Int.ofNat a0.cT.length):Int) == 1) && (((Int.ofNat a0.bY.length):Int) == (IntKind.i64.wrap ((Int.ofNat a0.eL.length)+1)))) (fun (x32:Bool)=>(some (.inl (x32))))))) else (bN (decide (((Int.ofNat a0.eL.length):Int) > 0)) (fun (x33:Bool)=>(if x33=true then (some (.inl (false))) else (bL (bJ (bL (if ((a0.bP:Int) == 1)=true then (some (.inr (((a0.bP:Int) == 1)))) else (some (.inr (((a0.bP:Int) == 3))))) (fun (u46:Bool)=>(if u46=true then (bN ((((Int.ofNat a0.cT.length):Int) == 1) && (((Int.ofNat a0.bY.length):Int) == 0)) (fun (x47:Bool)=>(some (.inl (Sum.inr (x47)))))) else (bL (if ((a0.bP:Int) == 2)=true then (some (.inr (((a0.bP:Int) == 2)))) else (some (.inr (((a0.bP:Int) == 11))))) (fun (gX:Bool)=>(if gX=true then (bN ((((Int.ofNat a0.cT.length):Int) == 2) && (((Int.ofNat a0.bY.length):Int) == 0)) (fun (x49:Bool)=>(some (.inl (Sum.inr (x49)))))) else (if ((a0.bP:Int) == 4)=true then (bN ((((Int.ofNat a0.cT.length):Int) == 1) && (((Int.ofNat a0.bY.length):Int) == 0)) (fun (x50:Bool)=>(bW [!x50 || cS 0 a0.cT.length] (bN (x50 && ((((a0.cT.getD (0:Int).toNat default).bP):Int) == 13)) (fun (x51:Bool)=>(some (.inl (Sum.inr (x51))))))))) else (if ((a0.bP:Int) == 5)=true then (bN ((decide (((Int.ofNat a0.cT.length):Int) ≥ 1)) && (((Int.ofNat a0.bY.length):Int) == (IntKind.i64.wrap ((Int.ofNat a0.cT.length)+1)))) (fun (x52:Bool)=>(some (.inl (Sum.inr (x52)))))) else (if ((a0.bP:Int) == 7)=true then (bN ((((Int.ofNat a0.cT.length):Int) == 1) && (((Int.ofNat a0.bY.length):Int) == 1)) (fun (x53:Bool)=>(some (.inl (Sum.inr (x53)))))) else (if ((a0.bP:Int) == 8)=true then (bN ((((Int.ofNat a0.cT.length):Int) == 2) && (((Int.ofNat a0.bY.length):Int) == 1)) (fun (x54:Bool)=>(some (.inl (Sum.inr (x54)))))) else (if ((a0.bP:Int) == 9)=true then (bN ((decide (((Int.ofNat a0.cT.length):Int)≤1)) && (((Int.ofNat a0.bY.length):Int) == 0)) (fun (x55:Bool)=>(some (.inl (Sum.inr (x55)))))) else (if ((a0.bP:Int) == 10)=true then (bN ((((Int.ofNat a0.cT.length):Int) == 0) && (((Int.ofNat a0.bY.length):Int) == 0)) (fun (x56:Bool)=>(some (.inl (Sum.inr (x56)))))) else (some (.inr ()))))))))))))))) (fun (u45:Unit)=>(some (.inl (false)))))))))
theorem aRv (K:Nat) (a0:cJ):bS Tryz.prog 218 [.agg (dJ.cs a0)] [] (bT (aN8 K a0)) (fun r=>.c (.val (.bool r))) (fun r=>[]):=by
 refine bS.it Tryz.f218 (fun r=>⟨[sB 2 r],[],[],0⟩) ?_
 unfold aN8
 exact Ref.pt (
  .ex [0,3,6] <|
  .tx [] <|
  .ex [1,2,4,5,7,8,9,10,11] <|
  .ite _ (
   .bk 0 (fun u16=>⟨[sI 3 (Int.ofNat a0.cT.length),sI 4 (Int.ofNat a0.bY.length),sI 5 (Int.ofNat a0.eL.length)],[],[],0⟩) (
    .lp [0] (fun dU=>⟨[sP 1 0 0 0,sI 3 (Int.ofNat a0.cT.length),sI 4 (Int.ofNat a0.bY.length),sI 5 (Int.ofNat a0.eL.length),sI 6 dU],[dJ.o a0],[],0⟩) fun dU =>
    .lt _ fun l4 =>
    .ite _ (
     .bk 1 (fun eY=>⟨[sP 1 0 0 0,sI 3 (Int.ofNat a0.cT.length),sI 4 (Int.ofNat a0.bY.length),sI 5 (Int.ofNat a0.eL.length),sI 6 dU],[dJ.o a0],[],0⟩) (
      .ck _ <|
      .lt _ fun x31 =>
      .ite _ (
       .ret [] _) (
       .nil [0] _)) fun eY =>
     .nil [0] _) (
     .ret [] _)) fun u16 =>
   .lt _ fun x32 =>
   .ret [] _) (
   .lt _ fun x33 =>
   .ite _ (
    .ret [] _) (
    .bk 2 (fun u45=>⟨[],[],[],0⟩) (
     .jn (fun u46=>⟨[sP 1 0 0 0,sI 3 (Int.ofNat a0.cT.length),sI 4 (Int.ofNat a0.bY.length),sI 42 a0.bP,sB 43 u46],[dJ.o a0],[],0⟩) (
      .ite _ (
       .nil [0] _) (
       .nil [0] _)) fun u46 =>
     .ite _ (
      .lt _ fun x47 =>
      .ret [] _) (
      .jn (fun gX=>⟨[sP 1 0 0 0,sI 3 (Int.ofNat a0.cT.length),sI 4 (Int.ofNat a0.bY.length),sI 42 a0.bP,sB 52 gX],[dJ.o a0],[],0⟩) (
       .ite _ (
        .nil [0] _) (
        .nil [0] _)) fun gX =>
      .ite _ (
       .lt _ fun x49 =>
       .ret [] _) (
       .ite _ (
        .lt _ fun x50 =>
        .ck _ <|
        .lt _ fun x51 =>
        .ret [] _) (
        .ite _ (
         .lt _ fun x52 =>
         .ret [] _) (
         .ite _ (
          .lt _ fun x53 =>
          .ret [] _) (
          .ite _ (
           .lt _ fun x54 =>
           .ret [] _) (
           .ite _ (
            .lt _ fun x55 =>
            .ret [] _) (
            .ite _ (
             .lt _ fun x56 =>
             .ret [] _) (
             .nil [] _))))))))) fun u45 =>
    .ret [] _)))
end Go.Proofs.YtdbfbedholdjaaaGreat
