/- No conditions. -/
import Derived.Test.YtdbfbedholdjaaaGreatPLA
import Derived.Test.YtdbfbedholdjaaaGreatProg
set_option linter.unusedVariables false
set_option linter.unusedSimpArgs false
set_option linter.unusedSectionVars false
namespace Go.Proofs.YtdbfbedholdjaaaGreat
open Go Go.Proofs Go.Dl
variable [dW]
set_option maxRecDepth 100000
set_option maxHeartbeats 4000000
def F45 (K:Nat) (a0:cZ) (a1:Int):Option ((Int) ⊕ (Int)) :=
 (bN ((decide ((a1:Int)<0)) || (decide ((a1:Int) ≥ (Int.ofNat a0.bK.length)))) (fun (x1:Bool)=>(if x1=true then (some (.inl (0))) else (bW [cS a1 a0.bK.length] (bN ((a0.bK.getD (a1:Int).toNat default).bP) (fun (x2:Int)=>(some (.inl (x2)))))))))
theorem aFn (K:Nat) (a0:cZ) (a1:Int):bS Tryz.prog 45 [.agg (dM.cs a0),.c (.val (.int .i64 a1))] [] (bT (F45 K a0 a1)) (fun r=>.c (.val (.int .i64 r))) (fun r=>[]):=by
 refine bS.it Tryz.f45 (fun r=>⟨[sI 4 r],[],[],0⟩) ?_
 unfold F45
 exact Ref.pt (
  .lt _ fun x1 =>
  .ite _ (
   .ret [] _) (
   .ck _ <|
   .lt _ fun x2 =>
   .ret [] _))
def F50 (K:Nat) (a0:cZ) (a1:Int) (a2:Int):Option ((Bool) ⊕ (Bool)) :=
 (bW [!((decide ((a1:Int) ≥ 0)) && (decide ((a1:Int)<(Int.ofNat a0.bK.length)))) || cS a1 a0.bK.length] (bN (((decide ((a1:Int) ≥ 0)) && (decide ((a1:Int)<(Int.ofNat a0.bK.length)))) && ((((a0.bK.getD (a1:Int).toNat default).bP):Int) == a2)) (fun (x1:Bool)=>(some (.inl (x1))))))
theorem aF6 (K:Nat) (a0:cZ) (a1:Int) (a2:Int):bS Tryz.prog 50 [.agg (dM.cs a0),.c (.val (.int .i64 a1)),.c (.val (.int .i64 a2))] [] (bT (F50 K a0 a1 a2)) (fun r=>.c (.val (.bool r))) (fun r=>[]):=by
 refine bS.it Tryz.f50 (fun r=>⟨[sB 6 r],[],[],0⟩) ?_
 unfold F50
 exact Ref.pt (
  .ck _ <|
  .lt _ fun x1 =>
  .ret [] _)
def F47 (K:Nat) (a0:cZ) (a1:Int) (a2:Int):Option ((Int) ⊕ (Int)) :=
 ((bT (F50 K a0 a1 a2)).bind (fun r1=>(if (!r1)=true then (some (.inl ((-1)))) else (bW [cW a0.bK.length 0 a1] (bN ((a0.bK.drop (0:Int).toNat).take ((a1:Int).toNat - (0:Int).toNat)) (fun (x2:(List jG))=>(bL (bJ ((iter K (fun (dU:Int × Int)=>(bN (decide ((dU.2:Int)<(Int.ofNat x2.length))) (fun (l4:Bool)=>(if l4=true then (bL (bJ (bW [cS dU.2 x2.length] (bN ((((x2.getD (dU.2:Int).toNat default).bP):Int) == a2) (fun (x31:Bool)=>(if x31=true then (some (.inr ((IntKind.i64.wrap (dU.1+1))))) else (some (.inr (dU.1)))))))) (fun (eY:Int)=>(some (.inr (eY,(IntKind.i64.wrap (dU.2+1))))))) else (some (.inl (Sum.inl (dU.1)))))))) (0,0)).map .inl)) (fun (gO:Int)=>(some (.inl (gO)))))))))))
theorem aOs (K:Nat) (a0:cZ) (a1:Int) (a2:Int):bS Tryz.prog 47 [.agg (dM.cs a0),.c (.val (.int .i64 a1)),.c (.val (.int .i64 a2))] [] (bT (F47 K a0 a1 a2)) (fun r=>.c (.val (.int .i64 r))) (fun r=>[]):=by
 refine bS.it Tryz.f47 (fun r=>⟨[sI 6 r],[],[],0⟩) ?_
 unfold F47
 exact Ref.pt (
  .call [] (aF6 _ _ _ _) fun r1 =>
  .ite _ (
   .ret [] _) (
   .ckh _ fun hv =>
   .sl 4 2 18 (x:=.c (.tree jR.w ((a1:Int).toNat - (0:Int).toNat) fun i j=>jR.at a0.bK ((0:Int).toNat+i) j)) (y:=(.c (jR.tree ((a0.bK.drop (0:Int).toNat).take ((a1:Int).toNat - (0:Int).toNat))))) (eA.c (El.qQ jR _ (vY (hv _ (List.Mem.head _))))) <|
   .lt _ fun x2 =>
   .bk 0 (fun gO=>⟨[sI 7 gO],[],[],0⟩) (
    .lp [] (fun dU=>⟨[sI 2 a2,sI 7 dU.1,(18,.c (jR.tree x2)),sI 19 (Int.ofNat x2.length),sI 20 dU.2],[],[],0⟩) fun dU =>
    .lt _ fun l4 =>
    .ite _ (
     .bk 1 (fun eY=>⟨[sI 2 a2,sI 7 eY,(18,.c (jR.tree x2)),sI 19 (Int.ofNat x2.length),sI 20 dU.2],[],[],0⟩) (
      .ck _ <|
      .lt _ fun x31 =>
      .ite _ (
       .nil [] _) (
       .nil [] _)) fun eY =>
     .nil [] _) (
     .ret [] _)) fun gO =>
   .ret [] _))
def F11 (K:Nat) (a0:cZ) (a1:Int):Option ((Int) ⊕ (Int)) :=
 ((bT (F47 K a0 a1 2)).bind (fun r1=>(some (.inl (r1)))))
theorem aDU (K:Nat) (a0:cZ) (a1:Int):bS Tryz.prog 11 [.agg (dM.cs a0),.c (.val (.int .i64 a1))] [] (bT (F11 K a0 a1)) (fun r=>.c (.val (.int .i64 r))) (fun r=>[]):=by
 refine bS.it Tryz.f11 (fun r=>⟨[sI 4 r],[],[],0⟩) ?_
 unfold F11
 exact Ref.pt (
  .call [] (aOs _ _ _ _) fun r1 =>
  .ret [] _)
def F83 (K:Nat) (a0:fL):Option ((Bytes) ⊕ (Bytes)) :=
 (if ((a0.bP:Int) == 5)=true then (some (.inl (([114]:Bytes)))) else (some (.inl (([105]:Bytes)))))
theorem aUA (K:Nat) (a0:fL):bS Tryz.prog 83 [.agg (fX.cs a0)] [] (bT (F83 K a0)) (fun r=>.c (.str r)) (fun r=>[]):=by
 refine bS.it Tryz.f83 (fun r=>⟨[sS 2 r],[],[],0⟩) ?_
 unfold F83
 exact Ref.pt (
  .ite _ (
   .ret [] _) (
   .ret [] _))
def F84 (K:Nat) (a0:fL):Option ((Int) ⊕ (Int)) :=
 (bL (bJ (bL (if ((a0.bP:Int) == 6)=true then (some (.inr (((a0.bP:Int) == 6)))) else (some (.inr (((a0.bP:Int) == 7))))) (fun (u3:Bool)=>(if u3=true then (some (.inl (Sum.inr (0)))) else (if ((a0.bP:Int) == 4)=true then (some (.inl (Sum.inr ((eX (IntKind.i64.wrap (a0.fHi+1)) 0))))) else (some (.inr ()))))))) (fun (u2:Unit)=>(some (.inl (1)))))
theorem aF7 (K:Nat) (a0:fL):bS Tryz.prog 84 [.agg (fX.cs a0)] [] (bT (F84 K a0)) (fun r=>.c (.val (.int .i64 r))) (fun r=>[]):=by
 refine bS.it Tryz.f84 (fun r=>⟨[sI 2 r],[],[],0⟩) ?_
 unfold F84
 exact Ref.pt (
  .bk 0 (fun u2=>⟨[],[],[],0⟩) (
   .jn (fun u3=>⟨[sP 1 0 0 0,sI 4 a0.bP,sB 5 u3],[.cells (fX.cs a0)],[],0⟩) (
    .ite _ (
     .nil [0] _) (
     .nil [0] _)) fun u3 =>
   .ite _ (
    .ret [] _) (
    .ite _ (
     .ret [] _) (
     .nil [] _))) fun u2 =>
  .ret [] _)
def F43 (K:Nat) (a0:cZ):Option (((List dR)) ⊕ ((List dR))) :=
 (bL (bJ ((iter K (fun (fP:(List dR) × (List dR) × Int)=>(bN (decide ((fP.2.2:Int)<(Int.ofNat a0.bK.length))) (fun (aXr:Bool)=>(if aXr=true then (bL (bJ (bW [cS fP.2.2 a0.bK.length] (bN ((a0.bK.getD (fP.2.2:Int).toNat default).bP) (fun (aUC:Int)=>(bL (bJ (if ((aUC:Int) == 2)=true then (bN ((a0.bK.getD (fP.2.2:Int).toNat default).bM) (fun (aOt:(List hU))=>(bN (Int.ofNat ((a0.bK.getD (fP.2.2:Int).toNat default).bM).length) (fun (aRE:Int)=>(bL (bJ ((iter K (fun (lM:(List dR) × Int)=>(if (decide ((lM.2:Int)<aRE))=true then (bL (bJ (bW [cS lM.2 aOt.length] (bN (!((aOt.getD (lM.2:Int).toNat default).eV)) (fun (aXs:Bool)=>(if aXs=true then (bW [room ((lM.1.length+([(⟨fP.2.2,lM.2⟩:dR)].length)) * 16)] (some (.inr ((lM.1++[(⟨fP.2.2,lM.2⟩:dR)]))))) else (some (.inr (lM.1)))))))) (fun (aOu:(List dR))=>(some (.inr (aOu,(IntKind.i64.wrap (lM.2+1))))))) else (some (.inl (Sum.inl (lM.1)))))) (fP.1,0)).map .inl)) (fun (aOv:(List dR))=>(some (.inr (aOv,fP.2.1))))))))) else (if ((aUC:Int) == 3)=true then (bW [room ((fP.2.1.length+([(⟨fP.2.2,(-1)⟩:dR)].length)) * 16)] (some (.inr (fP.1,(fP.2.1++[(⟨fP.2.2,(-1)⟩:dR)]))))) else (some (.inr (fP.1,fP.2.1)))))) (fun (aHd:(List dR) × (List dR))=>(some (.inr (aHd.1,aHd.2))))))))) (fun (aBl:(List dR) × (List dR))=>(some (.inr (aBl.1,aBl.2,(IntKind.i64.wrap (fP.2.2+1))))))) else (some (.inl (Sum.inl (fP.1,fP.2.1)))))))) ([],[],0)).map .inl)) (fun (pW:(List dR) × (List dR))=>(bW [room ((pW.1.length+pW.2.length) * 16)] (some (.inl ((pW.1++pW.2)))))))
abbrev aFa (v0:cZ) (v1:(List dR) × (List dR) × Int):List (Nat × D):=[(10,.c (jR.tree v0.bK)),sI 11 (Int.ofNat v0.bK.length),sI 12 v1.2.2]
theorem aOw (K:Nat) (a0:cZ):bS Tryz.prog 43 [.agg (dM.cs a0)] [] (bT (F43 K a0)) (fun r=>.c (dO.tree r)) (fun r=>[]):=by
 refine bS.it Tryz.f43 (fun r=>⟨[(2,.c (dO.tree r))],[],[],0⟩) ?_
 unfold F43
 exact Ref.pt (
  .bk 0 (fun pW=>⟨[(3,.c (.own 0 pW.1.length)),(4,.c (.own 1 pW.2.length))],[dO.row pW.1,dO.row pW.2],[],0⟩) (
   .ad 2 0 3 dO.ty dO.w (dO.at []) <|
   .ad 2 0 4 dO.ty dO.w (dO.at []) <|
   .lp [1,2] (fun fP=>⟨(3,.c (.own 0 fP.1.length))::(4,.c (.own 1 fP.2.1.length))::aFa a0 fP,[dO.row fP.1,dO.row fP.2.1],[],0⟩) fun fP =>
   .lt _ fun aXr =>
   .ite _ (
    .bk 1 (fun aBl=>⟨(3,.c (.own 0 aBl.1.length))::(4,.c (.own 1 aBl.2.length))::aFa a0 fP,[dO.row aBl.1,dO.row aBl.2],[],0⟩) (
     .ck _ <|
     .lt _ fun aUC =>
     .bk 2 (fun aHd=>⟨(3,.c (.own 0 aHd.1.length))::(4,.c (.own 1 aHd.2.length))::aFa a0 fP,[dO.row aHd.1,dO.row aHd.2],[],0⟩) (
      .ite _ (
       .lt _ fun aOt =>
       .lt _ fun aRE =>
       .bk 3 (fun aOv=>⟨(3,.c (.own 0 aOv.length))::(4,.c (.own 1 fP.2.1.length))::aFa a0 fP,[dO.row aOv,dO.row fP.2.1],[],0⟩) (
        .lp [0,1] (fun lM=>⟨(3,.c (.own 0 lM.1.length))::(4,.c (.own 1 fP.2.1.length))::sI 5 fP.2.2::(aFa a0 fP++[(22,.c (kJ.tree aOt)),sI 23 aRE,sI 24 lM.2]),[dO.row lM.1,dO.row fP.2.1],[],0⟩) fun lM =>
        .ite _ (
         .bk 4 (fun aOu=>⟨(3,.c (.own 0 aOu.length))::(4,.c (.own 1 fP.2.1.length))::sI 5 fP.2.2::(aFa a0 fP++[(22,.c (kJ.tree aOt)),sI 23 aRE,sI 24 lM.2]),[dO.row aOu,dO.row fP.2.1],[],0⟩) (
          .ck _ <|
          .lt _ fun aXs =>
          .ite _ (
           .ob 11 2 3 (x:=.row 66 2 1 (gY [[iC fP.2.2,iC lM.2]])) (y:=(dO.row [(⟨fP.2.2,lM.2⟩:dR)])) (El.bZ dO [(⟨fP.2.2,lM.2⟩:dR)] rfl (by kernel_rfl)) <|
           .sl 11 2 36 (x:=.c (.own 3 1)) (y:=(.c (.own 3 ([(⟨fP.2.2,lM.2⟩:dR)].length)))) (eA.c (dY.own (by first | (simp;done) | (simp;omega) | omega))) <|
           .ck _ <|
           .ob 11 1 4 (x:=.row 66 2 (lM.1.length+([(⟨fP.2.2,lM.2⟩:dR)].length)) fun i j=>bif Nat.blt i lM.1.length then dO.at lM.1 i j else (dO.at [(⟨fP.2.2,lM.2⟩:dR)]) (i - lM.1.length) j) (y:=(dO.row (lM.1++[(⟨fP.2.2,lM.2⟩:dR)]))) (El.cI dO lM.1 [(⟨fP.2.2,lM.2⟩:dR)] rfl rfl) <|
           .sl 11 1 37 (x:=.c (.own 4 (lM.1.length+([(⟨fP.2.2,lM.2⟩:dR)].length)))) (y:=(.c (.own 4 ((lM.1++[(⟨fP.2.2,lM.2⟩:dR)]).length)))) (eA.c (dY.own (by first | (simp;done) | (simp;omega) | omega))) <|
           .nil [4,1] _) (
           .nil [0,1] _)) fun aOu =>
         .nil [0,1] _) (
         .ret [0,1] _)) fun aOv =>
       .nil [0,1] _) (
       .ite _ (
        .ob 14 2 3 (x:=.row 66 2 1 (gY [[iC fP.2.2,iC (-1)]])) (y:=(dO.row [(⟨fP.2.2,(-1)⟩:dR)])) (El.bZ dO [(⟨fP.2.2,(-1)⟩:dR)] rfl (by kernel_rfl)) <|
        .sl 14 2 44 (x:=.c (.own 3 1)) (y:=(.c (.own 3 ([(⟨fP.2.2,(-1)⟩:dR)].length)))) (eA.c (dY.own (by first | (simp;done) | (simp;omega) | omega))) <|
        .ck _ <|
        .ob 14 1 4 (x:=.row 66 2 (fP.2.1.length+([(⟨fP.2.2,(-1)⟩:dR)].length)) fun i j=>bif Nat.blt i fP.2.1.length then dO.at fP.2.1 i j else (dO.at [(⟨fP.2.2,(-1)⟩:dR)]) (i - fP.2.1.length) j) (y:=(dO.row (fP.2.1++[(⟨fP.2.2,(-1)⟩:dR)]))) (El.cI dO fP.2.1 [(⟨fP.2.2,(-1)⟩:dR)] rfl rfl) <|
        .sl 14 1 45 (x:=.c (.own 4 (fP.2.1.length+([(⟨fP.2.2,(-1)⟩:dR)].length)))) (y:=(.c (.own 4 ((fP.2.1++[(⟨fP.2.2,(-1)⟩:dR)]).length)))) (eA.c (dY.own (by first | (simp;done) | (simp;omega) | omega))) <|
        .nil [0,4] _) (
        .nil [0,1] _))) fun aHd =>
     .nil [0,1] _) fun aBl =>
    .nil [0,1] _) (
    .ret [0,1] _)) fun pW =>
  .ck _ <|
  .ob 16 1 2 (x:=.row 66 2 (pW.1.length+pW.2.length) fun i j=>bif Nat.blt i pW.1.length then dO.at pW.1 i j else (dO.at pW.2) (i - pW.1.length) j) (y:=(dO.row (pW.1++pW.2))) (El.cI dO pW.1 pW.2 rfl rfl) <|
  .sl 16 1 49 (x:=.c (.own 2 (pW.1.length+pW.2.length))) (y:=(.c (.own 2 ((pW.1++pW.2).length)))) (eA.c (dY.own (by first | (simp;done) | (simp;omega) | omega))) <|
  .fz 16 0 2 <|
  .ret [] _)
def F57 (K:Nat) (a0:(List dR)) (a1:dR):Option ((Int) ⊕ (Int)) :=
 (bL (bJ ((iter K (fun (jF:Int)=>(bN (decide ((jF:Int)<(Int.ofNat a0.length))) (fun (y7:Bool)=>(if y7=true then (bL (bJ (bW [cS jF a0.length] (bN (((a1.c8:Int) == ((a0.getD (jF:Int).toNat default).c8)) && (((a1.dD:Int) == ((a0.getD (jF:Int).toNat default).dD)) && true)) (fun (iU:Bool)=>(if iU=true then (some (.inl (Sum.inr (Sum.inr (jF))))) else (some (.inr ()))))))) (fun (gU:Unit)=>(some (.inr ((IntKind.i64.wrap (jF+1))))))) else (some (.inl (Sum.inl ()))))))) (0)).map .inl)) (fun (wD:Unit)=>(some (.inl ((-1))))))
theorem aUD (K:Nat) (a0:(List dR)) (a1:dR):bS Tryz.prog 57 [.c (dO.tree a0),.agg (dO.cs a1)] [] (bT (F57 K a0 a1)) (fun r=>.c (.val (.int .i64 r))) (fun r=>[]):=by
 refine bS.it Tryz.f57 (fun r=>⟨[sI 4 r],[],[],0⟩) ?_
 unfold F57
 exact Ref.pt (
  .bk 0 (fun wD=>⟨[],[],[],0⟩) (
   .lp [0] (fun jF=>⟨[(0,.c (dO.tree a0)),sP 3 0 0 0,sI 7 (Int.ofNat a0.length),sI 8 jF],[.cells (dO.cs a1)],[],0⟩) fun jF =>
   .lt _ fun y7 =>
   .ite _ (
    .bk 1 (fun gU=>⟨[(0,.c (dO.tree a0)),sP 3 0 0 0,sI 7 (Int.ofNat a0.length),sI 8 jF],[.cells (dO.cs a1)],[],0⟩) (
     .lT [1,2,3] _ <|
     .tx [] <|
     .ex [0,4,5] <|
     .lt _ fun iU =>
     .ite _ (
      .ret [] _) (
      .nil [0] _)) fun gU =>
    .nil [0] _) (
    .ret [] _)) fun wD =>
  .ret [] _)
def F19 (K:Nat) (a0:cZ) (a1:dR):Option ((Int) ⊕ (Int)) :=
 ((bT (F43 K a0)).bind (fun r3=>((cH true (bT (F57 K r3 a1)) default).bind (fun r4=>(some (.inl (r4)))))))
theorem aI7 (K:Nat) (a0:cZ) (a1:dR):bS Tryz.prog 19 [.agg (dM.cs a0),.agg (dO.cs a1)] [] (bT (F19 K a0 a1)) (fun r=>.c (.val (.int .i64 r))) (fun r=>[]):=by
 refine bS.it Tryz.f19 (fun r=>⟨[sI 4 r],[],[],0⟩) ?_
 unfold F19
 exact Ref.pt (
  .esc [0,1] [(cd (bd Tryz.f19) [1,0]),(cd (bd Tryz.f19) [1,1])] ⟨[sP 2 0 0 0,sP 3 1 0 0],[.cells (dM.cs a0),.cells (dO.cs a1)],[],0⟩ (by
   refine Ref.eH 1 (by kernel_rfl) (by kernel_rfl) ?_
   refine dN.qB [1] ?_
   refine bO.eW (cR:=⟨[sP 3 0 0 0,(5,.agg (dM.cs a0))],[.cells (dO.cs a1)],[],0⟩) (fuel':=4) [0] [3,5] [1] rfl (by kernel_rfl) (by kernel_rfl) ?_
   refine bO.iR (fuel':=3) [[],[(2,7)]] [(2,7)] [3,5] [0] ⟨[sP 3 0 0 0,(5,.agg (dM.cs a0)),(7,.agg (dO.cs a1))],[.cells (dO.cs a1)],[],0⟩ ?_
   refine cO.cM (fuel':=2) 1 ?_
   refine dB.cG (t:=6) 1 [] rfl (by kernel_rfl) (aOw K a0) (fun r3=>?_)
   refine cO.close ?_
   refine bO.lC (t:=8) (g:=[]) (b:=true) (fuel':=1) 3 [] (default:Int) rfl (by kernel_rfl) (by kernel_rfl) (aUD K r3 a1) (fun _=>rfl) (fun r4=>?_)
   refine bO.eW (cR:=⟨[sI 4 r4],[],[],0⟩) (fuel':=0) [4] [4] [] rfl (by kernel_rfl) (by kernel_rfl) ?_
   refine bO.done (by kernel_rfl) ?_
   exact Ref.pt (
    .ret [] _)))
def F55 (K:Nat) (a0:cZ):Option (((List Int)) ⊕ ((List Int))) :=
 (bL (bJ ((iter K (fun (dU:(List Int) × Int)=>(bN (decide ((dU.2:Int)<(Int.ofNat a0.bK.length))) (fun (l4:Bool)=>(if l4=true then (bL (bJ ((bT (F50 K a0 dU.2 3)).bind (fun xF=>(if xF=true then (bW [room ((dU.1.length+([dU.2].length)) * 8)] (some (.inr ((dU.1++[dU.2]))))) else (some (.inr (dU.1))))))) (fun (eY:(List Int))=>(some (.inr (eY,(IntKind.i64.wrap (dU.2+1))))))) else (some (.inl (Sum.inl (dU.1)))))))) ([],0)).map .inl)) (fun (u16:(List Int))=>(some (.inl (u16)))))
theorem aOx (K:Nat) (a0:cZ):bS Tryz.prog 55 [.agg (dM.cs a0)] [] (bT (F55 K a0)) (fun r=>.c (E3.tree r)) (fun r=>[]):=by
 refine bS.it Tryz.f55 (fun r=>⟨[(2,.c (E3.tree r))],[],[],0⟩) ?_
 unfold F55
 exact Ref.pt (
  .bk 0 (fun u16=>⟨[(3,.c (.own 0 u16.length))],[E3.row u16],[],0⟩) (
   .ad 2 0 3 E3.ty E3.w (E3.at []) <|
   .lp [0,1] (fun dU=>⟨[sP 1 0 0 0,(3,.c (.own 1 dU.1.length)),sI 7 (Int.ofNat a0.bK.length),sI 8 dU.2],[.cells (dM.cs a0),E3.row dU.1],[],0⟩) fun dU =>
   .lt _ fun l4 =>
   .ite _ (
    .bk 1 (fun eY=>⟨[sP 1 0 0 0,(3,.c (.own 1 eY.length)),sI 7 (Int.ofNat a0.bK.length),sI 8 dU.2],[.cells (dM.cs a0),E3.row eY],[],0⟩) (
     .call [] (aF6 _ _ _ _) fun xF =>
     .ite _ (
      .ob 6 2 2 (x:=.row 3 1 1 (gY [[iC dU.2]])) (y:=(E3.row [dU.2])) (El.bZ E3 [dU.2] rfl (by kernel_rfl)) <|
      .sl 6 2 16 (x:=.c (.own 2 1)) (y:=(.c (.own 2 ([dU.2].length)))) (eA.c (dY.own (by first | (simp;done) | (simp;omega) | omega))) <|
      .ck _ <|
      .ob 6 1 3 (x:=.row 3 1 (dU.1.length+([dU.2].length)) fun i j=>bif Nat.blt i dU.1.length then E3.at dU.1 i j else (E3.at [dU.2]) (i - dU.1.length) j) (y:=(E3.row (dU.1++[dU.2]))) (El.cI E3 dU.1 [dU.2] rfl rfl) <|
      .sl 6 1 17 (x:=.c (.own 3 (dU.1.length+([dU.2].length)))) (y:=(.c (.own 3 ((dU.1++[dU.2]).length)))) (eA.c (dY.own (by first | (simp;done) | (simp;omega) | omega))) <|
      .nil [0,3] _) (
      .nil [0,1] _)) fun eY =>
    .nil [0,1] _) (
    .ret [1] _)) fun u16 =>
  .fz 8 0 0 <|
  .ret [] _)
def F37 (K:Nat) (a0:cZ):Option (((List fE)) ⊕ ((List fE))) :=
 ((bT (F55 K a0)).bind (fun r1=>(bL (bJ ((iter K (fun (lV:(List fE) × Int)=>(bN (decide ((lV.2:Int)<(Int.ofNat r1.length))) (fun (x27:Bool)=>(if x27=true then (bL (bJ (bW [cS lV.2 r1.length] (bW [cS (r1.getD (lV.2:Int).toNat default) a0.bK.length] (bN ((a0.bK.getD ((r1.getD (lV.2:Int).toNat default):Int).toNat default).cU) (fun (x30:(List fE))=>(bW [room ((lV.1.length+x30.length) * 80)] (some (.inr ((lV.1++x30)))))))))) (fun (u29:(List fE))=>(some (.inr (u29,(IntKind.i64.wrap (lV.2+1))))))) else (some (.inl (Sum.inl (lV.1)))))))) ([],0)).map .inl)) (fun (u16:(List fE))=>(some (.inl (u16)))))))
theorem pI (K:Nat) (a0:cZ):bS Tryz.prog 37 [.agg (dM.cs a0)] [] (bT (F37 K a0)) (fun r=>.c (eN.tree r)) (fun r=>[]):=by
 refine bS.it Tryz.f37 (fun r=>⟨[(2,.c (eN.tree r))],[],[],0⟩) ?_
 unfold F37
 exact Ref.pt (
  .call [] (aOx _ _) fun r1 =>
  .bk 0 (fun u16=>⟨[(3,.c (.own 0 u16.length))],[eN.row u16],[],0⟩) (
   .ad 2 0 3 eN.ty eN.w (eN.at []) <|
   .lp [0,1] (fun lV=>⟨[sP 1 0 0 0,(3,.c (.own 1 lV.1.length)),(7,.c (E3.tree r1)),sI 8 (Int.ofNat r1.length),sI 9 lV.2],[.cells (dM.cs a0),eN.row lV.1],[],0⟩) fun lV =>
   .lt _ fun x27 =>
   .ite _ (
    .bk 1 (fun u29=>⟨[sP 1 0 0 0,(3,.c (.own 1 u29.length)),(7,.c (E3.tree r1)),sI 8 (Int.ofNat r1.length),sI 9 lV.2],[.cells (dM.cs a0),eN.row u29],[],0⟩) (
     .ck _ <|
     .ck _ <|
     .lt _ fun x30 =>
     .ck _ <|
     .ob 5 1 2 (x:=.row 41 8 (lV.1.length+x30.length) fun i j=>bif Nat.blt i lV.1.length then eN.at lV.1 i j else (eN.at x30) (i - lV.1.length) j) (y:=(eN.row (lV.1++x30))) (El.cI eN lV.1 x30 rfl rfl) <|
     .sl 5 1 20 (x:=.c (.own 2 (lV.1.length+x30.length))) (y:=(.c (.own 2 ((lV.1++x30).length)))) (eA.c (dY.own (by first | (simp;done) | (simp;omega) | omega))) <|
     .nil [0,2] _) fun u29 =>
    .nil [0,1] _) (
    .ret [1] _)) fun u16 =>
  .fz 7 0 0 <|
  .ret [] _)
def F38 (K:Nat) (a0:(List fE)):Option (((List Int)) ⊕ ((List Int))) :=
 (bL (bJ ((iter K (fun (jJ:(List Int) × Int)=>(bN (decide ((jJ.2:Int)<(Int.ofNat a0.length))) (fun (aOy:Bool)=>(if aOy=true then (bL (bJ (bW [cS jJ.2 a0.length] ((bT (F84 K ((a0.getD (jJ.2:Int).toNat default).cQ))).bind (fun aDV=>(bL (bJ ((iter K (fun (jK:(List Int) × Int)=>(bN (decide ((jK.2:Int)<(wB aDV 10000))) (fun (aOz:Bool)=>(if aOz=true then (bL (bJ (bN ((((((a0.getD (jJ.2:Int).toNat default).cQ).bP):Int) == 4) || (((((a0.getD (jJ.2:Int).toNat default).cQ).bP):Int) == 5)) (fun (aOA:Bool)=>(bL (if aOA=true then (some (.inr (0))) else (some (.inr ((a0.getD (jJ.2:Int).toNat default).gA)))) (fun (mC:Int)=>(bW [room ((jK.1.length+([mC].length)) * 8)] (some (.inr ((jK.1++[mC])))))))))) (fun (aDW:(List Int))=>(some (.inr (aDW,(IntKind.i64.wrap (jK.2+1))))))) else (some (.inl (Sum.inl (jK.1)))))))) (jJ.1,0)).map .inl)) (fun (aDX:(List Int))=>(some (.inr (aDX))))))))) (fun (aDY:(List Int))=>(some (.inr (aDY,(IntKind.i64.wrap (jJ.2+1))))))) else (some (.inl (Sum.inl (jJ.1)))))))) ([],0)).map .inl)) (fun (aDZ:(List Int))=>(some (.inl (aDZ)))))
theorem uH (K:Nat) (a0:(List fE)):bS Tryz.prog 38 [.c (eN.tree a0)] [] (bT (F38 K a0)) (fun r=>.c (E3.tree r)) (fun r=>[]):=by
 refine bS.it Tryz.f38 (fun r=>⟨[(2,.c (E3.tree r))],[],[],0⟩) ?_
 unfold F38
 exact Ref.pt (
  .bk 0 (fun aDZ=>⟨[(3,.c (.own 0 aDZ.length))],[E3.row aDZ],[],0⟩) (
   .ad 2 0 3 E3.ty E3.w (E3.at []) <|
   .lp [0] (fun jJ=>⟨[(3,.c (.own 0 jJ.1.length)),(7,.c (eN.tree a0)),sI 8 (Int.ofNat a0.length),sI 9 jJ.2],[E3.row jJ.1],[],0⟩) fun jJ =>
   .lt _ fun aOy =>
   .ite _ (
    .bk 1 (fun aDY=>⟨[(3,.c (.own 0 aDY.length)),(7,.c (eN.tree a0)),sI 8 (Int.ofNat a0.length),sI 9 jJ.2],[E3.row aDY],[],0⟩) (
     .ck _ <|
     .call [] (aF7 _ _) fun aDV =>
     .bk 2 (fun aDX=>⟨[(3,.c (.own 0 aDX.length)),(7,.c (eN.tree a0)),sI 8 (Int.ofNat a0.length),sI 9 jJ.2],[E3.row aDX],[],0⟩) (
      .lp [0,1] (fun jK=>⟨[(3,.c (.own 0 jK.1.length)),sP 5 1 0 0,(7,.c (eN.tree a0)),sI 8 (Int.ofNat a0.length),sI 9 jJ.2,sI 16 (wB aDV 10000),sI 17 jK.2],[E3.row jK.1,eN.o (gd a0 jJ.2)],[],0⟩) fun jK =>
      .lt _ fun aOz =>
      .ite _ (
       .bk 3 (fun aDW=>⟨[(3,.c (.own 0 aDW.length)),sP 5 1 0 0,(7,.c (eN.tree a0)),sI 8 (Int.ofNat a0.length),sI 9 jJ.2,sI 16 (wB aDV 10000),sI 17 jK.2],[E3.row aDW,eN.o (gd a0 jJ.2)],[],0⟩) (
        .lt _ fun aOA =>
        .jn (fun mC=>⟨[(3,.c (.own 0 jK.1.length)),sP 5 1 0 0,sI 6 mC,(7,.c (eN.tree a0)),sI 8 (Int.ofNat a0.length),sI 9 jJ.2,sI 16 (wB aDV 10000),sI 17 jK.2],[E3.row jK.1,eN.o (gd a0 jJ.2)],[],0⟩) (
         .ite _ (
          .nil [0,1] _) (
          .nil [0,1] _)) fun mC =>
        .ob 10 2 2 (x:=.row 3 1 1 (gY [[iC mC]])) (y:=(E3.row [mC])) (El.bZ E3 [mC] rfl (by kernel_rfl)) <|
        .sl 10 2 33 (x:=.c (.own 2 1)) (y:=(.c (.own 2 ([mC].length)))) (eA.c (dY.own (by first | (simp;done) | (simp;omega) | omega))) <|
        .ck _ <|
        .ob 10 1 3 (x:=.row 3 1 (jK.1.length+([mC].length)) fun i j=>bif Nat.blt i jK.1.length then E3.at jK.1 i j else (E3.at [mC]) (i - jK.1.length) j) (y:=(E3.row (jK.1++[mC]))) (El.cI E3 jK.1 [mC] rfl rfl) <|
        .sl 10 1 34 (x:=.c (.own 3 (jK.1.length+([mC].length)))) (y:=(.c (.own 3 ((jK.1++[mC]).length)))) (eA.c (dY.own (by first | (simp;done) | (simp;omega) | omega))) <|
        .nil [3,1] _) fun aDW =>
       .nil [0,1] _) (
       .ret [0] _)) fun aDX =>
     .nil [0] _) fun aDY =>
    .nil [0] _) (
    .ret [0] _)) fun aDZ =>
  .fz 13 0 0 <|
  .ret [] _)
def aRG (K:Nat) (a0:(List fE)):Option (((List Int)) ⊕ ((List Int))) :=
 (bL (bJ ((iter K (fun (jJ:(List Int) × Int)=>(bN (decide ((jJ.2:Int)<(Int.ofNat a0.length))) (fun (aOy:Bool)=>(if aOy=true then (bL (bJ (bW [cS jJ.2 a0.length] ((bT (F84 K ((a0.getD (jJ.2:Int).toNat default).cQ))).bind (fun aDV=>(bL (bJ ((iter K (fun (jK:(List Int) × Int)=>(bN (decide ((jK.2:Int)<(wB aDV 10000))) (fun (aOz:Bool)=>(if aOz=true then (bL (bJ (bN ((((((a0.getD (jJ.2:Int).toNat default).cQ).bP):Int) == 4) || (((((a0.getD (jJ.2:Int).toNat default).cQ).bP):Int) == 5)) (fun (aOA:Bool)=>(bL (if aOA=true then (some (.inr (0))) else (some (.inr ((a0.getD (jJ.2:Int).toNat default).gA)))) (fun (mC:Int)=>(bW [room ((jK.1.length+([mC].length)) * 8)] (some (.inr ((jK.1++[mC])))))))))) (fun (aDW:(List Int))=>(some (.inr (aDW,(IntKind.i64.wrap (jK.2+1))))))) else (some (.inl (Sum.inl (jK.1)))))))) (jJ.1,0)).map .inl)) (fun (aDX:(List Int))=>(some (.inr (aDX))))))))) (fun (aDY:(List Int))=>(some (.inr (aDY,(IntKind.i64.wrap (jJ.2+1))))))) else (some (.inl (Sum.inl (jJ.1)))))))) ([],0)).map .inl)) (fun (aDZ:(List Int))=>(some (.inl (aDZ)))))
theorem pX (K:Nat) (a0:(List fE)):bS Tryz.prog 38 [.c (eN.tree a0)] [] (bT (aRG K a0)) (fun r=>.c (.own 0 r.length)) (fun r=>[E3.row r]):=by
 refine bS.it Tryz.f38 (fun r=>⟨[(2,.c (.own 0 r.length))],[E3.row r],[],0⟩) ?_
 unfold aRG
 exact Ref.pt (
  .bk 0 (fun aDZ=>⟨[(3,.c (.own 0 aDZ.length))],[E3.row aDZ],[],0⟩) (
   .ad 2 0 3 E3.ty E3.w (E3.at []) <|
   .lp [0] (fun jJ=>⟨[(3,.c (.own 0 jJ.1.length)),(7,.c (eN.tree a0)),sI 8 (Int.ofNat a0.length),sI 9 jJ.2],[E3.row jJ.1],[],0⟩) fun jJ =>
   .lt _ fun aOy =>
   .ite _ (
    .bk 1 (fun aDY=>⟨[(3,.c (.own 0 aDY.length)),(7,.c (eN.tree a0)),sI 8 (Int.ofNat a0.length),sI 9 jJ.2],[E3.row aDY],[],0⟩) (
     .ck _ <|
     .call [] (aF7 _ _) fun aDV =>
     .bk 2 (fun aDX=>⟨[(3,.c (.own 0 aDX.length)),(7,.c (eN.tree a0)),sI 8 (Int.ofNat a0.length),sI 9 jJ.2],[E3.row aDX],[],0⟩) (
      .lp [0,1] (fun jK=>⟨[(3,.c (.own 0 jK.1.length)),sP 5 1 0 0,(7,.c (eN.tree a0)),sI 8 (Int.ofNat a0.length),sI 9 jJ.2,sI 16 (wB aDV 10000),sI 17 jK.2],[E3.row jK.1,eN.o (gd a0 jJ.2)],[],0⟩) fun jK =>
      .lt _ fun aOz =>
      .ite _ (
       .bk 3 (fun aDW=>⟨[(3,.c (.own 0 aDW.length)),sP 5 1 0 0,(7,.c (eN.tree a0)),sI 8 (Int.ofNat a0.length),sI 9 jJ.2,sI 16 (wB aDV 10000),sI 17 jK.2],[E3.row aDW,eN.o (gd a0 jJ.2)],[],0⟩) (
        .lt _ fun aOA =>
        .jn (fun mC=>⟨[(3,.c (.own 0 jK.1.length)),sP 5 1 0 0,sI 6 mC,(7,.c (eN.tree a0)),sI 8 (Int.ofNat a0.length),sI 9 jJ.2,sI 16 (wB aDV 10000),sI 17 jK.2],[E3.row jK.1,eN.o (gd a0 jJ.2)],[],0⟩) (
         .ite _ (
          .nil [0,1] _) (
          .nil [0,1] _)) fun mC =>
        .ob 10 2 2 (x:=.row 3 1 1 (gY [[iC mC]])) (y:=(E3.row [mC])) (El.bZ E3 [mC] rfl (by kernel_rfl)) <|
        .sl 10 2 33 (x:=.c (.own 2 1)) (y:=(.c (.own 2 ([mC].length)))) (eA.c (dY.own (by first | (simp;done) | (simp;omega) | omega))) <|
        .ck _ <|
        .ob 10 1 3 (x:=.row 3 1 (jK.1.length+([mC].length)) fun i j=>bif Nat.blt i jK.1.length then E3.at jK.1 i j else (E3.at [mC]) (i - jK.1.length) j) (y:=(E3.row (jK.1++[mC]))) (El.cI E3 jK.1 [mC] rfl rfl) <|
        .sl 10 1 34 (x:=.c (.own 3 (jK.1.length+([mC].length)))) (y:=(.c (.own 3 ((jK.1++[mC]).length)))) (eA.c (dY.own (by first | (simp;done) | (simp;omega) | omega))) <|
        .nil [3,1] _) fun aDW =>
       .nil [0,1] _) (
       .ret [0] _)) fun aDX =>
     .nil [0] _) fun aDY =>
    .nil [0] _) (
    .ret [0] _)) fun aDZ =>
  .ret [0] _)
def F86 (K:Nat) (a0:Bytes) (a1:Bool):Option ((Bytes) ⊕ (Bytes)) :=
 (if a1=true then (bW [room (a0.length+([62,105]:Bytes).length)] (some (.inl ((a0++([62,105]:Bytes)))))) else (bW [room (a0.length+([62]:Bytes).length)] (some (.inl ((a0++([62]:Bytes)))))))
theorem aUE (K:Nat) (a0:Bytes) (a1:Bool):bS Tryz.prog 86 [.c (.str a0),.c (.val (.bool a1))] [] (bT (F86 K a0 a1)) (fun r=>.c (.str r)) (fun r=>[]):=by
 refine bS.it Tryz.f86 (fun r=>⟨[sS 4 r],[],[],0⟩) ?_
 unfold F86
 exact Ref.pt (
  .ite _ (
   .ck _ <|
   .ret [] _) (
   .ck _ <|
   .ret [] _))
def F22 (K:Nat) (a0:cZ) (a1:Int):Option ((Int) ⊕ (Int)) :=
 ((bT (F47 K a0 a1 1)).bind (fun r1=>(some (.inl (r1)))))
theorem aUF (K:Nat) (a0:cZ) (a1:Int):bS Tryz.prog 22 [.agg (dM.cs a0),.c (.val (.int .i64 a1))] [] (bT (F22 K a0 a1)) (fun r=>.c (.val (.int .i64 r))) (fun r=>[]):=by
 refine bS.it Tryz.f22 (fun r=>⟨[sI 4 r],[],[],0⟩) ?_
 unfold F22
 exact Ref.pt (
  .call [] (aOs _ _ _ _) fun r1 =>
  .ret [] _)
def F51 (K:Nat) (a0:(List fE)) (a1:Bytes):Option ((Int) ⊕ (Int)) :=
 (bL (bJ ((iter K (fun (gU:Int × Int)=>(bN (decide ((gU.2:Int)<(Int.ofNat a0.length))) (fun (x38:Bool)=>(if x38=true then (bL (bJ (bW [cS gU.2 a0.length] ((bT (F84 K ((a0.getD (gU.2:Int).toNat default).cQ))).bind (fun qR=>(bN ((((a0.getD (gU.2:Int).toNat default).cC) == a1) && (decide (((wB qR 10000):Int) > 0))) (fun (x44:Bool)=>(if x44=true then (some (.inl (Sum.inr (Sum.inr (gU.1))))) else (bN (IntKind.i64.wrap (gU.1+(wB qR 10000))) (fun (x45:Int)=>(some (.inr (x45)))))))))))) (fun (u42:Int)=>(some (.inr (u42,(IntKind.i64.wrap (gU.2+1))))))) else (some (.inl (Sum.inl ()))))))) (0,0)).map .inl)) (fun (lV:Unit)=>(some (.inl ((-1))))))
theorem aOB (K:Nat) (a0:(List fE)) (a1:Bytes):bS Tryz.prog 51 [.c (eN.tree a0),.c (.str a1)] [] (bT (F51 K a0 a1)) (fun r=>.c (.val (.int .i64 r))) (fun r=>[]):=by
 refine bS.it Tryz.f51 (fun r=>⟨[sI 4 r],[],[],0⟩) ?_
 unfold F51
 exact Ref.pt (
  .bk 0 (fun lV=>⟨[],[],[],0⟩) (
   .lp [] (fun gU=>⟨[sS 1 a1,sI 5 gU.1,(9,.c (eN.tree a0)),sI 10 (Int.ofNat a0.length),sI 11 gU.2],[],[],0⟩) fun gU =>
   .lt _ fun x38 =>
   .ite _ (
    .bk 1 (fun u42=>⟨[sS 1 a1,sI 5 u42,(9,.c (eN.tree a0)),sI 10 (Int.ofNat a0.length),sI 11 gU.2],[],[],0⟩) (
     .ck _ <|
     .call [] (aF7 _ _) fun qR =>
     .lt _ fun x44 =>
     .ite _ (
      .ret [] _) (
      .lt _ fun x45 =>
      .nil [] _)) fun u42 =>
    .nil [] _) (
    .ret [] _)) fun lV =>
  .ret [] _)
end Go.Proofs.YtdbfbedholdjaaaGreat

namespace Go.Proofs.YtdbfbedholdjaaaGreat
open Go Go.Proofs Go.Dl
variable [dW]
set_option maxRecDepth 100000
set_option maxHeartbeats 4000000
def F92 (K:Nat) (a0:jG) (a1:Bytes):Option ((Bool) ⊕ (Bool)) :=
 (some (.inl ((a0.cC == a1))))
theorem aUH (K:Nat) (a0:jG) (a1:Bytes):bS Tryz.prog 92 [.agg (jR.cs a0),.c (E9.ep a1 0)] [] (bT (F92 K a0 a1)) (fun r=>.c (.val (.bool r))) (fun r=>[]):=by
 refine bS.it Tryz.f92 (fun r=>⟨[sB 3 r],[],[],0⟩) ?_
 unfold F92
 exact Ref.pt (
  .ret [] _)
def aD0 (K:Nat) (a0:(List jG)) (aBm:Bytes):Option ((Int) ⊕ (Int)) :=
 (bL (bJ ((iter K (fun (jF:Int)=>(bN (decide ((jF:Int)<(Int.ofNat a0.length))) (fun (y7:Bool)=>(if y7=true then (bL (bJ (bW [cS jF a0.length] ((bT (F92 K (a0.getD (jF:Int).toNat default) aBm)).bind (fun r29=>(if r29=true then (some (.inl (Sum.inr (Sum.inr (jF))))) else (some (.inr ()))))))) (fun (gU:Unit)=>(some (.inr ((IntKind.i64.wrap (jF+1))))))) else (some (.inl (Sum.inl ()))))))) (0)).map .inl)) (fun (wD:Unit)=>(some (.inl ((-1))))))
theorem aMq (K:Nat) (a0:(List jG)) (aBm:Bytes):bS Tryz.prog 91 [.c (jR.tree a0),.c (.func (.func 92) 1 (fun i=>([E9.ep aBm 0]:List C).getD i .bot))] [] (bT (aD0 K a0 aBm)) (fun r=>.c (.val (.int .i64 r))) (fun r=>[]):=by
 refine bS.it Tryz.f91 (fun r=>⟨[sI 4 r],[],[],0⟩) ?_
 unfold aD0
 exact Ref.pt (
  .bk 0 (fun wD=>⟨[],[],[],0⟩) (
   .lp [] (fun jF=>⟨[(0,.c (jR.tree a0)),(1,.c (.func (.func 92) 1 (fun i=>([E9.ep aBm 0]:List C).getD i .bot))),sI 7 (Int.ofNat a0.length),sI 8 jF],[],[],0⟩) fun jF =>
   .lt _ fun y7 =>
   .ite _ (
    .bk 1 (fun gU=>⟨[(0,.c (jR.tree a0)),(1,.c (.func (.func 92) 1 (fun i=>([E9.ep aBm 0]:List C).getD i .bot))),sI 7 (Int.ofNat a0.length),sI 8 jF],[],[],0⟩) (
     .ck _ <|
     .call [] (aUH _ _ _) fun r29 =>
     .ite _ (
      .ret [] _) (
      .nil [] _)) fun gU =>
    .nil [] _) (
    .ret [] _)) fun wD =>
  .ret [] _)
def F42 (K:Nat) (a0:cZ) (a1:Bytes):Option ((Int) ⊕ (Int)) :=
 ((bT (aD0 K a0.bK a1)).bind (fun r1=>(some (.inl (r1)))))
theorem aF8 (K:Nat) (a0:cZ) (a1:Bytes):bS Tryz.prog 42 [.agg (dM.cs a0),.c (.str a1)] [] (bT (F42 K a0 a1)) (fun r=>.c (.val (.int .i64 r))) (fun r=>[]):=by
 refine bS.it Tryz.f42 (fun r=>⟨[sI 4 r],[],[],0⟩) ?_
 unfold F42
 exact Ref.pt (
  .fz 1 3 1 <|
  .call [] (aMq _ _ _) fun r1 =>
  .ret [] _)
def F93 (K:Nat) (a0:(List Int)) (a1:Int):Option ((Int) ⊕ (Int)) :=
 (bL (bJ ((iter K (fun (jF:Int)=>(bN (decide ((jF:Int)<(Int.ofNat a0.length))) (fun (y7:Bool)=>(if y7=true then (bL (bJ (bW [cS jF a0.length] (bN ((a1:Int) == (a0.getD (jF:Int).toNat default)) (fun (iU:Bool)=>(if iU=true then (some (.inl (Sum.inr (Sum.inr (jF))))) else (some (.inr ()))))))) (fun (gU:Unit)=>(some (.inr ((IntKind.i64.wrap (jF+1))))))) else (some (.inl (Sum.inl ()))))))) (0)).map .inl)) (fun (wD:Unit)=>(some (.inl ((-1))))))
theorem aUI (K:Nat) (a0:(List Int)) (a1:Int):bS Tryz.prog 93 [.c (E3.tree a0),.c (.val (.int .i64 a1))] [] (bT (F93 K a0 a1)) (fun r=>.c (.val (.int .i64 r))) (fun r=>[]):=by
 refine bS.it Tryz.f93 (fun r=>⟨[sI 4 r],[],[],0⟩) ?_
 unfold F93
 exact Ref.pt (
  .bk 0 (fun wD=>⟨[],[],[],0⟩) (
   .lp [] (fun jF=>⟨[(0,.c (E3.tree a0)),sI 1 a1,sI 7 (Int.ofNat a0.length),sI 8 jF],[],[],0⟩) fun jF =>
   .lt _ fun y7 =>
   .ite _ (
    .bk 1 (fun gU=>⟨[(0,.c (E3.tree a0)),sI 1 a1,sI 7 (Int.ofNat a0.length),sI 8 jF],[],[],0⟩) (
     .ck _ <|
     .lt _ fun iU =>
     .ite _ (
      .ret [] _) (
      .nil [] _)) fun gU =>
    .nil [] _) (
    .ret [] _)) fun wD =>
  .ret [] _)
def F46 (K:Nat) (a0:(List Int)) (a1:Int):Option ((Bool) ⊕ (Bool)) :=
 ((bT (F93 K a0 a1)).bind (fun r1=>(some (.inl ((decide ((r1:Int) ≥ 0)))))))
theorem aOC (K:Nat) (a0:(List Int)) (a1:Int):bS Tryz.prog 46 [.c (E3.tree a0),.c (.val (.int .i64 a1))] [] (bT (F46 K a0 a1)) (fun r=>.c (.val (.bool r))) (fun r=>[]):=by
 refine bS.it Tryz.f46 (fun r=>⟨[sB 4 r],[],[],0⟩) ?_
 unfold F46
 exact Ref.pt (
  .call [] (aUI _ _ _) fun r1 =>
  .ret [] _)
def F10 (K:Nat) (a0:cZ) (a1:Int):Option (((List Int)) ⊕ ((List Int))) :=
 (bL (bJ ((iter K (fun (lD:Int × (List Int))=>((bT (F45 K a0 lD.1)).bind (fun qR=>((cH ((qR:Int) == 2) (bT (F46 K lD.2 lD.1)) default).bind (fun r44=>(if (((qR:Int) == 2) && (!r44))=true then (bL (bJ (bW [room ((lD.2.length+([lD.1].length)) * 8)] (bW [cS lD.1 a0.bK.length] (bN ((a0.bK.getD (lD.1:Int).toNat default).j6) (fun (x48:Bytes)=>((cH true (bT (F42 K a0 x48)) default).bind (fun r49=>(some (.inr (r49,(lD.2++[lD.1]))))))))))) (fun (u47:Int × (List Int))=>(some (.inr (u47.1,u47.2))))) else (some (.inl (Sum.inl (lD.2)))))))))) (a1,[])).map .inl)) (fun (u25:(List Int))=>(some (.inl (u25)))))
theorem aA1 (K:Nat) (a0:cZ) (a1:Int):bS Tryz.prog 10 [.agg (dM.cs a0),.c (.val (.int .i64 a1))] [] (bT (F10 K a0 a1)) (fun r=>.c (E3.tree r)) (fun r=>[]):=by
 refine bS.it Tryz.f10 (fun r=>⟨[(4,.c (E3.tree r))],[],[],0⟩) ?_
 unfold F10
 exact Ref.pt (
  .bk 0 (fun u25=>⟨[(5,.c (.own 0 u25.length))],[E3.row u25],[],0⟩) (
   .ad 1 0 5 E3.ty E3.w (E3.at []) <|
   .lp [0,1] (fun lD=>⟨[sI 1 lD.1,sP 2 0 0 0,(5,.c (.own 1 lD.2.length))],[.cells (dM.cs a0),E3.row lD.2],[],0⟩) fun lD =>
   .call [] (aFn _ _ _) fun qR =>
   .look (default:Bool) _ [1] (aOC K lD.2 lD.1) (fun _=>rfl) fun r44 =>
   .ite _ (
    .bk 1 (fun u47=>⟨[sI 1 u47.1,sP 2 0 0 0,(5,.c (.own 1 u47.2.length))],[.cells (dM.cs a0),E3.row u47.2],[],0⟩) (
     .ob 3 2 2 (x:=.row 3 1 1 (gY [[iC lD.1]])) (y:=(E3.row [lD.1])) (El.bZ E3 [lD.1] rfl (by kernel_rfl)) <|
     .sl 3 2 18 (x:=.c (.own 2 1)) (y:=(.c (.own 2 ([lD.1].length)))) (eA.c (dY.own (by first | (simp;done) | (simp;omega) | omega))) <|
     .ck _ <|
     .ob 3 1 3 (x:=.row 3 1 (lD.2.length+([lD.1].length)) fun i j=>bif Nat.blt i lD.2.length then E3.at lD.2 i j else (E3.at [lD.1]) (i - lD.2.length) j) (y:=(E3.row (lD.2++[lD.1]))) (El.cI E3 lD.2 [lD.1] rfl rfl) <|
     .sl 3 1 19 (x:=.c (.own 3 (lD.2.length+([lD.1].length)))) (y:=(.c (.own 3 ((lD.2++[lD.1]).length)))) (eA.c (dY.own (by first | (simp;done) | (simp;omega) | omega))) <|
     .ex [1,3] <|
     .tx [] <|
     .lT [0,2,4,5,6] _ <|
     .lt _ fun x48 =>
     .fF 7 (default:Int) _ [] (aF8 K a0 x48) (fun _=>rfl) fun r49 =>
     .ex [8] <|
     .nil [0,3] _) fun u47 =>
    .nil [0,1] _) (
    .ret [1] _)) fun u25 =>
  .fz 5 0 0 <|
  .ret [] _)
def aMr (K:Nat) (a0:cZ) (a1:Int):Option (((List Int)) ⊕ ((List Int))) :=
 ((bT (F10 K a0 a1)).bind (fun r1=>(bL (bJ ((iter K (fun (wJ:(List Int) × Int)=>(bN (decide ((wJ.2:Int)<(Int.ofNat r1.length))) (fun (aXx:Bool)=>(if aXx=true then (bL (bJ (bW [cS wJ.2 r1.length] (bW [cS (r1.getD (wJ.2:Int).toNat default) a0.bK.length] (bN ((a0.bK.getD ((r1.getD (wJ.2:Int).toNat default):Int).toNat default).eB) (fun (aOD:(List Bytes))=>(bN (Int.ofNat ((a0.bK.getD ((r1.getD (wJ.2:Int).toNat default):Int).toNat default).eB).length) (fun (aRH:Int)=>(bL (bJ ((iter K (fun (pY:(List Int) × Int)=>(if (decide ((pY.2:Int)<aRH))=true then (bL (bJ (bW [cS pY.2 aOD.length] ((bT (F42 K a0 (aOD.getD (pY.2:Int).toNat default))).bind (fun xT=>((bT (F45 K a0 xT)).bind (fun aUJ=>((cH ((aUJ:Int) == 1) (bT (F46 K pY.1 xT)) default).bind (fun aXy=>(if (((aUJ:Int) == 1) && (!aXy))=true then (bW [room ((pY.1.length+([xT].length)) * 8)] (some (.inr ((pY.1++[xT]))))) else (some (.inr (pY.1)))))))))))) (fun (aOE:(List Int))=>(some (.inr (aOE,(IntKind.i64.wrap (pY.2+1))))))) else (some (.inl (Sum.inl (pY.1)))))) (wJ.1,0)).map .inl)) (fun (aOF:(List Int))=>(some (.inr (aOF)))))))))))) (fun (aOG:(List Int))=>(some (.inr (aOG,(IntKind.i64.wrap (wJ.2+1))))))) else (some (.inl (Sum.inl (wJ.1)))))))) ([],0)).map .inl)) (fun (aG4:(List Int))=>(some (.inl (aG4)))))))
theorem aRI (K:Nat) (a0:cZ) (a1:Int):bS Tryz.prog 88 [.agg (dM.cs a0),.c (.val (.int .i64 a1))] [] (bT (aMr K a0 a1)) (fun r=>.c (.own 0 r.length)) (fun r=>[E3.row r]):=by
 refine bS.it Tryz.f88 (fun r=>⟨[(4,.c (.own 0 r.length))],[E3.row r],[],0⟩) ?_
 unfold aMr
 exact Ref.pt (
  .call [] (aA1 _ _ _) fun r1 =>
  .bk 0 (fun aG4=>⟨[(5,.c (.own 0 aG4.length))],[E3.row aG4],[],0⟩) (
   .ad 2 0 5 E3.ty E3.w (E3.at []) <|
   .lp [0,1] (fun wJ=>⟨[sP 2 0 0 0,(5,.c (.own 1 wJ.1.length)),(13,.c (E3.tree r1)),sI 14 (Int.ofNat r1.length),sI 15 wJ.2],[.cells (dM.cs a0),E3.row wJ.1],[],0⟩) fun wJ =>
   .lt _ fun aXx =>
   .ite _ (
    .bk 1 (fun aOG=>⟨[sP 2 0 0 0,(5,.c (.own 1 aOG.length)),(13,.c (E3.tree r1)),sI 14 (Int.ofNat r1.length),sI 15 wJ.2],[.cells (dM.cs a0),E3.row aOG],[],0⟩) (
     .ck _ <|
     .ck _ <|
     .lt _ fun aOD =>
     .lt _ fun aRH =>
     .bk 2 (fun aOF=>⟨[sP 2 0 0 0,(5,.c (.own 1 aOF.length)),(13,.c (E3.tree r1)),sI 14 (Int.ofNat r1.length),sI 15 wJ.2],[.cells (dM.cs a0),E3.row aOF],[],0⟩) (
      .lp [0,1] (fun pY=>⟨[sP 2 0 0 0,(5,.c (.own 1 pY.1.length)),(13,.c (E3.tree r1)),sI 14 (Int.ofNat r1.length),sI 15 wJ.2,(24,.c (E9.tree aOD)),sI 25 aRH,sI 26 pY.2],[.cells (dM.cs a0),E3.row pY.1],[],0⟩) fun pY =>
      .ite _ (
       .bk 3 (fun aOE=>⟨[sP 2 0 0 0,(5,.c (.own 1 aOE.length)),(13,.c (E3.tree r1)),sI 14 (Int.ofNat r1.length),sI 15 wJ.2,(24,.c (E9.tree aOD)),sI 25 aRH,sI 26 pY.2],[.cells (dM.cs a0),E3.row aOE],[],0⟩) (
        .ck _ <|
        .call [] (aF8 _ _ _) fun xT =>
        .call [] (aFn _ _ _) fun aUJ =>
        .look (default:Bool) _ [1] (aOC K pY.1 xT) (fun _=>rfl) fun aXy =>
        .ite _ (
         .ob 10 2 2 (x:=.row 3 1 1 (gY [[iC xT]])) (y:=(E3.row [xT])) (El.bZ E3 [xT] rfl (by kernel_rfl)) <|
         .sl 10 2 45 (x:=.c (.own 2 1)) (y:=(.c (.own 2 ([xT].length)))) (eA.c (dY.own (by first | (simp;done) | (simp;omega) | omega))) <|
         .ck _ <|
         .ob 10 1 3 (x:=.row 3 1 (pY.1.length+([xT].length)) fun i j=>bif Nat.blt i pY.1.length then E3.at pY.1 i j else (E3.at [xT]) (i - pY.1.length) j) (y:=(E3.row (pY.1++[xT]))) (El.cI E3 pY.1 [xT] rfl rfl) <|
         .sl 10 1 46 (x:=.c (.own 3 (pY.1.length+([xT].length)))) (y:=(.c (.own 3 ((pY.1++[xT]).length)))) (eA.c (dY.own (by first | (simp;done) | (simp;omega) | omega))) <|
         .nil [0,3] _) (
         .nil [0,1] _)) fun aOE =>
       .nil [0,1] _) (
       .ret [0,1] _)) fun aOF =>
     .nil [0,1] _) fun aOG =>
    .nil [0,1] _) (
    .ret [1] _)) fun aG4 =>
  .ret [0] _)
def aRJ (K:Nat) (a0:hU) (a1:Bytes):Option ((Bool) ⊕ (Bool)) :=
 (some (.inl ((a0.cC == a1))))
theorem aRK (K:Nat) (a0:hU) (a1:Bytes):bS Tryz.prog 129 [.agg (kJ.cs a0),.c (E9.ep a1 0)] [] (bT (aRJ K a0 a1)) (fun r=>.c (.val (.bool r))) (fun r=>[]):=by
 refine bS.it Tryz.f129 (fun r=>⟨[sB 3 r],[],[],0⟩) ?_
 unfold aRJ
 exact Ref.pt (
  .ret [] _)
def wK (K:Nat) (a0:(List hU)) (aBm:Bytes):Option ((Int) ⊕ (Int)) :=
 (bL (bJ ((iter K (fun (jF:Int)=>(bN (decide ((jF:Int)<(Int.ofNat a0.length))) (fun (y7:Bool)=>(if y7=true then (bL (bJ (bW [cS jF a0.length] ((bT (aRJ K (a0.getD (jF:Int).toNat default) aBm)).bind (fun r29=>(if r29=true then (some (.inl (Sum.inr (Sum.inr (jF))))) else (some (.inr ()))))))) (fun (gU:Unit)=>(some (.inr ((IntKind.i64.wrap (jF+1))))))) else (some (.inl (Sum.inl ()))))))) (0)).map .inl)) (fun (wD:Unit)=>(some (.inl ((-1))))))
theorem aHe (K:Nat) (a0:(List hU)) (aBm:Bytes):bS Tryz.prog 128 [.c (kJ.tree a0),.c (.func (.func 129) 1 (fun i=>([E9.ep aBm 0]:List C).getD i .bot))] [] (bT (wK K a0 aBm)) (fun r=>.c (.val (.int .i64 r))) (fun r=>[]):=by
 refine bS.it Tryz.f128 (fun r=>⟨[sI 4 r],[],[],0⟩) ?_
 unfold wK
 exact Ref.pt (
  .bk 0 (fun wD=>⟨[],[],[],0⟩) (
   .lp [] (fun jF=>⟨[(0,.c (kJ.tree a0)),(1,.c (.func (.func 129) 1 (fun i=>([E9.ep aBm 0]:List C).getD i .bot))),sI 7 (Int.ofNat a0.length),sI 8 jF],[],[],0⟩) fun jF =>
   .lt _ fun y7 =>
   .ite _ (
    .bk 1 (fun gU=>⟨[(0,.c (kJ.tree a0)),(1,.c (.func (.func 129) 1 (fun i=>([E9.ep aBm 0]:List C).getD i .bot))),sI 7 (Int.ofNat a0.length),sI 8 jF],[],[],0⟩) (
     .ck _ <|
     .call [] (aRK _ _ _) fun r29 =>
     .ite _ (
      .ret [] _) (
      .nil [] _)) fun gU =>
    .nil [] _) (
    .ret [] _)) fun wD =>
  .ret [] _)
def F87 (K:Nat) (a0:cZ) (a1:Int) (a2:Bytes):Option ((dR × Bool) ⊕ (dR × Bool)) :=
 ((bT (F10 K a0 a1)).bind (fun r1=>((bT (F45 K a0 a1)).bind (fun r2=>(bL (if ((r2:Int) == 1)=true then (some (.inr ([a1]))) else (some (.inr (r1)))) (fun (u3:(List Int))=>(bL (bJ ((iter K (fun (y8:Int)=>(bN (decide ((y8:Int)<(Int.ofNat u3.length))) (fun (x39:Bool)=>(if x39=true then (bL (bJ (bW [cS y8 u3.length] (bW [cS (u3.getD (y8:Int).toNat default) a0.bK.length] (bN ((a0.bK.getD ((u3.getD (y8:Int).toNat default):Int).toNat default).bM) (fun (x43:(List hU))=>((bT (wK K x43 a2)).bind (fun r44=>(if (decide ((r44:Int) ≥ 0))=true then (some (.inl (Sum.inr (Sum.inr ((⟨(u3.getD (y8:Int).toNat default),r44⟩:dR),true))))) else (some (.inr ())))))))))) (fun (u42:Unit)=>(some (.inr ((IntKind.i64.wrap (y8+1))))))) else (some (.inl (Sum.inl ()))))))) (0)).map .inl)) (fun (u24:Unit)=>(some (.inl ((⟨0,0⟩:dR),false)))))))))))
theorem aOH (K:Nat) (a0:cZ) (a1:Int) (a2:Bytes):bS Tryz.prog 87 [.agg (dM.cs a0),.c (.val (.int .i64 a1)),.c (.str a2)] [] (bT (F87 K a0 a1 a2)) (fun r=>.iT [.agg (dO.cs r.1),.c (.val (.bool r.2))]) (fun r=>[.cells (dO.cs r.1)]):=by
 refine bS.it Tryz.f87 (fun r=>⟨[sP 6 0 0 0,sB 7 r.2],[.cells (dO.cs r.1)],[],0⟩) ?_
 unfold F87
 exact Ref.pt (
  .call [] (aA1 _ _ _) fun r1 =>
  .call [] (aFn _ _ _) fun r2 =>
  .jn (fun u3=>⟨[sP 3 0 0 0,sP 5 1 0 0,sP 6 2 0 0,(8,.c (E3.tree u3))],[.cells (dM.cs a0),.cells [.str a2],.cells [iC 0,iC 0]],[],0⟩) (
   .ite _ (
    .ob 3 1 3 (x:=.row 3 1 1 (gY [[iC a1]])) (y:=(E3.row [a1])) (El.bZ E3 [a1] rfl (by kernel_rfl)) <|
    .sl 3 1 20 (x:=.c (.own 3 1)) (y:=(.c (.own 3 ([a1].length)))) (eA.c (dY.own (by first | (simp;done) | (simp;omega) | omega))) <|
    .fz 3 0 3 <|
    .nil [0,1,2] _) (
    .nil [0,1,2] _)) fun u3 =>
  .bk 0 (fun u24=>⟨[sP 6 0 0 0],[.cells [iC 0,iC 0]],[],0⟩) (
   .fz 4 0 1 <|
   .lp [0,2] (fun y8=>⟨[sP 3 0 0 0,(5,.c (E9.ep a2 0)),sP 6 1 0 0,(21,.c (E3.tree u3)),sI 22 (Int.ofNat u3.length),sI 23 y8],[.cells (dM.cs a0),.cells [iC 0,iC 0]],[],0⟩) fun y8 =>
   .lt _ fun x39 =>
   .ite _ (
    .bk 1 (fun u42=>⟨[sP 3 0 0 0,(5,.c (E9.ep a2 0)),sP 6 1 0 0,(21,.c (E3.tree u3)),sI 22 (Int.ofNat u3.length),sI 23 y8],[.cells (dM.cs a0),.cells [iC 0,iC 0]],[],0⟩) (
     .ck _ <|
     .ck _ <|
     .lt _ fun x43 =>
     .call [] (aHe _ _ _) fun r44 =>
     .ite _ (
      .ret [1] _) (
      .nil [0,1] _)) fun u42 =>
    .nil [0,1] _) (
    .ret [1] _)) fun u24 =>
  .ret [0] _)
def F90 (K:Nat) (a0:cZ) (a1:Int) (a2:Bytes):Option ((Int) ⊕ (Int)) :=
 ((bT (F87 K a0 a1 a2)).bind (fun r1=>(if (!r1.2)=true then (some (.inl ((-1)))) else ((bT (F19 K a0 r1.1)).bind (fun r2=>(some (.inl (r2))))))))
theorem aUL (K:Nat) (a0:cZ) (a1:Int) (a2:Bytes):bS Tryz.prog 90 [.agg (dM.cs a0),.c (.val (.int .i64 a1)),.c (.str a2)] [] (bT (F90 K a0 a1 a2)) (fun r=>.c (.val (.int .i64 r))) (fun r=>[]):=by
 refine bS.it Tryz.f90 (fun r=>⟨[sI 6 r],[],[],0⟩) ?_
 unfold F90
 exact Ref.pt (
  .call [] (aOH _ _ _ _) fun r1 =>
  .ite _ (
   .ret [] _) (
   .call [] (aI7 _ _ _) fun r2 =>
   .ret [] _))
end Go.Proofs.YtdbfbedholdjaaaGreat
