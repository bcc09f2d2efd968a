/- No conditions. -/
import Derived.Test.YtdbfbedholdjaaaGreatLA
import Derived.Test.YtdbfbedholdjaaaGreatProg
set_option linter.unusedVariables false
set_option linter.unusedSimpArgs false
set_option linter.unusedSectionVars false
namespace Go.Proofs.YtdbfbedholdjaaaGreat
open Go Go.Proofs Go.Dl
variable [eC]
set_option maxRecDepth 100000
set_option maxHeartbeats 4000000
def F45 (K:Nat) (a0:dD) (a1:Int):Option ((Int) ⊕ (Int)) :=
 (bO ((decide ((a1:Int)<0)) || (decide ((a1:Int) ≥ (Int.ofNat a0.bK.length)))) (fun (x1:Bool)=>(if x1=true then (some (.inl (0))) else (bW [cS a1 a0.bK.length] (bO ((a0.bK.getD (a1:Int).toNat default).bP) (fun (x2:Int)=>(some (.inl (x2)))))))))
theorem aFh (K:Nat) (a0:dD) (a1:Int):bR Tryz.prog 45 [.agg (dQ.cs a0),.c (.val (.int .i64 a1))] [] (bU (F45 K a0 a1)) (fun r=>.c (.val (.int .i64 r))) (fun r=>[]):=by
 refine bR.it Tryz.f45 (fun r=>⟨[sI 4 r],[],[],0⟩) ?_
 unfold F45
 exact Ref.pt (
  .lt _ fun x1 =>
  .ite _ (
   .ret [] _) (
   .ck _ <|
   .lt _ fun x2 =>
   .ret [] _))
def F50 (K:Nat) (a0:dD) (a1:Int) (a2:Int):Option ((Bool) ⊕ (Bool)) :=
 (bW [!((decide ((a1:Int) ≥ 0)) && (decide ((a1:Int)<(Int.ofNat a0.bK.length)))) || cS a1 a0.bK.length] (bO (((decide ((a1:Int) ≥ 0)) && (decide ((a1:Int)<(Int.ofNat a0.bK.length)))) && ((((a0.bK.getD (a1:Int).toNat default).bP):Int) == a2)) (fun (x1:Bool)=>(some (.inl (x1))))))
theorem aIX (K:Nat) (a0:dD) (a1:Int) (a2:Int):bR Tryz.prog 50 [.agg (dQ.cs a0),.c (.val (.int .i64 a1)),.c (.val (.int .i64 a2))] [] (bU (F50 K a0 a1 a2)) (fun r=>.c (.val (.bool r))) (fun r=>[]):=by
 refine bR.it Tryz.f50 (fun r=>⟨[sB 6 r],[],[],0⟩) ?_
 unfold F50
 exact Ref.pt (
  .ck _ <|
  .lt _ fun x1 =>
  .ret [] _)
def F47 (K:Nat) (a0:dD) (a1:Int) (a2:Int):Option ((Int) ⊕ (Int)) :=
 ((bU (F50 K a0 a1 a2)).bind (fun r1=>(if (!r1)=true then (some (.inl ((-1)))) else (bW [c9 a0.bK.length 0 a1] (bO ((a0.bK.drop (0:Int).toNat).take ((a1:Int).toNat - (0:Int).toNat)) (fun (x2:(List jX))=>(bM (bL ((iter K (fun (dY:Int × Int)=>(bO (decide ((dY.2:Int)<(Int.ofNat x2.length))) (fun (l8:Bool)=>(if l8=true then (bM (bL (bW [cS dY.2 x2.length] (bO ((((x2.getD (dY.2:Int).toNat default).bP):Int) == a2) (fun (x31:Bool)=>(if x31=true then (some (.inr ((IntKind.i64.wrap (dY.1+1))))) else (some (.inr (dY.1)))))))) (fun (eZ:Int)=>(some (.inr (eZ,(IntKind.i64.wrap (dY.2+1))))))) else (some (.inl (Sum.inl (dY.1)))))))) (0,0)).map .inl)) (fun (gW:Int)=>(some (.inl (gW)))))))))))
theorem aOd (K:Nat) (a0:dD) (a1:Int) (a2:Int):bR Tryz.prog 47 [.agg (dQ.cs a0),.c (.val (.int .i64 a1)),.c (.val (.int .i64 a2))] [] (bU (F47 K a0 a1 a2)) (fun r=>.c (.val (.int .i64 r))) (fun r=>[]):=by
 refine bR.it Tryz.f47 (fun r=>⟨[sI 6 r],[],[],0⟩) ?_
 unfold F47
 exact Ref.pt (
  .call [] (aIX _ _ _ _) fun r1 =>
  .ite _ (
   .ret [] _) (
   .ckh _ fun hv =>
   .sl 4 2 18 (x:=.c (.tree iY.w ((a1:Int).toNat - (0:Int).toNat) fun i j=>iY.at a0.bK ((0:Int).toNat+i) j)) (y:=(.c (iY.tree ((a0.bK.drop (0:Int).toNat).take ((a1:Int).toNat - (0:Int).toNat))))) (eG.c (El.qN iY _ (vW (hv _ (List.Mem.head _))))) <|
   .lt _ fun x2 =>
   .bk 0 (fun gW=>⟨[sI 7 gW],[],[],0⟩) (
    .lp [] (fun dY=>⟨[sI 2 a2,sI 7 dY.1,(18,.c (iY.tree x2)),sI 19 (Int.ofNat x2.length),sI 20 dY.2],[],[],0⟩) fun dY =>
    .lt _ fun l8 =>
    .ite _ (
     .bk 1 (fun eZ=>⟨[sI 2 a2,sI 7 eZ,(18,.c (iY.tree x2)),sI 19 (Int.ofNat x2.length),sI 20 dY.2],[],[],0⟩) (
      .ck _ <|
      .lt _ fun x31 =>
      .ite _ (
       .nil [] _) (
       .nil [] _)) fun eZ =>
     .nil [] _) (
     .ret [] _)) fun gW =>
   .ret [] _))
def F11 (K:Nat) (a0:dD) (a1:Int):Option ((Int) ⊕ (Int)) :=
 ((bU (F47 K a0 a1 2)).bind (fun r1=>(some (.inl (r1)))))
theorem aIY (K:Nat) (a0:dD) (a1:Int):bR Tryz.prog 11 [.agg (dQ.cs a0),.c (.val (.int .i64 a1))] [] (bU (F11 K a0 a1)) (fun r=>.c (.val (.int .i64 r))) (fun r=>[]):=by
 refine bR.it Tryz.f11 (fun r=>⟨[sI 4 r],[],[],0⟩) ?_
 unfold F11
 exact Ref.pt (
  .call [] (aOd _ _ _ _) fun r1 =>
  .ret [] _)
def F83 (K:Nat) (a0:fP):Option ((Bytes) ⊕ (Bytes)) :=
 (if ((a0.bP:Int) == 5)=true then (some (.inl (([114]:Bytes)))) else (some (.inl (([105]:Bytes)))))
theorem aUi (K:Nat) (a0:fP):bR Tryz.prog 83 [.agg (gC.cs a0)] [] (bU (F83 K a0)) (fun r=>.c (.str r)) (fun r=>[]):=by
 refine bR.it Tryz.f83 (fun r=>⟨[sS 2 r],[],[],0⟩) ?_
 unfold F83
 exact Ref.pt (
  .ite _ (
   .ret [] _) (
   .ret [] _))
def F84 (K:Nat) (a0:fP):Option ((Int) ⊕ (Int)) :=
 (bM (bL (bM (if ((a0.bP:Int) == 6)=true then (some (.inr (((a0.bP:Int) == 6)))) else (some (.inr (((a0.bP:Int) == 7))))) (fun (u3:Bool)=>(if u3=true then (some (.inl (Sum.inr (0)))) else (if ((a0.bP:Int) == 4)=true then (some (.inl (Sum.inr ((eY (IntKind.i64.wrap (a0.vG+1)) 0))))) else (some (.inr ()))))))) (fun (u2:Unit)=>(some (.inl (1)))))
theorem aFZ (K:Nat) (a0:fP):bR Tryz.prog 84 [.agg (gC.cs a0)] [] (bU (F84 K a0)) (fun r=>.c (.val (.int .i64 r))) (fun r=>[]):=by
 refine bR.it Tryz.f84 (fun r=>⟨[sI 2 r],[],[],0⟩) ?_
 unfold F84
 exact Ref.pt (
  .bk 0 (fun u2=>⟨[],[],[],0⟩) (
   .jn (fun u3=>⟨[sP 1 0 0 0,sI 4 a0.bP,sB 5 u3],[.cells (gC.cs a0)],[],0⟩) (
    .ite _ (
     .nil [0] _) (
     .nil [0] _)) fun u3 =>
   .ite _ (
    .ret [] _) (
    .ite _ (
     .ret [] _) (
     .nil [] _))) fun u2 =>
  .ret [] _)
def F43 (K:Nat) (a0:dD):Option (((List dX)) ⊕ ((List dX))) :=
 (bM (bL ((iter K (fun (fS:(List dX) × (List dX) × Int)=>(bO (decide ((fS.2.2:Int)<(Int.ofNat a0.bK.length))) (fun (aW3:Bool)=>(if aW3=true then (bM (bL (bW [cS fS.2.2 a0.bK.length] (bO ((a0.bK.getD (fS.2.2:Int).toNat default).bP) (fun (aUk:Int)=>(bM (bL (if ((aUk:Int) == 2)=true then (bO ((a0.bK.getD (fS.2.2:Int).toNat default).bN) (fun (aOe:(List iI))=>(bO (Int.ofNat ((a0.bK.getD (fS.2.2:Int).toNat default).bN).length) (fun (aRh:Int)=>(bM (bL ((iter K (fun (lP:(List dX) × Int)=>(if (decide ((lP.2:Int)<aRh))=true then (bM (bL (bW [cS lP.2 aOe.length] (bO (!((aOe.getD (lP.2:Int).toNat default).eN)) (fun (aW4:Bool)=>(if aW4=true then (bW [room ((lP.1.length+([(⟨fS.2.2,lP.2⟩:dX)].length)) * 16)] (some (.inr ((lP.1++[(⟨fS.2.2,lP.2⟩:dX)]))))) else (some (.inr (lP.1)))))))) (fun (aOf:(List dX))=>(some (.inr (aOf,(IntKind.i64.wrap (lP.2+1))))))) else (some (.inl (Sum.inl (lP.1)))))) (fS.1,0)).map .inl)) (fun (aOg:(List dX))=>(some (.inr (aOg,fS.2.1))))))))) else (if ((aUk:Int) == 3)=true then (bW [room ((fS.2.1.length+([(⟨fS.2.2,(-1)⟩:dX)].length)) * 16)] (some (.inr (fS.1,(fS.2.1++[(⟨fS.2.2,(-1)⟩:dX)]))))) else (some (.inr (fS.1,fS.2.1)))))) (fun (aG4:(List dX) × (List dX))=>(some (.inr (aG4.1,aG4.2))))))))) (fun (aBk:(List dX) × (List dX))=>(some (.inr (aBk.1,aBk.2,(IntKind.i64.wrap (fS.2.2+1))))))) else (some (.inl (Sum.inl (fS.1,fS.2.1)))))))) ([],[],0)).map .inl)) (fun (pX:(List dX) × (List dX))=>(bW [room ((pX.1.length+pX.2.length) * 16)] (some (.inl ((pX.1++pX.2)))))))
abbrev aE4 (v0:dD) (v1:(List dX) × (List dX) × Int):List (Nat × D):=[(10,.c (iY.tree v0.bK)),sI 11 (Int.ofNat v0.bK.length),sI 12 v1.2.2]
theorem aOh (K:Nat) (a0:dD):bR Tryz.prog 43 [.agg (dQ.cs a0)] [] (bU (F43 K a0)) (fun r=>.c (dS.tree r)) (fun r=>[]):=by
 refine bR.it Tryz.f43 (fun r=>⟨[(2,.c (dS.tree r))],[],[],0⟩) ?_
 unfold F43
 exact Ref.pt (
  .bk 0 (fun pX=>⟨[(3,.c (.own 0 pX.1.length)),(4,.c (.own 1 pX.2.length))],[dS.row pX.1,dS.row pX.2],[],0⟩) (
   .ad 2 0 3 dS.ty dS.w (dS.at []) <|
   .ad 2 0 4 dS.ty dS.w (dS.at []) <|
   .lp [1,2] (fun fS=>⟨(3,.c (.own 0 fS.1.length))::(4,.c (.own 1 fS.2.1.length))::aE4 a0 fS,[dS.row fS.1,dS.row fS.2.1],[],0⟩) fun fS =>
   .lt _ fun aW3 =>
   .ite _ (
    .bk 1 (fun aBk=>⟨(3,.c (.own 0 aBk.1.length))::(4,.c (.own 1 aBk.2.length))::aE4 a0 fS,[dS.row aBk.1,dS.row aBk.2],[],0⟩) (
     .ck _ <|
     .lt _ fun aUk =>
     .bk 2 (fun aG4=>⟨(3,.c (.own 0 aG4.1.length))::(4,.c (.own 1 aG4.2.length))::aE4 a0 fS,[dS.row aG4.1,dS.row aG4.2],[],0⟩) (
      .ite _ (
       .lt _ fun aOe =>
       .lt _ fun aRh =>
       .bk 3 (fun aOg=>⟨(3,.c (.own 0 aOg.length))::(4,.c (.own 1 fS.2.1.length))::aE4 a0 fS,[dS.row aOg,dS.row fS.2.1],[],0⟩) (
        .lp [0,1] (fun lP=>⟨(3,.c (.own 0 lP.1.length))::(4,.c (.own 1 fS.2.1.length))::sI 5 fS.2.2::(aE4 a0 fS++[(22,.c (kT.tree aOe)),sI 23 aRh,sI 24 lP.2]),[dS.row lP.1,dS.row fS.2.1],[],0⟩) fun lP =>
        .ite _ (
         .bk 4 (fun aOf=>⟨(3,.c (.own 0 aOf.length))::(4,.c (.own 1 fS.2.1.length))::sI 5 fS.2.2::(aE4 a0 fS++[(22,.c (kT.tree aOe)),sI 23 aRh,sI 24 lP.2]),[dS.row aOf,dS.row fS.2.1],[],0⟩) (
          .ck _ <|
          .lt _ fun aW4 =>
          .ite _ (
           .ob 11 2 3 (x:=.row 66 2 1 (hG [[iC fS.2.2,iC lP.2]])) (y:=(dS.row [(⟨fS.2.2,lP.2⟩:dX)])) (El.bZ dS [(⟨fS.2.2,lP.2⟩:dX)] rfl (by kernel_rfl)) <|
           .sl 11 2 36 (x:=.c (.own 3 1)) (y:=(.c (.own 3 ([(⟨fS.2.2,lP.2⟩:dX)].length)))) (eG.c (eD.own (by first | (simp;done) | (simp;omega) | omega))) <|
           .ck _ <|
           .ob 11 1 4 (x:=.row 66 2 (lP.1.length+([(⟨fS.2.2,lP.2⟩:dX)].length)) fun i j=>bif Nat.blt i lP.1.length then dS.at lP.1 i j else (dS.at [(⟨fS.2.2,lP.2⟩:dX)]) (i - lP.1.length) j) (y:=(dS.row (lP.1++[(⟨fS.2.2,lP.2⟩:dX)]))) (El.cH dS lP.1 [(⟨fS.2.2,lP.2⟩:dX)] rfl rfl) <|
           .sl 11 1 37 (x:=.c (.own 4 (lP.1.length+([(⟨fS.2.2,lP.2⟩:dX)].length)))) (y:=(.c (.own 4 ((lP.1++[(⟨fS.2.2,lP.2⟩:dX)]).length)))) (eG.c (eD.own (by first | (simp;done) | (simp;omega) | omega))) <|
           .nil [4,1] _) (
           .nil [0,1] _)) fun aOf =>
         .nil [0,1] _) (
         .ret [0,1] _)) fun aOg =>
       .nil [0,1] _) (
       .ite _ (
        .ob 14 2 3 (x:=.row 66 2 1 (hG [[iC fS.2.2,iC (-1)]])) (y:=(dS.row [(⟨fS.2.2,(-1)⟩:dX)])) (El.bZ dS [(⟨fS.2.2,(-1)⟩:dX)] rfl (by kernel_rfl)) <|
        .sl 14 2 44 (x:=.c (.own 3 1)) (y:=(.c (.own 3 ([(⟨fS.2.2,(-1)⟩:dX)].length)))) (eG.c (eD.own (by first | (simp;done) | (simp;omega) | omega))) <|
        .ck _ <|
        .ob 14 1 4 (x:=.row 66 2 (fS.2.1.length+([(⟨fS.2.2,(-1)⟩:dX)].length)) fun i j=>bif Nat.blt i fS.2.1.length then dS.at fS.2.1 i j else (dS.at [(⟨fS.2.2,(-1)⟩:dX)]) (i - fS.2.1.length) j) (y:=(dS.row (fS.2.1++[(⟨fS.2.2,(-1)⟩:dX)]))) (El.cH dS fS.2.1 [(⟨fS.2.2,(-1)⟩:dX)] rfl rfl) <|
        .sl 14 1 45 (x:=.c (.own 4 (fS.2.1.length+([(⟨fS.2.2,(-1)⟩:dX)].length)))) (y:=(.c (.own 4 ((fS.2.1++[(⟨fS.2.2,(-1)⟩:dX)]).length)))) (eG.c (eD.own (by first | (simp;done) | (simp;omega) | omega))) <|
        .nil [0,4] _) (
        .nil [0,1] _))) fun aG4 =>
     .nil [0,1] _) fun aBk =>
    .nil [0,1] _) (
    .ret [0,1] _)) fun pX =>
  .ck _ <|
  .ob 16 1 2 (x:=.row 66 2 (pX.1.length+pX.2.length) fun i j=>bif Nat.blt i pX.1.length then dS.at pX.1 i j else (dS.at pX.2) (i - pX.1.length) j) (y:=(dS.row (pX.1++pX.2))) (El.cH dS pX.1 pX.2 rfl rfl) <|
  .sl 16 1 49 (x:=.c (.own 2 (pX.1.length+pX.2.length))) (y:=(.c (.own 2 ((pX.1++pX.2).length)))) (eG.c (eD.own (by first | (simp;done) | (simp;omega) | omega))) <|
  .fz 16 0 2 <|
  .ret [] _)
def F57 (K:Nat) (a0:(List dX)) (a1:dX):Option ((Int) ⊕ (Int)) :=
 (bM (bL ((iter K (fun (jH:Int)=>(bO (decide ((jH:Int)<(Int.ofNat a0.length))) (fun (yV:Bool)=>(if yV=true then (bM (bL (bW [cS jH a0.length] (bO (((a1.dA:Int) == ((a0.getD (jH:Int).toNat default).dA)) && (((a1.dH:Int) == ((a0.getD (jH:Int).toNat default).dH)) && true)) (fun (iW:Bool)=>(if iW=true then (some (.inl (Sum.inr (Sum.inr (jH))))) else (some (.inr ()))))))) (fun (gX:Unit)=>(some (.inr ((IntKind.i64.wrap (jH+1))))))) else (some (.inl (Sum.inl ()))))))) (0)).map .inl)) (fun (wC:Unit)=>(some (.inl ((-1))))))
theorem aUl (K:Nat) (a0:(List dX)) (a1:dX):bR Tryz.prog 57 [.c (dS.tree a0),.agg (dS.cs a1)] [] (bU (F57 K a0 a1)) (fun r=>.c (.val (.int .i64 r))) (fun r=>[]):=by
 refine bR.it Tryz.f57 (fun r=>⟨[sI 4 r],[],[],0⟩) ?_
 unfold F57
 exact Ref.pt (
  .bk 0 (fun wC=>⟨[],[],[],0⟩) (
   .lp [0] (fun jH=>⟨[(0,.c (dS.tree a0)),sP 3 0 0 0,sI 7 (Int.ofNat a0.length),sI 8 jH],[.cells (dS.cs a1)],[],0⟩) fun jH =>
   .lt _ fun yV =>
   .ite _ (
    .bk 1 (fun gX=>⟨[(0,.c (dS.tree a0)),sP 3 0 0 0,sI 7 (Int.ofNat a0.length),sI 8 jH],[.cells (dS.cs a1)],[],0⟩) (
     .mT [1,2,3] _ <|
     .tx [] <|
     .ex [0,4,5] <|
     .lt _ fun iW =>
     .ite _ (
      .ret [] _) (
      .nil [0] _)) fun gX =>
    .nil [0] _) (
    .ret [] _)) fun wC =>
  .ret [] _)
def F19 (K:Nat) (a0:dD) (a1:dX):Option ((Int) ⊕ (Int)) :=
 ((bU (F43 K a0)).bind (fun r3=>((cK true (bU (F57 K r3 a1)) default).bind (fun r4=>(some (.inl (r4)))))))
theorem aIZ (K:Nat) (a0:dD) (a1:dX):bR Tryz.prog 19 [.agg (dQ.cs a0),.agg (dS.cs a1)] [] (bU (F19 K a0 a1)) (fun r=>.c (.val (.int .i64 r))) (fun r=>[]):=by
 refine bR.it Tryz.f19 (fun r=>⟨[sI 4 r],[],[],0⟩) ?_
 unfold F19
 exact Ref.pt (
  .esc [0,1] [(cd (bd Tryz.f19) [1,0]),(cd (bd Tryz.f19) [1,1])] ⟨[sP 2 0 0 0,sP 3 1 0 0],[.cells (dQ.cs a0),.cells (dS.cs a1)],[],0⟩ (by
   refine Ref.eR 1 (by kernel_rfl) (by kernel_rfl) ?_
   refine dV.rG [1] ?_
   refine bQ.fE (cR:=⟨[sP 3 0 0 0,(5,.agg (dQ.cs a0))],[.cells (dS.cs a1)],[],0⟩) (fuel':=4) [0] [3,5] [1] rfl (by kernel_rfl) (by kernel_rfl) ?_
   refine bQ.iT (fuel':=3) [[],[(2,7)]] [(2,7)] [3,5] [0] ⟨[sP 3 0 0 0,(5,.agg (dQ.cs a0)),(7,.agg (dS.cs a1))],[.cells (dS.cs a1)],[],0⟩ ?_
   refine cQ.cP (fuel':=2) 1 ?_
   refine dP.cF (t:=6) 1 [] rfl (by kernel_rfl) (aOh K a0) (fun r3=>?_)
   refine cQ.close ?_
   refine bQ.lV (t:=8) (g:=[]) (b:=true) (fuel':=1) 3 [] (default:Int) rfl (by kernel_rfl) (by kernel_rfl) (aUl K r3 a1) (fun _=>rfl) (fun r4=>?_)
   refine bQ.fE (cR:=⟨[sI 4 r4],[],[],0⟩) (fuel':=0) [4] [4] [] rfl (by kernel_rfl) (by kernel_rfl) ?_
   refine bQ.done (by kernel_rfl) ?_
   exact Ref.pt (
    .ret [] _)))
def F55 (K:Nat) (a0:dD):Option (((List Int)) ⊕ ((List Int))) :=
 (bM (bL ((iter K (fun (dY:(List Int) × Int)=>(bO (decide ((dY.2:Int)<(Int.ofNat a0.bK.length))) (fun (l8:Bool)=>(if l8=true then (bM (bL ((bU (F50 K a0 dY.2 3)).bind (fun xC=>(if xC=true then (bW [room ((dY.1.length+([dY.2].length)) * 8)] (some (.inr ((dY.1++[dY.2]))))) else (some (.inr (dY.1))))))) (fun (eZ:(List Int))=>(some (.inr (eZ,(IntKind.i64.wrap (dY.2+1))))))) else (some (.inl (Sum.inl (dY.1)))))))) ([],0)).map .inl)) (fun (u16:(List Int))=>(some (.inl (u16)))))
theorem aOi (K:Nat) (a0:dD):bR Tryz.prog 55 [.agg (dQ.cs a0)] [] (bU (F55 K a0)) (fun r=>.c (E3.tree r)) (fun r=>[]):=by
 refine bR.it Tryz.f55 (fun r=>⟨[(2,.c (E3.tree r))],[],[],0⟩) ?_
 unfold F55
 exact Ref.pt (
  .bk 0 (fun u16=>⟨[(3,.c (.own 0 u16.length))],[E3.row u16],[],0⟩) (
   .ad 2 0 3 E3.ty E3.w (E3.at []) <|
   .lp [0,1] (fun dY=>⟨[sP 1 0 0 0,(3,.c (.own 1 dY.1.length)),sI 7 (Int.ofNat a0.bK.length),sI 8 dY.2],[.cells (dQ.cs a0),E3.row dY.1],[],0⟩) fun dY =>
   .lt _ fun l8 =>
   .ite _ (
    .bk 1 (fun eZ=>⟨[sP 1 0 0 0,(3,.c (.own 1 eZ.length)),sI 7 (Int.ofNat a0.bK.length),sI 8 dY.2],[.cells (dQ.cs a0),E3.row eZ],[],0⟩) (
     .call [] (aIX _ _ _ _) fun xC =>
     .ite _ (
      .ob 6 2 2 (x:=.row 3 1 1 (hG [[iC dY.2]])) (y:=(E3.row [dY.2])) (El.bZ E3 [dY.2] rfl (by kernel_rfl)) <|
      .sl 6 2 16 (x:=.c (.own 2 1)) (y:=(.c (.own 2 ([dY.2].length)))) (eG.c (eD.own (by first | (simp;done) | (simp;omega) | omega))) <|
      .ck _ <|
      .ob 6 1 3 (x:=.row 3 1 (dY.1.length+([dY.2].length)) fun i j=>bif Nat.blt i dY.1.length then E3.at dY.1 i j else (E3.at [dY.2]) (i - dY.1.length) j) (y:=(E3.row (dY.1++[dY.2]))) (El.cH E3 dY.1 [dY.2] rfl rfl) <|
      .sl 6 1 17 (x:=.c (.own 3 (dY.1.length+([dY.2].length)))) (y:=(.c (.own 3 ((dY.1++[dY.2]).length)))) (eG.c (eD.own (by first | (simp;done) | (simp;omega) | omega))) <|
      .nil [0,3] _) (
      .nil [0,1] _)) fun eZ =>
    .nil [0,1] _) (
    .ret [1] _)) fun u16 =>
  .fz 8 0 0 <|
  .ret [] _)
def F37 (K:Nat) (a0:dD):Option (((List fG)) ⊕ ((List fG))) :=
 ((bU (F55 K a0)).bind (fun r1=>(bM (bL ((iter K (fun (nO:(List fG) × Int)=>(bO (decide ((nO.2:Int)<(Int.ofNat r1.length))) (fun (x27:Bool)=>(if x27=true then (bM (bL (bW [cS nO.2 r1.length] (bW [cS (r1.getD (nO.2:Int).toNat default) a0.bK.length] (bO ((a0.bK.getD ((r1.getD (nO.2:Int).toNat default):Int).toNat default).cU) (fun (x30:(List fG))=>(bW [room ((nO.1.length+x30.length) * 80)] (some (.inr ((nO.1++x30)))))))))) (fun (u29:(List fG))=>(some (.inr (u29,(IntKind.i64.wrap (nO.2+1))))))) else (some (.inl (Sum.inl (nO.1)))))))) ([],0)).map .inl)) (fun (u16:(List fG))=>(some (.inl (u16)))))))
theorem pJ (K:Nat) (a0:dD):bR Tryz.prog 37 [.agg (dQ.cs a0)] [] (bU (F37 K a0)) (fun r=>.c (eU.tree r)) (fun r=>[]):=by
 refine bR.it Tryz.f37 (fun r=>⟨[(2,.c (eU.tree r))],[],[],0⟩) ?_
 unfold F37
 exact Ref.pt (
  .call [] (aOi _ _) fun r1 =>
  .bk 0 (fun u16=>⟨[(3,.c (.own 0 u16.length))],[eU.row u16],[],0⟩) (
   .ad 2 0 3 eU.ty eU.w (eU.at []) <|
   .lp [0,1] (fun nO=>⟨[sP 1 0 0 0,(3,.c (.own 1 nO.1.length)),(7,.c (E3.tree r1)),sI 8 (Int.ofNat r1.length),sI 9 nO.2],[.cells (dQ.cs a0),eU.row nO.1],[],0⟩) fun nO =>
   .lt _ fun x27 =>
   .ite _ (
    .bk 1 (fun u29=>⟨[sP 1 0 0 0,(3,.c (.own 1 u29.length)),(7,.c (E3.tree r1)),sI 8 (Int.ofNat r1.length),sI 9 nO.2],[.cells (dQ.cs a0),eU.row u29],[],0⟩) (
     .ck _ <|
     .ck _ <|
     .lt _ fun x30 =>
     .ck _ <|
     .ob 5 1 2 (x:=.row 41 8 (nO.1.length+x30.length) fun i j=>bif Nat.blt i nO.1.length then eU.at nO.1 i j else (eU.at x30) (i - nO.1.length) j) (y:=(eU.row (nO.1++x30))) (El.cH eU nO.1 x30 rfl rfl) <|
     .sl 5 1 20 (x:=.c (.own 2 (nO.1.length+x30.length))) (y:=(.c (.own 2 ((nO.1++x30).length)))) (eG.c (eD.own (by first | (simp;done) | (simp;omega) | omega))) <|
     .nil [0,2] _) fun u29 =>
    .nil [0,1] _) (
    .ret [1] _)) fun u16 =>
  .fz 7 0 0 <|
  .ret [] _)
def F38 (K:Nat) (a0:(List fG)):Option (((List Int)) ⊕ ((List Int))) :=
 (bM (bL ((iter K (fun (jK:(List Int) × Int)=>(bO (decide ((jK.2:Int)<(Int.ofNat a0.length))) (fun (aOj:Bool)=>(if aOj=true then (bM (bL (bW [cS jK.2 a0.length] ((bU (F84 K ((a0.getD (jK.2:Int).toNat default).cI))).bind (fun aDL=>(bM (bL ((iter K (fun (jL:(List Int) × Int)=>(bO (decide ((jL.2:Int)<(wA aDL 10000))) (fun (aOk:Bool)=>(if aOk=true then (bM (bL (bO ((((((a0.getD (jK.2:Int).toNat default).cI).bP):Int) == 4) || (((((a0.getD (jK.2:Int).toNat default).cI).bP):Int) == 5)) (fun (aOl:Bool)=>(bM (if aOl=true then (some (.inr (0))) else (some (.inr ((a0.getD (jK.2:Int).toNat default).fY)))) (fun (mH:Int)=>(bW [room ((jL.1.length+([mH].length)) * 8)] (some (.inr ((jL.1++[mH])))))))))) (fun (aDM:(List Int))=>(some (.inr (aDM,(IntKind.i64.wrap (jL.2+1))))))) else (some (.inl (Sum.inl (jL.1)))))))) (jK.1,0)).map .inl)) (fun (aDN:(List Int))=>(some (.inr (aDN))))))))) (fun (aDO:(List Int))=>(some (.inr (aDO,(IntKind.i64.wrap (jK.2+1))))))) else (some (.inl (Sum.inl (jK.1)))))))) ([],0)).map .inl)) (fun (aDP:(List Int))=>(some (.inl (aDP)))))
theorem uG (K:Nat) (a0:(List fG)):bR Tryz.prog 38 [.c (eU.tree a0)] [] (bU (F38 K a0)) (fun r=>.c (E3.tree r)) (fun r=>[]):=by
 refine bR.it Tryz.f38 (fun r=>⟨[(2,.c (E3.tree r))],[],[],0⟩) ?_
 unfold F38
 exact Ref.pt (
  .bk 0 (fun aDP=>⟨[(3,.c (.own 0 aDP.length))],[E3.row aDP],[],0⟩) (
   .ad 2 0 3 E3.ty E3.w (E3.at []) <|
   .lp [0] (fun jK=>⟨[(3,.c (.own 0 jK.1.length)),(7,.c (eU.tree a0)),sI 8 (Int.ofNat a0.length),sI 9 jK.2],[E3.row jK.1],[],0⟩) fun jK =>
   .lt _ fun aOj =>
   .ite _ (
    .bk 1 (fun aDO=>⟨[(3,.c (.own 0 aDO.length)),(7,.c (eU.tree a0)),sI 8 (Int.ofNat a0.length),sI 9 jK.2],[E3.row aDO],[],0⟩) (
     .ck _ <|
     .call [] (aFZ _ _) fun aDL =>
     .bk 2 (fun aDN=>⟨[(3,.c (.own 0 aDN.length)),(7,.c (eU.tree a0)),sI 8 (Int.ofNat a0.length),sI 9 jK.2],[E3.row aDN],[],0⟩) (
      .lp [0,1] (fun jL=>⟨[(3,.c (.own 0 jL.1.length)),sP 5 1 0 0,(7,.c (eU.tree a0)),sI 8 (Int.ofNat a0.length),sI 9 jK.2,sI 16 (wA aDL 10000),sI 17 jL.2],[E3.row jL.1,eU.o (gd a0 jK.2)],[],0⟩) fun jL =>
      .lt _ fun aOk =>
      .ite _ (
       .bk 3 (fun aDM=>⟨[(3,.c (.own 0 aDM.length)),sP 5 1 0 0,(7,.c (eU.tree a0)),sI 8 (Int.ofNat a0.length),sI 9 jK.2,sI 16 (wA aDL 10000),sI 17 jL.2],[E3.row aDM,eU.o (gd a0 jK.2)],[],0⟩) (
        .lt _ fun aOl =>
        .jn (fun mH=>⟨[(3,.c (.own 0 jL.1.length)),sP 5 1 0 0,sI 6 mH,(7,.c (eU.tree a0)),sI 8 (Int.ofNat a0.length),sI 9 jK.2,sI 16 (wA aDL 10000),sI 17 jL.2],[E3.row jL.1,eU.o (gd a0 jK.2)],[],0⟩) (
         .ite _ (
          .nil [0,1] _) (
          .nil [0,1] _)) fun mH =>
        .ob 10 2 2 (x:=.row 3 1 1 (hG [[iC mH]])) (y:=(E3.row [mH])) (El.bZ E3 [mH] rfl (by kernel_rfl)) <|
        .sl 10 2 33 (x:=.c (.own 2 1)) (y:=(.c (.own 2 ([mH].length)))) (eG.c (eD.own (by first | (simp;done) | (simp;omega) | omega))) <|
        .ck _ <|
        .ob 10 1 3 (x:=.row 3 1 (jL.1.length+([mH].length)) fun i j=>bif Nat.blt i jL.1.length then E3.at jL.1 i j else (E3.at [mH]) (i - jL.1.length) j) (y:=(E3.row (jL.1++[mH]))) (El.cH E3 jL.1 [mH] rfl rfl) <|
        .sl 10 1 34 (x:=.c (.own 3 (jL.1.length+([mH].length)))) (y:=(.c (.own 3 ((jL.1++[mH]).length)))) (eG.c (eD.own (by first | (simp;done) | (simp;omega) | omega))) <|
        .nil [3,1] _) fun aDM =>
       .nil [0,1] _) (
       .ret [0] _)) fun aDN =>
     .nil [0] _) fun aDO =>
    .nil [0] _) (
    .ret [0] _)) fun aDP =>
  .fz 13 0 0 <|
  .ret [] _)
def aRj (K:Nat) (a0:(List fG)):Option (((List Int)) ⊕ ((List Int))) :=
 (bM (bL ((iter K (fun (jK:(List Int) × Int)=>(bO (decide ((jK.2:Int)<(Int.ofNat a0.length))) (fun (aOj:Bool)=>(if aOj=true then (bM (bL (bW [cS jK.2 a0.length] ((bU (F84 K ((a0.getD (jK.2:Int).toNat default).cI))).bind (fun aDL=>(bM (bL ((iter K (fun (jL:(List Int) × Int)=>(bO (decide ((jL.2:Int)<(wA aDL 10000))) (fun (aOk:Bool)=>(if aOk=true then (bM (bL (bO ((((((a0.getD (jK.2:Int).toNat default).cI).bP):Int) == 4) || (((((a0.getD (jK.2:Int).toNat default).cI).bP):Int) == 5)) (fun (aOl:Bool)=>(bM (if aOl=true then (some (.inr (0))) else (some (.inr ((a0.getD (jK.2:Int).toNat default).fY)))) (fun (mH:Int)=>(bW [room ((jL.1.length+([mH].length)) * 8)] (some (.inr ((jL.1++[mH])))))))))) (fun (aDM:(List Int))=>(some (.inr (aDM,(IntKind.i64.wrap (jL.2+1))))))) else (some (.inl (Sum.inl (jL.1)))))))) (jK.1,0)).map .inl)) (fun (aDN:(List Int))=>(some (.inr (aDN))))))))) (fun (aDO:(List Int))=>(some (.inr (aDO,(IntKind.i64.wrap (jK.2+1))))))) else (some (.inl (Sum.inl (jK.1)))))))) ([],0)).map .inl)) (fun (aDP:(List Int))=>(some (.inl (aDP)))))
theorem pY (K:Nat) (a0:(List fG)):bR Tryz.prog 38 [.c (eU.tree a0)] [] (bU (aRj K a0)) (fun r=>.c (.own 0 r.length)) (fun r=>[E3.row r]):=by
 refine bR.it Tryz.f38 (fun r=>⟨[(2,.c (.own 0 r.length))],[E3.row r],[],0⟩) ?_
 unfold aRj
 exact Ref.pt (
  .bk 0 (fun aDP=>⟨[(3,.c (.own 0 aDP.length))],[E3.row aDP],[],0⟩) (
   .ad 2 0 3 E3.ty E3.w (E3.at []) <|
   .lp [0] (fun jK=>⟨[(3,.c (.own 0 jK.1.length)),(7,.c (eU.tree a0)),sI 8 (Int.ofNat a0.length),sI 9 jK.2],[E3.row jK.1],[],0⟩) fun jK =>
   .lt _ fun aOj =>
   .ite _ (
    .bk 1 (fun aDO=>⟨[(3,.c (.own 0 aDO.length)),(7,.c (eU.tree a0)),sI 8 (Int.ofNat a0.length),sI 9 jK.2],[E3.row aDO],[],0⟩) (
     .ck _ <|
     .call [] (aFZ _ _) fun aDL =>
     .bk 2 (fun aDN=>⟨[(3,.c (.own 0 aDN.length)),(7,.c (eU.tree a0)),sI 8 (Int.ofNat a0.length),sI 9 jK.2],[E3.row aDN],[],0⟩) (
      .lp [0,1] (fun jL=>⟨[(3,.c (.own 0 jL.1.length)),sP 5 1 0 0,(7,.c (eU.tree a0)),sI 8 (Int.ofNat a0.length),sI 9 jK.2,sI 16 (wA aDL 10000),sI 17 jL.2],[E3.row jL.1,eU.o (gd a0 jK.2)],[],0⟩) fun jL =>
      .lt _ fun aOk =>
      .ite _ (
       .bk 3 (fun aDM=>⟨[(3,.c (.own 0 aDM.length)),sP 5 1 0 0,(7,.c (eU.tree a0)),sI 8 (Int.ofNat a0.length),sI 9 jK.2,sI 16 (wA aDL 10000),sI 17 jL.2],[E3.row aDM,eU.o (gd a0 jK.2)],[],0⟩) (
        .lt _ fun aOl =>
        .jn (fun mH=>⟨[(3,.c (.own 0 jL.1.length)),sP 5 1 0 0,sI 6 mH,(7,.c (eU.tree a0)),sI 8 (Int.ofNat a0.length),sI 9 jK.2,sI 16 (wA aDL 10000),sI 17 jL.2],[E3.row jL.1,eU.o (gd a0 jK.2)],[],0⟩) (
         .ite _ (
          .nil [0,1] _) (
          .nil [0,1] _)) fun mH =>
        .ob 10 2 2 (x:=.row 3 1 1 (hG [[iC mH]])) (y:=(E3.row [mH])) (El.bZ E3 [mH] rfl (by kernel_rfl)) <|
        .sl 10 2 33 (x:=.c (.own 2 1)) (y:=(.c (.own 2 ([mH].length)))) (eG.c (eD.own (by first | (simp;done) | (simp;omega) | omega))) <|
        .ck _ <|
        .ob 10 1 3 (x:=.row 3 1 (jL.1.length+([mH].length)) fun i j=>bif Nat.blt i jL.1.length then E3.at jL.1 i j else (E3.at [mH]) (i - jL.1.length) j) (y:=(E3.row (jL.1++[mH]))) (El.cH E3 jL.1 [mH] rfl rfl) <|
        .sl 10 1 34 (x:=.c (.own 3 (jL.1.length+([mH].length)))) (y:=(.c (.own 3 ((jL.1++[mH]).length)))) (eG.c (eD.own (by first | (simp;done) | (simp;omega) | omega))) <|
        .nil [3,1] _) fun aDM =>
       .nil [0,1] _) (
       .ret [0] _)) fun aDN =>
     .nil [0] _) fun aDO =>
    .nil [0] _) (
    .ret [0] _)) fun aDP =>
  .ret [0] _)
def F86 (K:Nat) (a0:Bytes) (a1:Bool):Option ((Bytes) ⊕ (Bytes)) :=
 (if a1=true then (bW [room (a0.length+([62,105]:Bytes).length)] (some (.inl ((a0++([62,105]:Bytes)))))) else (bW [room (a0.length+([62]:Bytes).length)] (some (.inl ((a0++([62]:Bytes)))))))
theorem aUm (K:Nat) (a0:Bytes) (a1:Bool):bR Tryz.prog 86 [.c (.str a0),.c (.val (.bool a1))] [] (bU (F86 K a0 a1)) (fun r=>.c (.str r)) (fun r=>[]):=by
 refine bR.it Tryz.f86 (fun r=>⟨[sS 4 r],[],[],0⟩) ?_
 unfold F86
 exact Ref.pt (
  .ite _ (
   .ck _ <|
   .ret [] _) (
   .ck _ <|
   .ret [] _))
def F22 (K:Nat) (a0:dD) (a1:Int):Option ((Int) ⊕ (Int)) :=
 ((bU (F47 K a0 a1 1)).bind (fun r1=>(some (.inl (r1)))))
theorem aUn (K:Nat) (a0:dD) (a1:Int):bR Tryz.prog 22 [.agg (dQ.cs a0),.c (.val (.int .i64 a1))] [] (bU (F22 K a0 a1)) (fun r=>.c (.val (.int .i64 r))) (fun r=>[]):=by
 refine bR.it Tryz.f22 (fun r=>⟨[sI 4 r],[],[],0⟩) ?_
 unfold F22
 exact Ref.pt (
  .call [] (aOd _ _ _ _) fun r1 =>
  .ret [] _)
def F51 (K:Nat) (a0:(List fG)) (a1:Bytes):Option ((Int) ⊕ (Int)) :=
 (bM (bL ((iter K (fun (gX:Int × Int)=>(bO (decide ((gX.2:Int)<(Int.ofNat a0.length))) (fun (x38:Bool)=>(if x38=true then (bM (bL (bW [cS gX.2 a0.length] ((bU (F84 K ((a0.getD (gX.2:Int).toNat default).cI))).bind (fun qO=>(bO ((((a0.getD (gX.2:Int).toNat default).cG) == a1) && (decide (((wA qO 10000):Int) > 0))) (fun (x44:Bool)=>(if x44=true then (some (.inl (Sum.inr (Sum.inr (gX.1))))) else (bO (IntKind.i64.wrap (gX.1+(wA qO 10000))) (fun (x45:Int)=>(some (.inr (x45)))))))))))) (fun (u42:Int)=>(some (.inr (u42,(IntKind.i64.wrap (gX.2+1))))))) else (some (.inl (Sum.inl ()))))))) (0,0)).map .inl)) (fun (nO:Unit)=>(some (.inl ((-1))))))
theorem aUp (K:Nat) (a0:(List fG)) (a1:Bytes):bR Tryz.prog 51 [.c (eU.tree a0),.c (.str a1)] [] (bU (F51 K a0 a1)) (fun r=>.c (.val (.int .i64 r))) (fun r=>[]):=by
 refine bR.it Tryz.f51 (fun r=>⟨[sI 4 r],[],[],0⟩) ?_
 unfold F51
 exact Ref.pt (
  .bk 0 (fun nO=>⟨[],[],[],0⟩) (
   .lp [] (fun gX=>⟨[sS 1 a1,sI 5 gX.1,(9,.c (eU.tree a0)),sI 10 (Int.ofNat a0.length),sI 11 gX.2],[],[],0⟩) fun gX =>
   .lt _ fun x38 =>
   .ite _ (
    .bk 1 (fun u42=>⟨[sS 1 a1,sI 5 u42,(9,.c (eU.tree a0)),sI 10 (Int.ofNat a0.length),sI 11 gX.2],[],[],0⟩) (
     .ck _ <|
     .call [] (aFZ _ _) fun qO =>
     .lt _ fun x44 =>
     .ite _ (
      .ret [] _) (
      .lt _ fun x45 =>
      .nil [] _)) fun u42 =>
    .nil [] _) (
    .ret [] _)) fun nO =>
  .ret [] _)
end Go.Proofs.YtdbfbedholdjaaaGreat

namespace Go.Proofs.YtdbfbedholdjaaaGreat
open Go Go.Proofs Go.Dl
variable [eC]
set_option maxRecDepth 100000
set_option maxHeartbeats 4000000
def F92 (K:Nat) (a0:jX) (a1:Bytes):Option ((Bool) ⊕ (Bool)) :=
 (some (.inl ((a0.cG == a1))))
theorem aUq (K:Nat) (a0:jX) (a1:Bytes):bR Tryz.prog 92 [.agg (iY.cs a0),.c (E9.ep a1 0)] [] (bU (F92 K a0 a1)) (fun r=>.c (.val (.bool r))) (fun r=>[]):=by
 refine bR.it Tryz.f92 (fun r=>⟨[sB 3 r],[],[],0⟩) ?_
 unfold F92
 exact Ref.pt (
  .ret [] _)
def aDQ (K:Nat) (a0:(List jX)) (aBl:Bytes):Option ((Int) ⊕ (Int)) :=
 (bM (bL ((iter K (fun (jH:Int)=>(bO (decide ((jH:Int)<(Int.ofNat a0.length))) (fun (yV:Bool)=>(if yV=true then (bM (bL (bW [cS jH a0.length] ((bU (F92 K (a0.getD (jH:Int).toNat default) aBl)).bind (fun r29=>(if r29=true then (some (.inl (Sum.inr (Sum.inr (jH))))) else (some (.inr ()))))))) (fun (gX:Unit)=>(some (.inr ((IntKind.i64.wrap (jH+1))))))) else (some (.inl (Sum.inl ()))))))) (0)).map .inl)) (fun (wC:Unit)=>(some (.inl ((-1))))))
theorem aMb (K:Nat) (a0:(List jX)) (aBl:Bytes):bR Tryz.prog 91 [.c (iY.tree a0),.c (.func (.func 92) 1 (fun i=>([E9.ep aBl 0]:List C).getD i .bot))] [] (bU (aDQ K a0 aBl)) (fun r=>.c (.val (.int .i64 r))) (fun r=>[]):=by
 refine bR.it Tryz.f91 (fun r=>⟨[sI 4 r],[],[],0⟩) ?_
 unfold aDQ
 exact Ref.pt (
  .bk 0 (fun wC=>⟨[],[],[],0⟩) (
   .lp [] (fun jH=>⟨[(0,.c (iY.tree a0)),(1,.c (.func (.func 92) 1 (fun i=>([E9.ep aBl 0]:List C).getD i .bot))),sI 7 (Int.ofNat a0.length),sI 8 jH],[],[],0⟩) fun jH =>
   .lt _ fun yV =>
   .ite _ (
    .bk 1 (fun gX=>⟨[(0,.c (iY.tree a0)),(1,.c (.func (.func 92) 1 (fun i=>([E9.ep aBl 0]:List C).getD i .bot))),sI 7 (Int.ofNat a0.length),sI 8 jH],[],[],0⟩) (
     .ck _ <|
     .call [] (aUq _ _ _) fun r29 =>
     .ite _ (
      .ret [] _) (
      .nil [] _)) fun gX =>
    .nil [] _) (
    .ret [] _)) fun wC =>
  .ret [] _)
def F42 (K:Nat) (a0:dD) (a1:Bytes):Option ((Int) ⊕ (Int)) :=
 ((bU (aDQ K a0.bK a1)).bind (fun r1=>(some (.inl (r1)))))
theorem aF0 (K:Nat) (a0:dD) (a1:Bytes):bR Tryz.prog 42 [.agg (dQ.cs a0),.c (.str a1)] [] (bU (F42 K a0 a1)) (fun r=>.c (.val (.int .i64 r))) (fun r=>[]):=by
 refine bR.it Tryz.f42 (fun r=>⟨[sI 4 r],[],[],0⟩) ?_
 unfold F42
 exact Ref.pt (
  .fz 1 3 1 <|
  .call [] (aMb _ _ _) fun r1 =>
  .ret [] _)
def F93 (K:Nat) (a0:(List Int)) (a1:Int):Option ((Int) ⊕ (Int)) :=
 (bM (bL ((iter K (fun (jH:Int)=>(bO (decide ((jH:Int)<(Int.ofNat a0.length))) (fun (yV:Bool)=>(if yV=true then (bM (bL (bW [cS jH a0.length] (bO ((a1:Int) == (a0.getD (jH:Int).toNat default)) (fun (iW:Bool)=>(if iW=true then (some (.inl (Sum.inr (Sum.inr (jH))))) else (some (.inr ()))))))) (fun (gX:Unit)=>(some (.inr ((IntKind.i64.wrap (jH+1))))))) else (some (.inl (Sum.inl ()))))))) (0)).map .inl)) (fun (wC:Unit)=>(some (.inl ((-1))))))
theorem aUr (K:Nat) (a0:(List Int)) (a1:Int):bR Tryz.prog 93 [.c (E3.tree a0),.c (.val (.int .i64 a1))] [] (bU (F93 K a0 a1)) (fun r=>.c (.val (.int .i64 r))) (fun r=>[]):=by
 refine bR.it Tryz.f93 (fun r=>⟨[sI 4 r],[],[],0⟩) ?_
 unfold F93
 exact Ref.pt (
  .bk 0 (fun wC=>⟨[],[],[],0⟩) (
   .lp [] (fun jH=>⟨[(0,.c (E3.tree a0)),sI 1 a1,sI 7 (Int.ofNat a0.length),sI 8 jH],[],[],0⟩) fun jH =>
   .lt _ fun yV =>
   .ite _ (
    .bk 1 (fun gX=>⟨[(0,.c (E3.tree a0)),sI 1 a1,sI 7 (Int.ofNat a0.length),sI 8 jH],[],[],0⟩) (
     .ck _ <|
     .lt _ fun iW =>
     .ite _ (
      .ret [] _) (
      .nil [] _)) fun gX =>
    .nil [] _) (
    .ret [] _)) fun wC =>
  .ret [] _)
def F46 (K:Nat) (a0:(List Int)) (a1:Int):Option ((Bool) ⊕ (Bool)) :=
 ((bU (F93 K a0 a1)).bind (fun r1=>(some (.inl ((decide ((r1:Int) ≥ 0)))))))
theorem aOm (K:Nat) (a0:(List Int)) (a1:Int):bR Tryz.prog 46 [.c (E3.tree a0),.c (.val (.int .i64 a1))] [] (bU (F46 K a0 a1)) (fun r=>.c (.val (.bool r))) (fun r=>[]):=by
 refine bR.it Tryz.f46 (fun r=>⟨[sB 4 r],[],[],0⟩) ?_
 unfold F46
 exact Ref.pt (
  .call [] (aUr _ _ _) fun r1 =>
  .ret [] _)
def F10 (K:Nat) (a0:dD) (a1:Int):Option (((List Int)) ⊕ ((List Int))) :=
 (bM (bL ((iter K (fun (lD:Int × (List Int))=>((bU (F45 K a0 lD.1)).bind (fun qO=>((cK ((qO:Int) == 2) (bU (F46 K lD.2 lD.1)) default).bind (fun r44=>(if (((qO:Int) == 2) && (!r44))=true then (bM (bL (bW [room ((lD.2.length+([lD.1].length)) * 8)] (bW [cS lD.1 a0.bK.length] (bO ((a0.bK.getD (lD.1:Int).toNat default).lE) (fun (x48:Bytes)=>((cK true (bU (F42 K a0 x48)) default).bind (fun r49=>(some (.inr (r49,(lD.2++[lD.1]))))))))))) (fun (u47:Int × (List Int))=>(some (.inr (u47.1,u47.2))))) else (some (.inl (Sum.inl (lD.2)))))))))) (a1,[])).map .inl)) (fun (u25:(List Int))=>(some (.inl (u25)))))
theorem aCL (K:Nat) (a0:dD) (a1:Int):bR Tryz.prog 10 [.agg (dQ.cs a0),.c (.val (.int .i64 a1))] [] (bU (F10 K a0 a1)) (fun r=>.c (E3.tree r)) (fun r=>[]):=by
 refine bR.it Tryz.f10 (fun r=>⟨[(4,.c (E3.tree r))],[],[],0⟩) ?_
 unfold F10
 exact Ref.pt (
  .bk 0 (fun u25=>⟨[(5,.c (.own 0 u25.length))],[E3.row u25],[],0⟩) (
   .ad 1 0 5 E3.ty E3.w (E3.at []) <|
   .lp [0,1] (fun lD=>⟨[sI 1 lD.1,sP 2 0 0 0,(5,.c (.own 1 lD.2.length))],[.cells (dQ.cs a0),E3.row lD.2],[],0⟩) fun lD =>
   .call [] (aFh _ _ _) fun qO =>
   .look (default:Bool) _ [1] (aOm K lD.2 lD.1) (fun _=>rfl) fun r44 =>
   .ite _ (
    .bk 1 (fun u47=>⟨[sI 1 u47.1,sP 2 0 0 0,(5,.c (.own 1 u47.2.length))],[.cells (dQ.cs a0),E3.row u47.2],[],0⟩) (
     .ob 3 2 2 (x:=.row 3 1 1 (hG [[iC lD.1]])) (y:=(E3.row [lD.1])) (El.bZ E3 [lD.1] rfl (by kernel_rfl)) <|
     .sl 3 2 18 (x:=.c (.own 2 1)) (y:=(.c (.own 2 ([lD.1].length)))) (eG.c (eD.own (by first | (simp;done) | (simp;omega) | omega))) <|
     .ck _ <|
     .ob 3 1 3 (x:=.row 3 1 (lD.2.length+([lD.1].length)) fun i j=>bif Nat.blt i lD.2.length then E3.at lD.2 i j else (E3.at [lD.1]) (i - lD.2.length) j) (y:=(E3.row (lD.2++[lD.1]))) (El.cH E3 lD.2 [lD.1] rfl rfl) <|
     .sl 3 1 19 (x:=.c (.own 3 (lD.2.length+([lD.1].length)))) (y:=(.c (.own 3 ((lD.2++[lD.1]).length)))) (eG.c (eD.own (by first | (simp;done) | (simp;omega) | omega))) <|
     .ex [1,3] <|
     .tx [] <|
     .mT [0,2,4,5,6] _ <|
     .lt _ fun x48 =>
     .gB 7 (default:Int) _ [] (aF0 K a0 x48) (fun _=>rfl) fun r49 =>
     .ex [8] <|
     .nil [0,3] _) fun u47 =>
    .nil [0,1] _) (
    .ret [1] _)) fun u25 =>
  .fz 5 0 0 <|
  .ret [] _)
def aMc (K:Nat) (a0:dD) (a1:Int):Option (((List Int)) ⊕ ((List Int))) :=
 ((bU (F10 K a0 a1)).bind (fun r1=>(bM (bL ((iter K (fun (wI:(List Int) × Int)=>(bO (decide ((wI.2:Int)<(Int.ofNat r1.length))) (fun (aXa:Bool)=>(if aXa=true then (bM (bL (bW [cS wI.2 r1.length] (bW [cS (r1.getD (wI.2:Int).toNat default) a0.bK.length] (bO ((a0.bK.getD ((r1.getD (wI.2:Int).toNat default):Int).toNat default).dZ) (fun (aOn:(List Bytes))=>(bO (Int.ofNat ((a0.bK.getD ((r1.getD (wI.2:Int).toNat default):Int).toNat default).dZ).length) (fun (aRk:Int)=>(bM (bL ((iter K (fun (pZ:(List Int) × Int)=>(if (decide ((pZ.2:Int)<aRk))=true then (bM (bL (bW [cS pZ.2 aOn.length] ((bU (F42 K a0 (aOn.getD (pZ.2:Int).toNat default))).bind (fun xP=>((bU (F45 K a0 xP)).bind (fun aUs=>((cK ((aUs:Int) == 1) (bU (F46 K pZ.1 xP)) default).bind (fun aXb=>(if (((aUs:Int) == 1) && (!aXb))=true then (bW [room ((pZ.1.length+([xP].length)) * 8)] (some (.inr ((pZ.1++[xP]))))) else (some (.inr (pZ.1)))))))))))) (fun (aOo:(List Int))=>(some (.inr (aOo,(IntKind.i64.wrap (pZ.2+1))))))) else (some (.inl (Sum.inl (pZ.1)))))) (wI.1,0)).map .inl)) (fun (aOp:(List Int))=>(some (.inr (aOp)))))))))))) (fun (aOq:(List Int))=>(some (.inr (aOq,(IntKind.i64.wrap (wI.2+1))))))) else (some (.inl (Sum.inl (wI.1)))))))) ([],0)).map .inl)) (fun (aGV:(List Int))=>(some (.inl (aGV)))))))
theorem aRl (K:Nat) (a0:dD) (a1:Int):bR Tryz.prog 88 [.agg (dQ.cs a0),.c (.val (.int .i64 a1))] [] (bU (aMc K a0 a1)) (fun r=>.c (.own 0 r.length)) (fun r=>[E3.row r]):=by
 refine bR.it Tryz.f88 (fun r=>⟨[(4,.c (.own 0 r.length))],[E3.row r],[],0⟩) ?_
 unfold aMc
 exact Ref.pt (
  .call [] (aCL _ _ _) fun r1 =>
  .bk 0 (fun aGV=>⟨[(5,.c (.own 0 aGV.length))],[E3.row aGV],[],0⟩) (
   .ad 2 0 5 E3.ty E3.w (E3.at []) <|
   .lp [0,1] (fun wI=>⟨[sP 2 0 0 0,(5,.c (.own 1 wI.1.length)),(13,.c (E3.tree r1)),sI 14 (Int.ofNat r1.length),sI 15 wI.2],[.cells (dQ.cs a0),E3.row wI.1],[],0⟩) fun wI =>
   .lt _ fun aXa =>
   .ite _ (
    .bk 1 (fun aOq=>⟨[sP 2 0 0 0,(5,.c (.own 1 aOq.length)),(13,.c (E3.tree r1)),sI 14 (Int.ofNat r1.length),sI 15 wI.2],[.cells (dQ.cs a0),E3.row aOq],[],0⟩) (
     .ck _ <|
     .ck _ <|
     .lt _ fun aOn =>
     .lt _ fun aRk =>
     .bk 2 (fun aOp=>⟨[sP 2 0 0 0,(5,.c (.own 1 aOp.length)),(13,.c (E3.tree r1)),sI 14 (Int.ofNat r1.length),sI 15 wI.2],[.cells (dQ.cs a0),E3.row aOp],[],0⟩) (
      .lp [0,1] (fun pZ=>⟨[sP 2 0 0 0,(5,.c (.own 1 pZ.1.length)),(13,.c (E3.tree r1)),sI 14 (Int.ofNat r1.length),sI 15 wI.2,(24,.c (E9.tree aOn)),sI 25 aRk,sI 26 pZ.2],[.cells (dQ.cs a0),E3.row pZ.1],[],0⟩) fun pZ =>
      .ite _ (
       .bk 3 (fun aOo=>⟨[sP 2 0 0 0,(5,.c (.own 1 aOo.length)),(13,.c (E3.tree r1)),sI 14 (Int.ofNat r1.length),sI 15 wI.2,(24,.c (E9.tree aOn)),sI 25 aRk,sI 26 pZ.2],[.cells (dQ.cs a0),E3.row aOo],[],0⟩) (
        .ck _ <|
        .call [] (aF0 _ _ _) fun xP =>
        .call [] (aFh _ _ _) fun aUs =>
        .look (default:Bool) _ [1] (aOm K pZ.1 xP) (fun _=>rfl) fun aXb =>
        .ite _ (
         .ob 10 2 2 (x:=.row 3 1 1 (hG [[iC xP]])) (y:=(E3.row [xP])) (El.bZ E3 [xP] rfl (by kernel_rfl)) <|
         .sl 10 2 45 (x:=.c (.own 2 1)) (y:=(.c (.own 2 ([xP].length)))) (eG.c (eD.own (by first | (simp;done) | (simp;omega) | omega))) <|
         .ck _ <|
         .ob 10 1 3 (x:=.row 3 1 (pZ.1.length+([xP].length)) fun i j=>bif Nat.blt i pZ.1.length then E3.at pZ.1 i j else (E3.at [xP]) (i - pZ.1.length) j) (y:=(E3.row (pZ.1++[xP]))) (El.cH E3 pZ.1 [xP] rfl rfl) <|
         .sl 10 1 46 (x:=.c (.own 3 (pZ.1.length+([xP].length)))) (y:=(.c (.own 3 ((pZ.1++[xP]).length)))) (eG.c (eD.own (by first | (simp;done) | (simp;omega) | omega))) <|
         .nil [0,3] _) (
         .nil [0,1] _)) fun aOo =>
       .nil [0,1] _) (
       .ret [0,1] _)) fun aOp =>
     .nil [0,1] _) fun aOq =>
    .nil [0,1] _) (
    .ret [1] _)) fun aGV =>
  .ret [0] _)
def aRm (K:Nat) (a0:iI) (a1:Bytes):Option ((Bool) ⊕ (Bool)) :=
 (some (.inl ((a0.cG == a1))))
theorem aRn (K:Nat) (a0:iI) (a1:Bytes):bR Tryz.prog 129 [.agg (kT.cs a0),.c (E9.ep a1 0)] [] (bU (aRm K a0 a1)) (fun r=>.c (.val (.bool r))) (fun r=>[]):=by
 refine bR.it Tryz.f129 (fun r=>⟨[sB 3 r],[],[],0⟩) ?_
 unfold aRm
 exact Ref.pt (
  .ret [] _)
def wJ (K:Nat) (a0:(List iI)) (aBl:Bytes):Option ((Int) ⊕ (Int)) :=
 (bM (bL ((iter K (fun (jH:Int)=>(bO (decide ((jH:Int)<(Int.ofNat a0.length))) (fun (yV:Bool)=>(if yV=true then (bM (bL (bW [cS jH a0.length] ((bU (aRm K (a0.getD (jH:Int).toNat default) aBl)).bind (fun r29=>(if r29=true then (some (.inl (Sum.inr (Sum.inr (jH))))) else (some (.inr ()))))))) (fun (gX:Unit)=>(some (.inr ((IntKind.i64.wrap (jH+1))))))) else (some (.inl (Sum.inl ()))))))) (0)).map .inl)) (fun (wC:Unit)=>(some (.inl ((-1))))))
theorem aG5 (K:Nat) (a0:(List iI)) (aBl:Bytes):bR Tryz.prog 128 [.c (kT.tree a0),.c (.func (.func 129) 1 (fun i=>([E9.ep aBl 0]:List C).getD i .bot))] [] (bU (wJ K a0 aBl)) (fun r=>.c (.val (.int .i64 r))) (fun r=>[]):=by
 refine bR.it Tryz.f128 (fun r=>⟨[sI 4 r],[],[],0⟩) ?_
 unfold wJ
 exact Ref.pt (
  .bk 0 (fun wC=>⟨[],[],[],0⟩) (
   .lp [] (fun jH=>⟨[(0,.c (kT.tree a0)),(1,.c (.func (.func 129) 1 (fun i=>([E9.ep aBl 0]:List C).getD i .bot))),sI 7 (Int.ofNat a0.length),sI 8 jH],[],[],0⟩) fun jH =>
   .lt _ fun yV =>
   .ite _ (
    .bk 1 (fun gX=>⟨[(0,.c (kT.tree a0)),(1,.c (.func (.func 129) 1 (fun i=>([E9.ep aBl 0]:List C).getD i .bot))),sI 7 (Int.ofNat a0.length),sI 8 jH],[],[],0⟩) (
     .ck _ <|
     .call [] (aRn _ _ _) fun r29 =>
     .ite _ (
      .ret [] _) (
      .nil [] _)) fun gX =>
    .nil [] _) (
    .ret [] _)) fun wC =>
  .ret [] _)
def F87 (K:Nat) (a0:dD) (a1:Int) (a2:Bytes):Option ((dX × Bool) ⊕ (dX × Bool)) :=
 ((bU (F10 K a0 a1)).bind (fun r1=>((bU (F45 K a0 a1)).bind (fun r2=>(bM (if ((r2:Int) == 1)=true then (some (.inr ([a1]))) else (some (.inr (r1)))) (fun (u3:(List Int))=>(bM (bL ((iter K (fun (yW:Int)=>(bO (decide ((yW:Int)<(Int.ofNat u3.length))) (fun (x39:Bool)=>(if x39=true then (bM (bL (bW [cS yW u3.length] (bW [cS (u3.getD (yW:Int).toNat default) a0.bK.length] (bO ((a0.bK.getD ((u3.getD (yW:Int).toNat default):Int).toNat default).bN) (fun (x43:(List iI))=>((bU (wJ K x43 a2)).bind (fun r44=>(if (decide ((r44:Int) ≥ 0))=true then (some (.inl (Sum.inr (Sum.inr ((⟨(u3.getD (yW:Int).toNat default),r44⟩:dX),true))))) else (some (.inr ())))))))))) (fun (u42:Unit)=>(some (.inr ((IntKind.i64.wrap (yW+1))))))) else (some (.inl (Sum.inl ()))))))) (0)).map .inl)) (fun (u24:Unit)=>(some (.inl ((⟨0,0⟩:dX),false)))))))))))
theorem aOr (K:Nat) (a0:dD) (a1:Int) (a2:Bytes):bR Tryz.prog 87 [.agg (dQ.cs a0),.c (.val (.int .i64 a1)),.c (.str a2)] [] (bU (F87 K a0 a1 a2)) (fun r=>.iV [.agg (dS.cs r.1),.c (.val (.bool r.2))]) (fun r=>[.cells (dS.cs r.1)]):=by
 refine bR.it Tryz.f87 (fun r=>⟨[sP 6 0 0 0,sB 7 r.2],[.cells (dS.cs r.1)],[],0⟩) ?_
 unfold F87
 exact Ref.pt (
  .call [] (aCL _ _ _) fun r1 =>
  .call [] (aFh _ _ _) fun r2 =>
  .jn (fun u3=>⟨[sP 3 0 0 0,sP 5 1 0 0,sP 6 2 0 0,(8,.c (E3.tree u3))],[.cells (dQ.cs a0),.cells [.str a2],.cells [iC 0,iC 0]],[],0⟩) (
   .ite _ (
    .ob 3 1 3 (x:=.row 3 1 1 (hG [[iC a1]])) (y:=(E3.row [a1])) (El.bZ E3 [a1] rfl (by kernel_rfl)) <|
    .sl 3 1 20 (x:=.c (.own 3 1)) (y:=(.c (.own 3 ([a1].length)))) (eG.c (eD.own (by first | (simp;done) | (simp;omega) | omega))) <|
    .fz 3 0 3 <|
    .nil [0,1,2] _) (
    .nil [0,1,2] _)) fun u3 =>
  .bk 0 (fun u24=>⟨[sP 6 0 0 0],[.cells [iC 0,iC 0]],[],0⟩) (
   .fz 4 0 1 <|
   .lp [0,2] (fun yW=>⟨[sP 3 0 0 0,(5,.c (E9.ep a2 0)),sP 6 1 0 0,(21,.c (E3.tree u3)),sI 22 (Int.ofNat u3.length),sI 23 yW],[.cells (dQ.cs a0),.cells [iC 0,iC 0]],[],0⟩) fun yW =>
   .lt _ fun x39 =>
   .ite _ (
    .bk 1 (fun u42=>⟨[sP 3 0 0 0,(5,.c (E9.ep a2 0)),sP 6 1 0 0,(21,.c (E3.tree u3)),sI 22 (Int.ofNat u3.length),sI 23 yW],[.cells (dQ.cs a0),.cells [iC 0,iC 0]],[],0⟩) (
     .ck _ <|
     .ck _ <|
     .lt _ fun x43 =>
     .call [] (aG5 _ _ _) fun r44 =>
     .ite _ (
      .ret [1] _) (
      .nil [0,1] _)) fun u42 =>
    .nil [0,1] _) (
    .ret [1] _)) fun u24 =>
  .ret [0] _)
def F90 (K:Nat) (a0:dD) (a1:Int) (a2:Bytes):Option ((Int) ⊕ (Int)) :=
 ((bU (F87 K a0 a1 a2)).bind (fun r1=>(if (!r1.2)=true then (some (.inl ((-1)))) else ((bU (F19 K a0 r1.1)).bind (fun r2=>(some (.inl (r2))))))))
theorem aUu (K:Nat) (a0:dD) (a1:Int) (a2:Bytes):bR Tryz.prog 90 [.agg (dQ.cs a0),.c (.val (.int .i64 a1)),.c (.str a2)] [] (bU (F90 K a0 a1 a2)) (fun r=>.c (.val (.int .i64 r))) (fun r=>[]):=by
 refine bR.it Tryz.f90 (fun r=>⟨[sI 6 r],[],[],0⟩) ?_
 unfold F90
 exact Ref.pt (
  .call [] (aOr _ _ _ _) fun r1 =>
  .ite _ (
   .ret [] _) (
   .call [] (aIZ _ _ _) fun r2 =>
   .ret [] _))
end Go.Proofs.YtdbfbedholdjaaaGreat
