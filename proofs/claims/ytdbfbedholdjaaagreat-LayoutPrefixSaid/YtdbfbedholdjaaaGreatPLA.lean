/- No conditions. -/
import Derived.Test.YtdbfbedholdjaaaGreatPTy
import Derived.Test.YtdbfbedholdjaaaGreatProg
set_option linter.unusedVariables false
set_option linter.unusedSimpArgs false
set_option linter.unusedSectionVars false
namespace Go.Proofs.YtdbfbedholdjaaaGreat
open Go Go.Proofs Go.Dl
variable [dW]
set_option maxRecDepth 100000
set_option maxHeartbeats 4000000
def F61 (K:Nat) (a0:cZ) (a1:Bytes):Option ((Int) ⊕ (Int)) :=
 (bL (bJ ((iter K (fun (dU:Int)=>(bN (decide ((dU:Int)<(Int.ofNat a0.bK.length))) (fun (l4:Bool)=>(if l4=true then (bL (bJ (bW [cS dU a0.bK.length] (bN (((a0.bK.getD (dU:Int).toNat default).cC) == a1) (fun (x31:Bool)=>(if x31=true then (some (.inl (Sum.inr (Sum.inr (dU))))) else (some (.inr ()))))))) (fun (eY:Unit)=>(some (.inr ((IntKind.i64.wrap (dU+1))))))) else (some (.inl (Sum.inl ()))))))) (0)).map .inl)) (fun (u16:Unit)=>(some (.inl ((-1))))))
theorem oY (K:Nat) (a0:cZ) (a1:Bytes):bS Tryz.prog 61 [.agg (dM.cs a0),.c (.str a1)] [] (bT (F61 K a0 a1)) (fun r=>.c (.val (.int .i64 r))) (fun r=>[]):=by
 refine bS.it Tryz.f61 (fun r=>⟨[sI 4 r],[],[],0⟩) ?_
 unfold F61
 exact Ref.pt (
  .bk 0 (fun u16=>⟨[],[],[],0⟩) (
   .lp [0] (fun dU=>⟨[sS 1 a1,sP 2 0 0 0,sI 5 dU],[.cells (dM.cs a0)],[],0⟩) fun dU =>
   .lt _ fun l4 =>
   .ite _ (
    .bk 1 (fun eY=>⟨[sS 1 a1,sP 2 0 0 0,sI 5 dU],[.cells (dM.cs a0)],[],0⟩) (
     .ck _ <|
     .lt _ fun x31 =>
     .ite _ (
      .ret [] _) (
      .nil [0] _)) fun eY =>
    .nil [0] _) (
    .ret [] _)) fun u16 =>
  .ret [] _)
def F68 (K:Nat) (a0:cZ) (a1:Int):Option ((Int) ⊕ (Int)) :=
 (bN ((decide ((a1:Int)<0)) || (decide ((a1:Int) ≥ (Int.ofNat a0.bK.length)))) (fun (x1:Bool)=>(if x1=true then (some (.inl (0))) else (bW [cS a1 a0.bK.length] (bN ((a0.bK.getD (a1:Int).toNat default).bP) (fun (x2:Int)=>(some (.inl (x2)))))))))
theorem oZ (K:Nat) (a0:cZ) (a1:Int):bS Tryz.prog 68 [.agg (dM.cs a0),.c (.val (.int .i64 a1))] [] (bT (F68 K a0 a1)) (fun r=>.c (.val (.int .i64 r))) (fun r=>[]):=by
 refine bS.it Tryz.f68 (fun r=>⟨[sI 4 r],[],[],0⟩) ?_
 unfold F68
 exact Ref.pt (
  .lt _ fun x1 =>
  .ite _ (
   .ret [] _) (
   .ck _ <|
   .lt _ fun x2 =>
   .ret [] _))
def aG0 (K:Nat) (a0:(List Int)) (a1:Int):Option ((Bool) ⊕ (Bool)) :=
 (bL (bJ ((iter K (fun (jF:Int)=>(bN (decide ((jF:Int)<(Int.ofNat a0.length))) (fun (y7:Bool)=>(if y7=true then (bL (bJ (bW [cS jF a0.length] (bN (((a0.getD (jF:Int).toNat default):Int) == a1) (fun (iU:Bool)=>(if iU=true then (some (.inl (Sum.inr (Sum.inr (true))))) else (some (.inr ()))))))) (fun (gU:Unit)=>(some (.inr ((IntKind.i64.wrap (jF+1))))))) else (some (.inl (Sum.inl ()))))))) (0)).map .inl)) (fun (wD:Unit)=>(some (.inl (false)))))
theorem aCD (K:Nat) (a0:(List Int)) (a1:Int):bS Tryz.prog 134 [.c (E3.tree a0),.c (.val (.int .i64 a1))] [] (bT (aG0 K a0 a1)) (fun r=>.c (.val (.bool r))) (fun r=>[]):=by
 refine bS.it Tryz.f134 (fun r=>⟨[sB 4 r],[],[],0⟩) ?_
 unfold aG0
 exact Ref.pt (
  .bk 0 (fun wD=>⟨[],[],[],0⟩) (
   .lp [] (fun jF=>⟨[(0,.c (E3.tree a0)),sI 1 a1,sI 5 jF],[],[],0⟩) fun jF =>
   .lt _ fun y7 =>
   .ite _ (
    .bk 1 (fun gU=>⟨[(0,.c (E3.tree a0)),sI 1 a1,sI 5 jF],[],[],0⟩) (
     .ck _ <|
     .lt _ fun iU =>
     .ite _ (
      .ret [] _) (
      .nil [] _)) fun gU =>
    .nil [] _) (
    .ret [] _)) fun wD =>
  .ret [] _)
def aNP (K:Nat) (a0:jG) (a1:Bytes):Option ((Int) ⊕ (Int)) :=
 (bL (bJ ((iter K (fun (dU:Int)=>(bN (decide ((dU:Int)<(Int.ofNat a0.bM.length))) (fun (l4:Bool)=>(if l4=true then (bL (bJ (bW [cS dU a0.bM.length] (bN (((a0.bM.getD (dU:Int).toNat default).cC) == a1) (fun (x31:Bool)=>(if x31=true then (some (.inl (Sum.inr (Sum.inr (dU))))) else (some (.inr ()))))))) (fun (eY:Unit)=>(some (.inr ((IntKind.i64.wrap (dU+1))))))) else (some (.inl (Sum.inl ()))))))) (0)).map .inl)) (fun (u16:Unit)=>(some (.inl ((-1))))))
theorem aRg (K:Nat) (a0:jG) (a1:Bytes):bS Tryz.prog 178 [.agg (jR.cs a0),.c (.str a1)] [] (bT (aNP K a0 a1)) (fun r=>.c (.val (.int .i64 r))) (fun r=>[]):=by
 refine bS.it Tryz.f178 (fun r=>⟨[sI 4 r],[],[],0⟩) ?_
 unfold aNP
 exact Ref.pt (
  .bk 0 (fun u16=>⟨[],[],[],0⟩) (
   .lp [0] (fun dU=>⟨[sS 1 a1,sP 2 0 0 0,sI 5 dU],[jR.o a0],[],0⟩) fun dU =>
   .lt _ fun l4 =>
   .ite _ (
    .bk 1 (fun eY=>⟨[sS 1 a1,sP 2 0 0 0,sI 5 dU],[jR.o a0],[],0⟩) (
     .ck _ <|
     .lt _ fun x31 =>
     .ite _ (
      .ret [] _) (
      .nil [0] _)) fun eY =>
    .nil [0] _) (
    .ret [] _)) fun u16 =>
  .ret [] _)
def aDx (K:Nat) (a0:cZ) (a1:Int):Option (((List Int)) ⊕ ((List Int))) :=
 (bL (bJ ((iter K (fun (lD:Int × (List Int))=>((bT (F68 K a0 lD.1)).bind (fun qR=>((cH ((qR:Int) == 2) (bT (aG0 K lD.2 lD.1)) default).bind (fun r44=>(if (((qR:Int) == 2) && (!r44))=true then (bL (bJ (bW [room ((lD.2.length+([lD.1].length)) * 8)] (bW [cS lD.1 a0.bK.length] (bN ((a0.bK.getD (lD.1:Int).toNat default).j6) (fun (x48:Bytes)=>((cH true (bT (F61 K a0 x48)) default).bind (fun r49=>(some (.inr (r49,(lD.2++[lD.1]))))))))))) (fun (u47:Int × (List Int))=>(some (.inr (u47.1,u47.2))))) else (some (.inl (Sum.inl (lD.2)))))))))) (a1,[])).map .inl)) (fun (u25:(List Int))=>(some (.inl (u25)))))
theorem uC (K:Nat) (a0:cZ) (a1:Int):bS Tryz.prog 105 [.agg (dM.cs a0),.c (.val (.int .i64 a1))] [] (bT (aDx K a0 a1)) (fun r=>.c (E3.tree r)) (fun r=>[]):=by
 refine bS.it Tryz.f105 (fun r=>⟨[(4,.c (E3.tree r))],[],[],0⟩) ?_
 unfold aDx
 exact Ref.pt (
  .bk 0 (fun u25=>⟨[(5,.c (.own 0 u25.length))],[E3.row u25],[],0⟩) (
   .ad 1 0 5 E3.ty E3.w (E3.at []) <|
   .lp [0,1] (fun lD=>⟨[sI 1 lD.1,sP 2 0 0 0,(5,.c (.own 1 lD.2.length))],[.cells (dM.cs a0),E3.row lD.2],[],0⟩) fun lD =>
   .call [] (oZ _ _ _) fun qR =>
   .look (default:Bool) _ [1] (aCD K lD.2 lD.1) (fun _=>rfl) fun r44 =>
   .ite _ (
    .bk 1 (fun u47=>⟨[sI 1 u47.1,sP 2 0 0 0,(5,.c (.own 1 u47.2.length))],[.cells (dM.cs a0),E3.row u47.2],[],0⟩) (
     .ob 3 2 2 (x:=.row 3 1 1 (gY [[iC lD.1]])) (y:=(E3.row [lD.1])) (El.bZ E3 [lD.1] rfl (by kernel_rfl)) <|
     .sl 3 2 18 (x:=.c (.own 2 1)) (y:=(.c (.own 2 ([lD.1].length)))) (eA.c (dY.own (by first | (simp;done) | (simp;omega) | omega))) <|
     .ck _ <|
     .ob 3 1 3 (x:=.row 3 1 (lD.2.length+([lD.1].length)) fun i j=>bif Nat.blt i lD.2.length then E3.at lD.2 i j else (E3.at [lD.1]) (i - lD.2.length) j) (y:=(E3.row (lD.2++[lD.1]))) (El.cI E3 lD.2 [lD.1] rfl rfl) <|
     .sl 3 1 19 (x:=.c (.own 3 (lD.2.length+([lD.1].length)))) (y:=(.c (.own 3 ((lD.2++[lD.1]).length)))) (eA.c (dY.own (by first | (simp;done) | (simp;omega) | omega))) <|
     .ex [1,3] <|
     .tx [] <|
     .lT [0,2,4,5,6] _ <|
     .lt _ fun x48 =>
     .fF 7 (default:Int) _ [] (oY K a0 x48) (fun _=>rfl) fun r49 =>
     .ex [8] <|
     .nil [0,3] _) fun u47 =>
    .nil [0,1] _) (
    .ret [1] _)) fun u25 =>
  .fz 5 0 0 <|
  .ret [] _)
def aEN (K:Nat) (a0:cZ) (a1:Int) (a2:Bytes):Option ((dR × Bool) ⊕ (dR × Bool)) :=
 ((bT (aDx K a0 a1)).bind (fun r1=>((bT (F68 K a0 a1)).bind (fun r2=>(bL (if ((r2:Int) == 1)=true then (some (.inr ([a1]))) else (some (.inr (r1)))) (fun (u3:(List Int))=>(bL (bJ ((iter K (fun (kB:Int)=>(bN (decide ((kB:Int)<(Int.ofNat u3.length))) (fun (iU:Bool)=>(if iU=true then (bL (bJ (bW [cS kB u3.length] (bW [cS (u3.getD (kB:Int).toNat default) a0.bK.length] ((cH true (bT (aNP K (a0.bK.getD ((u3.getD (kB:Int).toNat default):Int).toNat default) a2)) default).bind (fun r32=>(if (decide ((r32:Int) ≥ 0))=true then (bW [cS kB u3.length] (some (.inl (Sum.inr (Sum.inr ((⟨(u3.getD (kB:Int).toNat default),r32⟩:dR),true)))))) else (some (.inr ())))))))) (fun (y8:Unit)=>(some (.inr ((IntKind.i64.wrap (kB+1))))))) else (some (.inl (Sum.inl ()))))))) (0)).map .inl)) (fun (u18:Unit)=>(some (.inl ((⟨0,0⟩:dR),false)))))))))))
theorem pT (K:Nat) (a0:cZ) (a1:Int) (a2:Bytes):bS Tryz.prog 133 [.agg (dM.cs a0),.c (.val (.int .i64 a1)),.c (.str a2)] [] (bT (aEN K a0 a1 a2)) (fun r=>.iT [.agg (dO.cs r.1),.c (.val (.bool r.2))]) (fun r=>[.cells (dO.cs r.1)]):=by
 refine bS.it Tryz.f133 (fun r=>⟨[sP 6 0 0 0,sB 7 r.2],[.cells (dO.cs r.1)],[],0⟩) ?_
 unfold aEN
 exact Ref.pt (
  .call [] (uC _ _ _) fun r1 =>
  .call [] (oZ _ _ _) fun r2 =>
  .jn (fun u3=>⟨[sS 2 a2,sP 3 0 0 0,sP 6 1 0 0,(8,.c (E3.tree u3))],[.cells (dM.cs a0),.cells [iC 0,iC 0]],[],0⟩) (
   .ite _ (
    .ob 3 1 2 (x:=.row 3 1 1 (gY [[iC a1]])) (y:=(E3.row [a1])) (El.bZ E3 [a1] rfl (by kernel_rfl)) <|
    .sl 3 1 19 (x:=.c (.own 2 1)) (y:=(.c (.own 2 ([a1].length)))) (eA.c (dY.own (by first | (simp;done) | (simp;omega) | omega))) <|
    .fz 3 0 2 <|
    .nil [0,1] _) (
    .nil [0,1] _)) fun u3 =>
  .bk 0 (fun u18=>⟨[sP 6 0 0 0],[.cells [iC 0,iC 0]],[],0⟩) (
   .lp [0,1] (fun kB=>⟨[sS 2 a2,sP 3 0 0 0,sP 6 1 0 0,(8,.c (E3.tree u3)),sI 9 kB],[.cells (dM.cs a0),.cells [iC 0,iC 0]],[],0⟩) fun kB =>
   .lt _ fun iU =>
   .ite _ (
    .bk 1 (fun y8=>⟨[sS 2 a2,sP 3 0 0 0,sP 6 1 0 0,(8,.c (E3.tree u3)),sI 9 kB],[.cells (dM.cs a0),.cells [iC 0,iC 0]],[],0⟩) (
     .lT [0,2,3,4,8] _ <|
     .tx [] <|
     .lT [1,5,6,7] _ <|
     .fF 9 (default:Int) _ [] (aRg K (a0.bK.getD ((gd u3 kB):Int).toNat default) a2) (fun _=>rfl) fun r32 =>
     .ex [10] <|
     .ite _ (
      .ck _ <|
      .ret [1] _) (
      .nil [0,1] _)) fun y8 =>
    .nil [0,1] _) (
    .ret [1] _)) fun u18 =>
  .ret [0] _)
def aL8 (K:Nat) (a0:cZ) (a1:Int):Option (((List Int)) ⊕ ((List Int))) :=
 ((bT (aDx K a0 a1)).bind (fun r1=>(bL (bJ ((iter K (fun (xR:(List Int) × Int)=>(bN (decide ((xR.2:Int)<(Int.ofNat r1.length))) (fun (aWC:Bool)=>(if aWC=true then (bL (bJ (bW [cS xR.2 r1.length] (bW [cS (r1.getD (xR.2:Int).toNat default) a0.bK.length] (bN ((a0.bK.getD ((r1.getD (xR.2:Int).toNat default):Int).toNat default).eB) (fun (aIU:(List Bytes))=>(bL (bJ ((iter K (fun (o9:(List Int) × Int)=>(bN (decide ((o9.2:Int)<(Int.ofNat aIU.length))) (fun (aWD:Bool)=>(if aWD=true then (bL (bJ (bW [cS o9.2 aIU.length] ((cH true (bT (F61 K a0 (aIU.getD (o9.2:Int).toNat default))) default).bind (fun xS=>((bT (F68 K a0 xS)).bind (fun aUp=>((cH ((aUp:Int) == 1) (bT (aG0 K o9.1 xS)) default).bind (fun aWE=>(if (((aUp:Int) == 1) && (!aWE))=true then (bW [room ((o9.1.length+([xS].length)) * 8)] (some (.inr ((o9.1++[xS]))))) else (some (.inr (o9.1)))))))))))) (fun (aNQ:(List Int))=>(some (.inr (aNQ,(IntKind.i64.wrap (o9.2+1))))))) else (some (.inl (Sum.inl (o9.1)))))))) (xR.1,0)).map .inl)) (fun (aNR:(List Int))=>(some (.inr (aNR)))))))))) (fun (aNS:(List Int))=>(some (.inr (aNS,(IntKind.i64.wrap (xR.2+1))))))) else (some (.inl (Sum.inl (xR.1)))))))) ([],0)).map .inl)) (fun (aNT:(List Int))=>(some (.inl (aNT)))))))
theorem aKh (K:Nat) (a0:cZ) (a1:Int):bS Tryz.prog 101 [.agg (dM.cs a0),.c (.val (.int .i64 a1))] [] (bT (aL8 K a0 a1)) (fun r=>.c (E3.tree r)) (fun r=>[]):=by
 refine bS.it Tryz.f101 (fun r=>⟨[(4,.c (E3.tree r))],[],[],0⟩) ?_
 unfold aL8
 exact Ref.pt (
  .call [] (uC _ _ _) fun r1 =>
  .bk 0 (fun aNT=>⟨[(5,.c (.own 0 aNT.length))],[E3.row aNT],[],0⟩) (
   .ad 3 0 5 E3.ty E3.w (E3.at []) <|
   .lp [0,1] (fun xR=>⟨[sP 2 0 0 0,(5,.c (.own 1 xR.1.length)),(6,.c (E3.tree r1)),sI 7 xR.2],[.cells (dM.cs a0),E3.row xR.1],[],0⟩) fun xR =>
   .lt _ fun aWC =>
   .ite _ (
    .bk 1 (fun aNS=>⟨[sP 2 0 0 0,(5,.c (.own 1 aNS.length)),(6,.c (E3.tree r1)),sI 7 xR.2],[.cells (dM.cs a0),E3.row aNS],[],0⟩) (
     .lT [0,2,3,4] _ <|
     .tx [] <|
     .lT [1,5,6,7,8,9] _ <|
     .lt _ fun aIU =>
     .bk 2 (fun aNR=>⟨[sP 2 0 0 0,(5,.c (.own 1 aNR.length)),(6,.c (E3.tree r1)),sI 7 xR.2],[.cells (dM.cs a0),E3.row aNR],[],0⟩) (
      .lp [0,1] (fun o9=>⟨[sP 2 0 0 0,(5,.c (.own 1 o9.1.length)),(6,.c (E3.tree r1)),sI 7 xR.2,(8,.c (E9.tree aIU)),sI 9 o9.2],[.cells (dM.cs a0),E3.row o9.1],[],0⟩) fun o9 =>
      .lt _ fun aWD =>
      .ite _ (
       .bk 3 (fun aNQ=>⟨[sP 2 0 0 0,(5,.c (.own 1 aNQ.length)),(6,.c (E3.tree r1)),sI 7 xR.2,(8,.c (E9.tree aIU)),sI 9 o9.2],[.cells (dM.cs a0),E3.row aNQ],[],0⟩) (
        .lT [1,2,3] _ <|
        .tx [] <|
        .ex [0,4] <|
        .fF 5 (default:Int) _ [] (oY K a0 (gd aIU o9.2)) (fun _=>rfl) fun xS =>
        .ex [6] <|
        .call [] (oZ _ _ _) fun aUp =>
        .look (default:Bool) _ [1] (aCD K o9.1 xS) (fun _=>rfl) fun aWE =>
        .ite _ (
         .ob 12 2 2 (x:=.row 3 1 1 (gY [[iC xS]])) (y:=(E3.row [xS])) (El.bZ E3 [xS] rfl (by kernel_rfl)) <|
         .sl 12 2 53 (x:=.c (.own 2 1)) (y:=(.c (.own 2 ([xS].length)))) (eA.c (dY.own (by first | (simp;done) | (simp;omega) | omega))) <|
         .ck _ <|
         .ob 12 1 3 (x:=.row 3 1 (o9.1.length+([xS].length)) fun i j=>bif Nat.blt i o9.1.length then E3.at o9.1 i j else (E3.at [xS]) (i - o9.1.length) j) (y:=(E3.row (o9.1++[xS]))) (El.cI E3 o9.1 [xS] rfl rfl) <|
         .sl 12 1 54 (x:=.c (.own 3 (o9.1.length+([xS].length)))) (y:=(.c (.own 3 ((o9.1++[xS]).length)))) (eA.c (dY.own (by first | (simp;done) | (simp;omega) | omega))) <|
         .nil [0,3] _) (
         .nil [0,1] _)) fun aNQ =>
       .nil [0,1] _) (
       .ret [0,1] _)) fun aNR =>
     .nil [0,1] _) fun aNS =>
    .nil [0,1] _) (
    .ret [1] _)) fun aNT =>
  .fz 13 0 0 <|
  .ret [] _)
def F70 (K:Nat) (a0:cZ) (a1:Int):Option (((List fE)) ⊕ ((List fE))) :=
 ((bT (F68 K a0 a1)).bind (fun r1=>(if ((r1:Int) == 3)=true then (bW [cS a1 a0.bK.length] (bN ((a0.bK.getD (a1:Int).toNat default).cU) (fun (x2:(List fE))=>(bW [room (x2.length * 80)] (some (.inl (x2))))))) else ((bT (aDx K a0 a1)).bind (fun r3=>(bN (IntKind.i64.wrap ((Int.ofNat r3.length) - 1)) (fun (x4:Int)=>(bL (bJ ((iter K (fun (dU:(List fE) × Int)=>(if (decide ((dU.2:Int) ≥ 0))=true then (bL (bJ (bW [cS dU.2 r3.length] (bW [cS (r3.getD (dU.2:Int).toNat default) a0.bK.length] (bN ((a0.bK.getD ((r3.getD (dU.2:Int).toNat default):Int).toNat default).cU) (fun (iU:(List fE))=>(bW [room ((dU.1.length+iU.length) * 80)] (some (.inr ((dU.1++iU)))))))))) (fun (gU:(List fE))=>(some (.inr (gU,(IntKind.i64.wrap (dU.2 - 1))))))) else (some (.inl (Sum.inl (dU.1)))))) ([],x4)).map .inl)) (fun (gO:(List fE))=>(some (.inl (gO))))))))))))
theorem aNU (K:Nat) (a0:cZ) (a1:Int):bS Tryz.prog 70 [.agg (dM.cs a0),.c (.val (.int .i64 a1))] [] (bT (F70 K a0 a1)) (fun r=>.c (eN.tree r)) (fun r=>[]):=by
 refine bS.it Tryz.f70 (fun r=>⟨[(4,.c (eN.tree r))],[],[],0⟩) ?_
 unfold F70
 exact Ref.pt (
  .call [] (oZ _ _ _) fun r1 =>
  .ite _ (
   .ck _ <|
   .lt _ fun x2 =>
   .ck _ <|
   .fz 2 0 1 <|
   .ret [] _) (
   .call [] (uC _ _ _) fun r3 =>
   .lt _ fun x4 =>
   .bk 0 (fun gO=>⟨[(5,.c (.own 0 gO.length))],[eN.row gO],[],0⟩) (
    .ad 5 0 5 eN.ty eN.w (eN.at []) <|
    .lp [0,1] (fun dU=>⟨[sP 2 0 0 0,(5,.c (.own 1 dU.1.length)),(6,.c (E3.tree r3)),sI 7 dU.2],[.cells (dM.cs a0),eN.row dU.1],[],0⟩) fun dU =>
    .ite _ (
     .bk 1 (fun gU=>⟨[sP 2 0 0 0,(5,.c (.own 1 gU.length)),(6,.c (E3.tree r3)),sI 7 dU.2],[.cells (dM.cs a0),eN.row gU],[],0⟩) (
      .lT [0,1,3,4,5] _ <|
      .tx [10,11] <|
      .lT [2,6,7,8,9] _ <|
      .lt _ fun iU =>
      .tl [10,11] <|
      .ck _ <|
      .ob 8 1 2 (x:=.row 41 8 (dU.1.length+iU.length) fun i j=>bif Nat.blt i dU.1.length then eN.at dU.1 i j else (eN.at iU) (i - dU.1.length) j) (y:=(eN.row (dU.1++iU))) (El.cI eN dU.1 iU rfl rfl) <|
      .sl 8 1 39 (x:=.c (.own 2 (dU.1.length+iU.length))) (y:=(.c (.own 2 ((dU.1++iU).length)))) (eA.c (dY.own (by first | (simp;done) | (simp;omega) | omega))) <|
      .nil [0,2] _) fun gU =>
     .nil [0,1] _) (
     .ret [1] _)) fun gO =>
   .fz 9 0 0 <|
   .ret [] _))
def aG1 (K:Nat) (a0:hU) (a1:hU):Option ((Bool) ⊕ (Bool)) :=
 (bN ((((Int.ofNat a0.cV.length):Int) != (Int.ofNat a1.cV.length)) || (!(((a0.fG.bP:Int) == a1.fG.bP) && (((a0.fG.fLo:Int) == a1.fG.fLo) && (((a0.fG.fHi:Int) == a1.fG.fHi) && ((a0.fG.cC == a1.fG.cC) && true)))))) (fun (x1:Bool)=>(if x1=true then (some (.inl (false))) else (bL (bJ ((iter K (fun (kB:Int)=>(bN (decide ((kB:Int)<(Int.ofNat a0.cV.length))) (fun (iU:Bool)=>(if iU=true then (bL (bJ (bW [cS kB a0.cV.length,cS kB a1.cV.length] (bN (!(((((a0.cV.getD (kB:Int).toNat default).cQ).bP:Int) == (((a1.cV.getD (kB:Int).toNat default).cQ).bP)) && (((((a0.cV.getD (kB:Int).toNat default).cQ).fLo:Int) == (((a1.cV.getD (kB:Int).toNat default).cQ).fLo)) && (((((a0.cV.getD (kB:Int).toNat default).cQ).fHi:Int) == (((a1.cV.getD (kB:Int).toNat default).cQ).fHi)) && (((((a0.cV.getD (kB:Int).toNat default).cQ).cC) == (((a1.cV.getD (kB:Int).toNat default).cQ).cC)) && true))))) (fun (x32:Bool)=>(if x32=true then (some (.inl (Sum.inr (Sum.inr (false))))) else (some (.inr ()))))))) (fun (y8:Unit)=>(some (.inr ((IntKind.i64.wrap (kB+1))))))) else (some (.inl (Sum.inl ()))))))) (0)).map .inl)) (fun (gO:Unit)=>(some (.inl (true))))))))
theorem aKj (K:Nat) (a0:hU) (a1:hU):bS Tryz.prog 195 [.agg (kJ.cs a0),.agg (kJ.cs a1)] [] (bT (aG1 K a0 a1)) (fun r=>.c (.val (.bool r))) (fun r=>[]):=by
 refine bS.it Tryz.f195 (fun r=>⟨[sB 4 r],[],[],0⟩) ?_
 unfold aG1
 exact Ref.pt (
  .lt _ fun x1 =>
  .ite _ (
   .ret [] _) (
   .bk 0 (fun gO=>⟨[],[],[],0⟩) (
    .lp [0,1] (fun kB=>⟨[sP 2 0 0 0,sP 3 1 0 0,sI 5 kB],[kJ.o a0,kJ.o a1],[],0⟩) fun kB =>
    .lt _ fun iU =>
    .ite _ (
     .bk 1 (fun y8=>⟨[sP 2 0 0 0,sP 3 1 0 0,sI 5 kB],[kJ.o a0,kJ.o a1],[],0⟩) (
      .ex [0,2,6,8] <|
      .tx [] <|
      .lT [1,3,4,5,7,9,10,11,12] _ <|
      .lt _ fun x32 =>
      .ite _ (
       .ret [] _) (
       .nil [0,1] _)) fun y8 =>
     .nil [0,1] _) (
     .ret [] _)) fun gO =>
   .ret [] _))
def F63 (K:Nat) (a0:cZ) (a1:dR):Option ((hU) ⊕ (hU)) :=
 (bW [cS a1.c8 a0.bK.length,cS a1.dD ((a0.bK.getD (a1.c8:Int).toNat default).bM).length] (some (.inl ((((a0.bK.getD (a1.c8:Int).toNat default).bM).getD (a1.dD:Int).toNat default)))))
theorem aDy (K:Nat) (a0:cZ) (a1:dR):bS Tryz.prog 63 [.agg (dM.cs a0),.agg (dO.cs a1)] [] (bT (F63 K a0 a1)) (fun r=>.agg (kJ.cs r)) (fun r=>[kJ.o r]):=by
 refine bS.it Tryz.f63 (fun r=>⟨[sP 4 0 0 0],[kJ.o r],[],0⟩) ?_
 unfold F63
 exact Ref.pt (
  .ex [0,2,7] <|
  .tx [11] <|
  .lT [1,3,4,5,6,8,9,10] _ <|
  .tl [11] <|
  .ret [2] _)
end Go.Proofs.YtdbfbedholdjaaaGreat

namespace Go.Proofs.YtdbfbedholdjaaaGreat
open Go Go.Proofs Go.Dl
variable [dW]
set_option maxRecDepth 100000
set_option maxHeartbeats 4000000
def aIV (K:Nat) (a0:cZ) (a1:dR):Option ((Bool) ⊕ (Bool)) :=
 ((cH true (bT (F68 K a0 a1.c8)) default).bind (fun r1=>(bW [!(((r1:Int) == 2) && (decide ((a1.dD:Int) ≥ 0))) || cS a1.c8 a0.bK.length] (bN ((((r1:Int) == 2) && (decide ((a1.dD:Int) ≥ 0))) && (decide ((a1.dD:Int)<(Int.ofNat ((a0.bK.getD (a1.c8:Int).toNat default).bM).length)))) (fun (x2:Bool)=>(some (.inl (x2))))))))
theorem aFV (K:Nat) (a0:cZ) (a1:dR):bS Tryz.prog 201 [.agg (dM.cs a0),.agg (dO.cs a1)] [] (bT (aIV K a0 a1)) (fun r=>.c (.val (.bool r))) (fun r=>[]):=by
 refine bS.it Tryz.f201 (fun r=>⟨[sB 4 r],[],[],0⟩) ?_
 unfold aIV
 exact Ref.pt (
  .ex [1] <|
  .tx [] <|
  .ex [0,2] <|
  .fF 3 (default:Int) _ [] (oZ K a0 a1.c8) (fun _=>rfl) fun r1 =>
  .lT [4,5,6,7,8,9,10,11,12,13,14,15,16,17,18,19,20,21,22,23] _ <|
  .lt _ fun x2 =>
  .ret [] _)
def aG2 (K:Nat) (a0:cZ) (a1:dR):Option ((Bool) ⊕ (Bool)) :=
 ((bT (aIV K a0 a1)).bind (fun r1=>((cH (!r1) (bT (F68 K a0 a1.c8)) default).bind (fun r2=>(bN (r1 || (((r2:Int) == 3) && ((a1.dD:Int) == (-1)))) (fun (x3:Bool)=>(some (.inl (x3)))))))))
theorem aCE (K:Nat) (a0:cZ) (a1:dR):bS Tryz.prog 194 [.agg (dM.cs a0),.agg (dO.cs a1)] [] (bT (aG2 K a0 a1)) (fun r=>.c (.val (.bool r))) (fun r=>[]):=by
 refine bS.it Tryz.f194 (fun r=>⟨[sB 4 r],[],[],0⟩) ?_
 unfold aG2
 exact Ref.pt (
  .call [] (aFV _ _ _) fun r1 =>
  .look (default:Int) _ [] (oZ K a0 a1.c8) (fun _=>rfl) fun r2 =>
  .lt _ fun x3 =>
  .ret [] _)
def aL9 (K:Nat) (a0:cZ) (a1:dR):Option (((List fE)) ⊕ ((List fE))) :=
 ((bT (aG2 K a0 a1)).bind (fun r1=>(if (!r1)=true then (some (.inl ([]))) else (if (decide ((a1.dD:Int)<0))=true then (bW [cS a1.c8 a0.bK.length] (bN ((a0.bK.getD (a1.c8:Int).toNat default).cU) (fun (x2:(List fE))=>(bW [room (x2.length * 80)] (some (.inl (x2))))))) else (bW [cS a1.c8 a0.bK.length,cS a1.dD ((a0.bK.getD (a1.c8:Int).toNat default).bM).length] (bN ((((a0.bK.getD (a1.c8:Int).toNat default).bM).getD (a1.dD:Int).toNat default).cV) (fun (x4:(List fE))=>(bW [room (x4.length * 80)] (bN ((((a0.bK.getD (a1.c8:Int).toNat default).bM).getD (a1.dD:Int).toNat default).cU) (fun (x5:(List fE))=>(bW [room ((x4.length+x5.length) * 80)] ((bT (F70 K a0 a1.c8)).bind (fun r6=>(bW [room ((((x4++x5).length)+r6.length) * 80)] (some (.inl (((x4++x5)++r6))))))))))))))))))
abbrev aIW (v0:cZ) (v1:dR):List Go.Dl.Obj:=[.cells (dM.cs v0),.cells (dO.cs v1),kJ.o (gd ((gd v0.bK v1.c8).bM) v1.dD)]
theorem aKl (K:Nat) (a0:cZ) (a1:dR):bS Tryz.prog 149 [.agg (dM.cs a0),.agg (dO.cs a1)] [] (bT (aL9 K a0 a1)) (fun r=>.c (eN.tree r)) (fun r=>[]):=by
 refine bS.it Tryz.f149 (fun r=>⟨[(4,.c (eN.tree r))],[],[],0⟩) ?_
 unfold aL9
 exact Ref.pt (
  .call [] (aCE _ _ _) fun r1 =>
  .ite _ (
   .sl 2 0 4 (x:=.c (.nil)) (y:=(.c (eN.tree []))) (eA.c (El.cN eN)) <|
   .ret [] _) (
   .ite _ (
    .ck _ <|
    .lt _ fun x2 =>
    .ck _ <|
    .fz 4 0 2 <|
    .ret [] _) (
    .esc [0,1] [(cd (bd Tryz.f149) [1,1,1,0]),(cd (bd Tryz.f149) [1,1,1,1])] ⟨[sP 2 0 0 0,sP 3 1 0 0,sB 13 (decide ((a1.dD:Int)<0))],[.cells (dM.cs a0),.cells (dO.cs a1)],[],0⟩ (by
     refine Ref.eH 5 (by kernel_rfl) (by kernel_rfl) ?_
     refine dN.eW (cR:=⟨[sP 2 0 0 0,sP 3 1 0 0,sP 22 0 0 0,sP 24 1 0 0,sP 29 1 0 1],[.cells (dM.cs a0),.cells (dO.cs a1)],[],0⟩) (fuel':=10) [0,2,7] [2,3,22,24,29] [0,1] rfl (by kernel_rfl) (by kernel_rfl) ?_
     refine dN.qB [12] ?_
     refine bO.aBh (⟨[sP 2 0 0 0,sP 3 1 0 0,sP 5 2 0 0],aIW a0 a1,[],0⟩) ((bN ((gd ((gd a0.bK a1.c8).bM) a1.dD).cV) (fun (x4:(List fE))=>(bW [room (x4.length * 80)] (bN ((gd ((gd a0.bK a1.c8).bM) a1.dD).cU) (fun (x5:(List fE))=>(bW [room ((x4.length+x5.length) * 80)] ((bT (F70 K a0 a1.c8)).bind (fun r6=>(bW [room ((((x4++x5).length)+r6.length) * 80)] (some (.inl (((x4++x5)++r6)))))))))))))) ?_ (fun hk=>?_)
     ·
      exact Ref.pt (
       .lt _ fun x4 =>
       .ck _ <|
       .lt _ fun x5 =>
       .ck _ <|
       .ob 7 1 4 (x:=.row 41 8 (x4.length+x5.length) fun i j=>bif Nat.blt i x4.length then eN.at x4 i j else (eN.at x5) (i - x4.length) j) (y:=(eN.row (x4++x5))) (El.cI eN x4 x5 rfl rfl) <|
       .sl 7 1 39 (x:=.c (.own 4 (x4.length+x5.length))) (y:=(.c (.own 4 ((x4++x5).length)))) (eA.c (dY.own (by first | (simp;done) | (simp;omega) | omega))) <|
       .call [] (aNU _ _ _) fun r6 =>
       .ck _ <|
       .ob 8 1 5 (x:=.row 41 8 (((x4++x5).length)+r6.length) fun i j=>bif Nat.blt i ((x4++x5).length) then eN.at (x4++x5) i j else (eN.at r6) (i - ((x4++x5).length)) j) (y:=(eN.row ((x4++x5)++r6))) (El.cI eN (x4++x5) r6 rfl rfl) <|
       .sl 8 1 45 (x:=.c (.own 5 (((x4++x5).length)+r6.length))) (y:=(.c (.own 5 (((x4++x5)++r6).length)))) (eA.c (dY.own (by first | (simp;done) | (simp;omega) | omega))) <|
       .fz 8 0 5 <|
       .ret [] _)
     ·
      refine bO.v1 (fuel':=2) [cS a1.c8 a0.bK.length,cS a1.dD ((gd a0.bK a1.c8).bM).length] [1,3,4,5,6,8,9,10] [2,3,32] [0,1] ?_
      refine bO.cM (fuel':=1) 11 (by kernel_rfl) ?_
      refine cF.iY (cR:=⟨[sP 2 0 0 0,sP 3 1 0 0,sP 5 2 0 0,(32,.agg (kJ.cs (gd ((gd a0.bK a1.c8).bM) a1.dD)))],[.cells (dM.cs a0),.cells (dO.cs a1),oX5],[],0⟩) 11 [2,3,5,32] [0,1,2] (by kernel_rfl) (by kernel_rfl) ?_
      refine bO.qP [12] rfl (by kernel_rfl) ?_
      refine c6.en 0 1 ⟨[sP 2 0 0 0,sP 3 1 0 0,sP 5 2 0 0],aIW a0 a1,[],0⟩ [2,3,5] [0,1,2] ?_
      refine Ref.ck ⟨[sP 2 0 0 0,sP 3 1 0 0,sP 5 2 0 0],aIW a0 a1,[],0⟩ [2,3,5] [0,1,2] ?_
      exact hk))))
def aIX (K:Nat) (a0:cZ) (a1:dR) (a2:Bytes):Option ((fE × Bool) ⊕ (fE × Bool)) :=
 ((bT (aL9 K a0 a1)).bind (fun r1=>(bL (bJ ((iter K (fun (lV:Int)=>(bN (decide ((lV:Int)<(Int.ofNat r1.length))) (fun (x27:Bool)=>(if x27=true then (bL (bJ (bW [cS lV r1.length] (bN (((r1.getD (lV:Int).toNat default).cC) == a2) (fun (x30:Bool)=>(if x30=true then (bW [cS lV r1.length] (some (.inl (Sum.inr (Sum.inr ((r1.getD (lV:Int).toNat default),true)))))) else (some (.inr ()))))))) (fun (u29:Unit)=>(some (.inr ((IntKind.i64.wrap (lV+1))))))) else (some (.inl (Sum.inl ()))))))) (0)).map .inl)) (fun (u16:Unit)=>(some (.inl ((⟨([]:Bytes),(⟨0,0,0,([]:Bytes)⟩:fL),0,0,0⟩:fE),false)))))))
theorem aFW (K:Nat) (a0:cZ) (a1:dR) (a2:Bytes):bS Tryz.prog 199 [.agg (dM.cs a0),.agg (dO.cs a1),.c (.str a2)] [] (bT (aIX K a0 a1 a2)) (fun r=>.iT [.agg (eN.cs r.1),.c (.val (.bool r.2))]) (fun r=>[eN.o r.1]):=by
 refine bS.it Tryz.f199 (fun r=>⟨[sP 6 0 0 0,sB 7 r.2],[eN.o r.1],[],0⟩) ?_
 unfold aIX
 exact Ref.pt (
  .call [] (aKl _ _ _) fun r1 =>
  .bk 0 (fun u16=>⟨[sP 6 0 0 0],[oX9],[],0⟩) (
   .lp [2] (fun lV=>⟨[sS 2 a2,sP 6 0 0 0,(8,.c (eN.tree r1)),sI 9 lV],[oX9],[],0⟩) fun lV =>
   .lt _ fun x27 =>
   .ite _ (
    .bk 1 (fun u29=>⟨[sS 2 a2,sP 6 0 0 0,(8,.c (eN.tree r1)),sI 9 lV],[oX9],[],0⟩) (
     .ck _ <|
     .lt _ fun x30 =>
     .ite _ (
      .ck _ <|
      .ret [0] _) (
      .nil [0] _)) fun u29 =>
    .nil [0] _) (
    .ret [0] _)) fun u16 =>
  .ret [0] _)
def aIZ (K:Nat) (a0:cZ) (a1:Bytes):Option ((Bool) ⊕ (Bool)) :=
 ((cH true (bT (F61 K a0 a1)) default).bind (fun r1=>((cH true (bT (F68 K a0 r1)) default).bind (fun r2=>(some (.inl ((((r2:Int) == 2) || ((r2:Int) == 1)))))))))
theorem aKo (K:Nat) (a0:cZ) (a1:Bytes):bS Tryz.prog 200 [.agg (dM.cs a0),.c (.str a1)] [] (bT (aIZ K a0 a1)) (fun r=>.c (.val (.bool r))) (fun r=>[]):=by
 refine bS.it Tryz.f200 (fun r=>⟨[sB 4 r],[],[],0⟩) ?_
 unfold aIZ
 exact Ref.pt (
  .ex [2] <|
  .tx [] <|
  .ex [0,1] <|
  .fF 3 (default:Int) _ [] (oY K a0 a1) (fun _=>rfl) fun r1 =>
  .fF 4 (default:Int) _ [] (oZ K a0 r1) (fun _=>rfl) fun r2 =>
  .ex [5] <|
  .ret [] _)
def aNV (K:Nat) (a0:Int):Option ((Int) ⊕ (Int)) :=
 (bN ((decide ((a0:Int)<1)) || (decide ((a0:Int) ≥ (Int.ofNat ([(-1),0,0,0,0,0,1,1,1,2,0,0,0,0,1].length))))) (fun (x1:Bool)=>(if x1=true then (some (.inl ((-1)))) else (bW [cS a0 ([(-1),0,0,0,0,0,1,1,1,2,0,0,0,0,1].length)] (bN ([(-1),0,0,0,0,0,1,1,1,2,0,0,0,0,1].getD ((a0:Int).toNat) default) (fun (x2:Int)=>(some (.inl (x2)))))))))
theorem aRh (K:Nat) (a0:Int):bS Tryz.prog 227 [.c (.val (.int .i64 a0))] [] (bT (aNV K a0)) (fun r=>.c (.val (.int .i64 r))) (fun r=>[]):=by
 refine bS.it Tryz.f227 (fun r=>⟨[sI 2 r],[],[],0⟩) ?_
 unfold aNV
 exact Ref.pt (
  .ob 1 1 0 (x:=.row 3 1 15 (gY [[iC (-1)],[iC 0],[iC 0],[iC 0],[iC 0],[iC 0],[iC 1],[iC 1],[iC 1],[iC 2],[iC 0],[iC 0],[iC 0],[iC 0],[iC 1]])) (y:=(E3.row [(-1),0,0,0,0,0,1,1,1,2,0,0,0,0,1])) (El.bZ E3 [(-1),0,0,0,0,0,1,1,1,2,0,0,0,0,1] rfl (by kernel_rfl)) <|
  .sl 1 1 4 (x:=.c (.own 0 15)) (y:=(.c (.own 0 ([(-1),0,0,0,0,0,1,1,1,2,0,0,0,0,1].length)))) (eA.c (dY.own (by first | (simp;done) | (simp;omega) | omega))) <|
  .lt _ fun x1 =>
  .ite _ (
   .ret [] _) (
   .ck _ <|
   .lt _ fun x2 =>
   .ret [] _))
def aMa (K:Nat) (a0:Int) (a1:fL) (a2:fL):Option ((fL × Int) ⊕ (fL × Int)) :=
 (bN (((a1.bP:Int) == 1) && ((a2.bP:Int) == 1)) (fun (x1:Bool)=>(bL (bJ (bN (((decide ((a0:Int) ≥ 1)) && (decide ((a0:Int)≤5))) && x1) (fun (x7:Bool)=>(if x7=true then (some (.inl (Sum.inr ((⟨1,0,0,([]:Bytes)⟩:fL),0)))) else (bN (((decide ((a0:Int) ≥ 8)) && (decide ((a0:Int)≤11))) && x1) (fun (x8:Bool)=>(if x8=true then (some (.inl (Sum.inr ((⟨2,0,0,([]:Bytes)⟩:fL),0)))) else (bN ((((decide ((a0:Int) ≥ 12)) && (decide ((a0:Int)≤14))) && ((a1.bP:Int) == 2)) && ((a2.bP:Int) == 2)) (fun (x9:Bool)=>(if x9=true then (some (.inl (Sum.inr ((⟨2,0,0,([]:Bytes)⟩:fL),0)))) else (bN (((((a0:Int) == 6) || ((a0:Int) == 7)) && ((a1.bP:Int) == a2.bP)) && ((((a1.bP:Int) == 1) || ((a1.bP:Int) == 2)) || ((a1.bP:Int) == 5))) (fun (x10:Bool)=>(if x10=true then (some (.inl (Sum.inr ((⟨2,0,0,([]:Bytes)⟩:fL),0)))) else (some (.inr ()))))))))))))))) (fun (u6:Unit)=>(some (.inl ((⟨0,0,0,([]:Bytes)⟩:fL),14)))))))
theorem aRi (K:Nat) (a0:Int) (a1:fL) (a2:fL):bS Tryz.prog 229 [.c (.val (.int .i64 a0)),.agg (fX.cs a1),.agg (fX.cs a2)] [] (bT (aMa K a0 a1 a2)) (fun r=>.iT [.agg (fX.cs r.1),.c (.val (.int .i64 r.2))]) (fun r=>[.cells (fX.cs r.1)]):=by
 refine bS.it Tryz.f229 (fun r=>⟨[sP 6 0 0 0,sI 7 r.2],[.cells (fX.cs r.1)],[],0⟩) ?_
 unfold aMa
 exact Ref.pt (
  .lt _ fun x1 =>
  .bk 0 (fun u6=>⟨[sP 6 0 0 0],[qE],[],0⟩) (
   .lt _ fun x7 =>
   .ite _ (
    .ret [2] _) (
    .lt _ fun x8 =>
    .ite _ (
     .ret [2] _) (
     .lt _ fun x9 =>
     .ite _ (
      .ret [2] _) (
      .lt _ fun x10 =>
      .ite _ (
       .ret [2] _) (
       .nil [2] _))))) fun u6 =>
  .ret [0] _)
def aMb (K:Nat) (a0:cZ) (a1:Bytes) (a2:Bytes):Option ((Bool) ⊕ (Bool)) :=
 ((bT (F61 K a0 a1)).bind (fun r1=>((bT (F68 K a0 r1)).bind (fun r2=>(if (((r2:Int) != 2) && ((r2:Int) != 1))=true then (some (.inl (false))) else ((bT (F61 K a0 a2)).bind (fun r3=>((cH (!(a1 == a2)) (bT (aDx K a0 r1)) default).bind (fun r4=>((cH (!(a1 == a2)) (bT (aG0 K r4 r3)) default).bind (fun r5=>((cH (!((a1 == a2) || r5)) (bT (aL8 K a0 r1)) default).bind (fun r6=>((cH (!((a1 == a2) || r5)) (bT (aG0 K r6 r3)) default).bind (fun r7=>(some (.inl ((((a1 == a2) || r5) || r7)))))))))))))))))))
theorem aKp (K:Nat) (a0:cZ) (a1:Bytes) (a2:Bytes):bS Tryz.prog 160 [.agg (dM.cs a0),.c (.str a1),.c (.str a2)] [] (bT (aMb K a0 a1 a2)) (fun r=>.c (.val (.bool r))) (fun r=>[]):=by
 refine bS.it Tryz.f160 (fun r=>⟨[sB 6 r],[],[],0⟩) ?_
 unfold aMb
 exact Ref.pt (
  .call [] (oY _ _ _) fun r1 =>
  .call [] (oZ _ _ _) fun r2 =>
  .ite _ (
   .ret [] _) (
   .call [] (oY _ _ _) fun r3 =>
   .yE (default:(List Int)) _ (uC K a0 r1) fun r4 =>
   .look (default:Bool) _ [] (aCD K r4 r3) (fun _=>rfl) fun r5 =>
   .yE (default:(List Int)) _ (aKh K a0 r1) fun r6 =>
   .look (default:Bool) _ [] (aCD K r6 r3) (fun _=>rfl) fun r7 =>
   .ret [] _))
def aFX (K:Nat) (a0:cZ) (a1:fL) (a2:fL):Option ((Bool) ⊕ (Bool)) :=
 (bL (bJ (bL (if ((a1.bP:Int) == 1)=true then (some (.inr (((a1.bP:Int) == 1)))) else (some (.inr (((a1.bP:Int) == 3))))) (fun (u5:Bool)=>(if u5=true then (some (.inl (Sum.inr (((a2.bP:Int) == 1))))) else (if ((a1.bP:Int) == 2)=true then (some (.inl (Sum.inr (((a2.bP:Int) == 2))))) else (if ((a1.bP:Int) == 5)=true then ((cH ((!((a2.cC == ([]:Bytes)) || (a2.cC == a1.cC))) && ((a2.bP:Int) == 5)) (bT (aMb K a0 a2.cC a1.cC)) default).bind (fun r6=>(bN (((a2.bP:Int) == 5) && (((a2.cC == ([]:Bytes)) || (a2.cC == a1.cC)) || r6)) (fun (x7:Bool)=>(some (.inl (Sum.inr (x7)))))))) else (some (.inr ())))))))) (fun (u4:Unit)=>(some (.inl (false)))))
theorem aFY (K:Nat) (a0:cZ) (a1:fL) (a2:fL):bS Tryz.prog 225 [.agg (dM.cs a0),.agg (fX.cs a1),.agg (fX.cs a2)] [] (bT (aFX K a0 a1 a2)) (fun r=>.c (.val (.bool r))) (fun r=>[]):=by
 refine bS.it Tryz.f225 (fun r=>⟨[sB 6 r],[],[],0⟩) ?_
 unfold aFX
 exact Ref.pt (
  .bk 0 (fun u4=>⟨[],[],[],0⟩) (
   .jn (fun u5=>⟨[sP 3 0 0 0,sP 4 1 0 0,sP 5 2 0 0,sI 8 a1.bP,sB 9 u5],[.cells (dM.cs a0),.cells (fX.cs a1),.cells (fX.cs a2)],[],0⟩) (
    .ite _ (
     .nil [0,1,2] _) (
     .nil [0,1,2] _)) fun u5 =>
   .ite _ (
    .ret [] _) (
    .ite _ (
     .ret [] _) (
     .ite _ (
      .look (default:Bool) _ [] (aKp K a0 a2.cC a1.cC) (fun _=>rfl) fun r6 =>
      .lt _ fun x7 =>
      .ret [] _) (
      .nil [] _)))) fun u4 =>
  .ret [] _)
end Go.Proofs.YtdbfbedholdjaaaGreat
