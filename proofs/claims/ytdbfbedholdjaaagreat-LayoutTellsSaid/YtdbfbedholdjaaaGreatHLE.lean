/- No conditions. -/
import Derived.Test.YtdbfbedholdjaaaGreatHLA
import Derived.Test.YtdbfbedholdjaaaGreatProg
import Derived.Test.YtdbfbedholdjaaaGreatHLd
set_option linter.unusedVariables false
set_option linter.unusedSimpArgs false
set_option linter.unusedSectionVars false
namespace Go.Proofs.YtdbfbedholdjaaaGreat
open Go Go.Proofs Go.Dl
variable [dO]
set_option maxRecDepth 100000
set_option maxHeartbeats 4000000
def aOm (K:Nat) (a0:iR):Option ((Bool) ⊕ (Bool)) :=
 (bR (((decide (((Int.ofNat a0.bS.length):Int) > 6)) || (decide (((Int.ofNat a0.cL.length):Int) > 4))) || (decide (((Int.ofNat a0.cA.length):Int) > 8))) (fun (x1:Bool)=>(if x1=true then (some (.inl (true))) else (bT (bQ ((iter K (fun (iX:Int)=>(bR (decide ((iX:Int)<(Int.ofNat a0.bS.length))) (fun (gY:Bool)=>(if gY=true then (bT (bQ (bY [cP iX a0.bS.length,!(!(decide (((Int.ofNat ((a0.bS.getD (iX:Int).toNat default).cG).length):Int) > 3))) || cP iX a0.bS.length] (bR ((decide (((Int.ofNat ((a0.bS.getD (iX:Int).toNat default).cG).length):Int) > 3)) || (decide (((Int.ofNat ((a0.bS.getD (iX:Int).toNat default).cA).length):Int) > 8))) (fun (x32:Bool)=>(if x32=true then (some (.inl (Sum.inr (Sum.inr (true))))) else (some (.inr ()))))))) (fun (wK:Unit)=>(some (.inr ((IntKind.i64.wrap (iX+1))))))) else (some (.inl (Sum.inl ()))))))) (0)).map .inl)) (fun (kF:Unit)=>(some (.inl (false))))))))
theorem aS6 (K:Nat) (a0:iR):bV Tryz.prog 116 [.agg (gW.cs a0)] [] (bX (aOm K a0)) (fun r=>.c (.val (.bool r))) (fun r=>[]):=by
 refine bV.it Tryz.f116 (fun r=>⟨[sB 2 r],[],[],0⟩) ?_
 unfold aOm
 exact Ref.pt (
  .lt _ fun x1 =>
  .ite _ (
   .ret [] _) (
   .bk 0 (fun kF=>⟨[],[],[],0⟩) (
    .lp [0] (fun iX=>⟨[sP 1 0 0 0,sI 3 iX],[gW.o a0],[],0⟩) fun iX =>
    .lt _ fun gY =>
    .ite _ (
     .bk 1 (fun wK=>⟨[sP 1 0 0 0,sI 3 iX],[gW.o a0],[],0⟩) (
      .ck _ <|
      .lt _ fun x32 =>
      .ite _ (
       .ret [] _) (
       .nil [0] _)) fun wK =>
     .nil [0] _) (
     .ret [] _)) fun kF =>
   .ret [] _))
def aMc (K:Nat) (a0:cK) (a1:Bytes) (a2:Bool):Option ((Bool) ⊕ (Bool)) :=
 ((cE true (bX (F61 K a0 a1)) default).bind (fun r1=>((cE true (bX (F68 K a0 r1)) default).bind (fun r2=>(bR (((r2:Int) == 2) || (a2 && ((r2:Int) == 1))) (fun (x3:Bool)=>(some (.inl (x3)))))))))
theorem aKw (K:Nat) (a0:cK) (a1:Bytes) (a2:Bool):bV Tryz.prog 197 [.agg (c9.cs a0),.c (.str a1),.c (.val (.bool a2))] [] (bX (aMc K a0 a1 a2)) (fun r=>.c (.val (.bool r))) (fun r=>[]):=by
 refine bV.it Tryz.f197 (fun r=>⟨[sB 6 r],[],[],0⟩) ?_
 unfold aMc
 exact Ref.pt (
  .ex [2] <|
  .tx [] <|
  .ex [0,1] <|
  .dQ 3 (default:Int) _ [] (lB K a0 a1) (fun _=>rfl) fun r1 =>
  .dQ 4 (default:Int) _ [] (lC K a0 r1) (fun _=>rfl) fun r2 =>
  .ex [5] <|
  .lt _ fun x3 =>
  .ret [] _)
def aMd (K:Nat) (a0:cK) (a1:fS):Option ((Bool) ⊕ (Bool)) :=
 (bR (((a1.bU:Int) == 1) || ((a1.bU:Int) == 2)) (fun (x1:Bool)=>((cE (((a1.bU:Int) == 5) && (!x1)) (bX (aMc K a0 a1.cD true)) default).bind (fun r2=>(some (.inl ((x1 || (((a1.bU:Int) == 5) && r2)))))))))
theorem aKx (K:Nat) (a0:cK) (a1:fS):bV Tryz.prog 191 [.agg (c9.cs a0),.agg (jV.cs a1)] [] (bX (aMd K a0 a1)) (fun r=>.c (.val (.bool r))) (fun r=>[]):=by
 refine bV.it Tryz.f191 (fun r=>⟨[sB 4 r],[],[],0⟩) ?_
 unfold aMd
 exact Ref.pt (
  .lt _ fun x1 =>
  .look (default:Bool) _ [] (aKw K a0 a1.cD true) (fun _=>rfl) fun r2 =>
  .ret [] _)
def aOn (K:Nat) (a0:fS):Option ((Bool) ⊕ (Bool)) :=
 (bR ((((a0.bU:Int) == 0) || ((a0.bU:Int) == 1)) || ((a0.bU:Int) == 2)) (fun (x1:Bool)=>(some (.inl (x1)))))
theorem aS7 (K:Nat) (a0:fS):bV Tryz.prog 192 [.agg (jV.cs a0)] [] (bX (aOn K a0)) (fun r=>.c (.val (.bool r))) (fun r=>[]):=by
 refine bV.it Tryz.f192 (fun r=>⟨[sB 2 r],[],[],0⟩) ?_
 unfold aOn
 exact Ref.pt (
  .lt _ fun x1 =>
  .ret [] _)
def aMe (K:Nat) (a0:cK) (a1:hU):Option ((Bool) ⊕ (Bool)) :=
 (bT (bQ ((iter K (fun (eA:Int)=>(bR (decide ((eA:Int)<(Int.ofNat a1.cG.length))) (fun (kI:Bool)=>(if kI=true then (bT (bQ (bY [cP eA a1.cG.length] ((cE true (bX (aMd K a0 ((a1.cG.getD (eA:Int).toNat default).cB))) default).bind (fun w9=>(if (!w9)=true then (some (.inl (Sum.inr (Sum.inr (false))))) else (some (.inr ()))))))) (fun (eW:Unit)=>(some (.inr ((IntKind.i64.wrap (eA+1))))))) else (some (.inl (Sum.inl ()))))))) (0)).map .inl)) (fun (u16:Unit)=>((bX (aOn K a1.eU)).bind (fun r32=>(some (.inl (r32)))))))
theorem aKy (K:Nat) (a0:cK) (a1:hU):bV Tryz.prog 144 [.agg (c9.cs a0),.agg (jO.cs a1)] [] (bX (aMe K a0 a1)) (fun r=>.c (.val (.bool r))) (fun r=>[]):=by
 refine bV.it Tryz.f144 (fun r=>⟨[sB 4 r],[],[],0⟩) ?_
 unfold aMe
 exact Ref.pt (
  .bk 0 (fun u16=>⟨[sP 3 0 0 0],[jO.o a1],[],0⟩) (
   .lp [0,1] (fun eA=>⟨[sP 2 0 0 0,sP 3 1 0 0,sI 5 eA],[.cells (c9.cs a0),jO.o a1],[],0⟩) fun eA =>
   .lt _ fun kI =>
   .ite _ (
    .bk 1 (fun eW=>⟨[sP 2 0 0 0,sP 3 1 0 0,sI 5 eA],[.cells (c9.cs a0),jO.o a1],[],0⟩) (
     .ex [1,3] <|
     .tx [] <|
     .hO [0,2,4,5,6] _ <|
     .dQ 7 (default:Bool) _ [] (aKx K a0 ((gd a1.cG eA).cB)) (fun _=>rfl) fun w9 =>
     .ex [8] <|
     .ite _ (
      .ret [] _) (
      .nil [0,1] _)) fun eW =>
    .nil [0,1] _) (
    .ret [1] _)) fun u16 =>
  .call [] (aS7 _ _) fun r32 =>
  .ret [] _)
def aCL (K:Nat) (a0:(List Bytes)):Option ((Bool) ⊕ (Bool)) :=
 (bT (bQ ((iter K (fun (aBd:Int)=>(bR (decide ((aBd:Int)<(Int.ofNat a0.length))) (fun (a0P:Bool)=>(if a0P=true then (bT (bQ (bT (bQ ((iter K (fun (aG4:Int)=>(if (decide ((aG4:Int)<aBd))=true then (bT (bQ (bY [cP aG4 a0.length,cP aBd a0.length] (bR ((a0.getD (aG4:Int).toNat default) == (a0.getD (aBd:Int).toNat default)) (fun (a0Q:Bool)=>(if a0Q=true then (some (.inl (Sum.inr (Sum.inr (Sum.inr (Sum.inr (true))))))) else (some (.inr ()))))))) (fun (aG5:Unit)=>(some (.inr ((IntKind.i64.wrap (aG4+1))))))) else (some (.inl (Sum.inl ()))))) (0)).map .inl)) (fun (a0R:Unit)=>(some (.inr ()))))) (fun (a0S:Unit)=>(some (.inr ((IntKind.i64.wrap (aBd+1))))))) else (some (.inl (Sum.inl ()))))))) (0)).map .inl)) (fun (aOo:Unit)=>(some (.inl (false)))))
theorem rK (K:Nat) (a0:(List Bytes)):bV Tryz.prog 145 [.c (E9.tree a0)] [] (bX (aCL K a0)) (fun r=>.c (.val (.bool r))) (fun r=>[]):=by
 refine bV.it Tryz.f145 (fun r=>⟨[sB 2 r],[],[],0⟩) ?_
 unfold aCL
 exact Ref.pt (
  .bk 0 (fun aOo=>⟨[],[],[],0⟩) (
   .lp [] (fun aBd=>⟨[(0,.c (E9.tree a0)),sI 3 aBd],[],[],0⟩) fun aBd =>
   .lt _ fun a0P =>
   .ite _ (
    .bk 1 (fun a0S=>⟨[(0,.c (E9.tree a0)),sI 3 aBd],[],[],0⟩) (
     .bk 2 (fun a0R=>⟨[(0,.c (E9.tree a0)),sI 3 aBd],[],[],0⟩) (
      .lp [] (fun aG4=>⟨[(0,.c (E9.tree a0)),sI 3 aBd,sI 4 aG4],[],[],0⟩) fun aG4 =>
      .ite _ (
       .bk 3 (fun aG5=>⟨[(0,.c (E9.tree a0)),sI 3 aBd,sI 4 aG4],[],[],0⟩) (
        .hO [0,1,2,4,5,6] _ <|
        .tx [] <|
        .ex [3,7,8] <|
        .lt _ fun a0Q =>
        .ite _ (
         .ret [] _) (
         .nil [] _)) fun aG5 =>
       .nil [] _) (
       .ret [] _)) fun a0R =>
     .nil [] _) fun a0S =>
    .nil [] _) (
    .ret [] _)) fun aOo =>
  .ret [] _)
def aI1 (K:Nat) (a0:iR):Option (((List Bytes)) ⊕ ((List Bytes))) :=
 (bT (bQ ((iter K (fun (eA:(List Bytes) × Int)=>(bR (decide ((eA.2:Int)<(Int.ofNat a0.bS.length))) (fun (kI:Bool)=>(if kI=true then (bT (bQ (bY [cP eA.2 a0.bS.length] (bR ((a0.bS.getD (eA.2:Int).toNat default).cD) (fun (x31:Bytes)=>(bY [room ((eA.1.length+([x31].length)) * 16)] (some (.inr ((eA.1++[x31]))))))))) (fun (eW:(List Bytes))=>(some (.inr (eW,(IntKind.i64.wrap (eA.2+1))))))) else (some (.inl (Sum.inl (eA.1)))))))) ([],0)).map .inl)) (fun (u16:(List Bytes))=>(some (.inl (u16)))))
theorem aFI (K:Nat) (a0:iR):bV Tryz.prog 146 [.agg (gW.cs a0)] [] (bX (aI1 K a0)) (fun r=>.c (E9.tree r)) (fun r=>[]):=by
 refine bV.it Tryz.f146 (fun r=>⟨[(2,.c (E9.tree r))],[],[],0⟩) ?_
 unfold aI1
 exact Ref.pt (
  .bk 0 (fun u16=>⟨[(3,.c (.own 0 u16.length))],[E9.row u16],[],0⟩) (
   .ad 2 0 3 E9.ty E9.w (E9.at []) <|
   .lp [0,1] (fun eA=>⟨[sP 1 0 0 0,(3,.c (.own 1 eA.1.length)),sI 4 eA.2],[gW.o a0,E9.row eA.1],[],0⟩) fun eA =>
   .lt _ fun kI =>
   .ite _ (
    .bk 1 (fun eW=>⟨[sP 1 0 0 0,(3,.c (.own 1 eW.length)),sI 4 eA.2],[gW.o a0,E9.row eW],[],0⟩) (
     .ck _ <|
     .lt _ fun x31 =>
     .ob 5 2 2 (El.b9 E9 [x31] rfl rfl) <|
     .ck _ <|
     .ap 5 1 3 20 E9 eA.1 [x31] <|
     .nil [0,3] _) fun eW =>
    .nil [0,1] _) (
    .ret [1] _)) fun u16 =>
  .fz 6 0 0 <|
  .ret [] _)
def aG6 (K:Nat) (a0:(List eZ)):Option (((List Bytes)) ⊕ ((List Bytes))) :=
 (bT (bQ ((iter K (fun (vO:(List Bytes) × Int)=>(bR (decide ((vO.2:Int)<(Int.ofNat a0.length))) (fun (x16:Bool)=>(if x16=true then (bT (bQ (bY [cP vO.2 a0.length] (bY [room ((vO.1.length+([(a0.getD (vO.2:Int).toNat default).cD].length)) * 16)] (some (.inr ((vO.1++[(a0.getD (vO.2:Int).toNat default).cD]))))))) (fun (kF:(List Bytes))=>(some (.inr (kF,(IntKind.i64.wrap (vO.2+1))))))) else (some (.inl (Sum.inl (vO.1)))))))) ([],0)).map .inl)) (fun (u9:(List Bytes))=>(some (.inl (u9)))))
theorem aBO (K:Nat) (a0:(List eZ)):bV Tryz.prog 147 [.c (eX.tree a0)] [] (bX (aG6 K a0)) (fun r=>.c (E9.tree r)) (fun r=>[]):=by
 refine bV.it Tryz.f147 (fun r=>⟨[(2,.c (E9.tree r))],[],[],0⟩) ?_
 unfold aG6
 exact Ref.pt (
  .bk 0 (fun u9=>⟨[(3,.c (.own 0 u9.length))],[E9.row u9],[],0⟩) (
   .ad 2 0 3 E9.ty E9.w (E9.at []) <|
   .lp [0] (fun vO=>⟨[(0,.c (eX.tree a0)),(3,.c (.own 0 vO.1.length)),sI 4 vO.2],[E9.row vO.1],[],0⟩) fun vO =>
   .lt _ fun x16 =>
   .ite _ (
    .bk 1 (fun kF=>⟨[(0,.c (eX.tree a0)),(3,.c (.own 0 kF.length)),sI 4 vO.2],[E9.row kF],[],0⟩) (
     .ck _ <|
     .ob 5 2 1 (El.b9 E9 [(gd a0 vO.2).cD] rfl rfl) <|
     .ck _ <|
     .ap 5 1 2 18 E9 vO.1 [(gd a0 vO.2).cD] <|
     .nil [2] _) fun kF =>
    .nil [0] _) (
    .ret [0] _)) fun u9 =>
  .fz 6 0 0 <|
  .ret [] _)
def aOp (K:Nat) (a0:cK) (a1:iR):Option ((Int) ⊕ (Int)) :=
 (bT (bQ ((iter K (fun (eA:Int)=>(bR (decide ((eA:Int)<(Int.ofNat a1.bS.length))) (fun (kI:Bool)=>(if kI=true then (bT (bQ (bY [cP eA a1.bS.length] ((cE true (bX (aMe K a0 (a1.bS.getD (eA:Int).toNat default))) default).bind (fun w9=>(if (!w9)=true then (some (.inl (Sum.inr (Sum.inr (9))))) else (some (.inr ()))))))) (fun (eW:Unit)=>(some (.inr ((IntKind.i64.wrap (eA+1))))))) else (some (.inl (Sum.inl ()))))))) (0)).map .inl)) (fun (u16:Unit)=>((bX (aI1 K a1)).bind (fun r32=>((bX (aCL K r32)).bind (fun r33=>(bT (bQ ((iter K (fun (u63:Bool × Int)=>(bR (decide ((u63.2:Int)<(Int.ofNat a1.bS.length))) (fun (x71:Bool)=>(if x71=true then (bT (bQ (bY [!(!u63.1) || cP u63.2 a1.bS.length] ((cE (!u63.1) (bX (aG6 K ((a1.bS.getD (u63.2:Int).toNat default).cG))) default).bind (fun r75=>((cE (!u63.1) (bX (aCL K r75)) default).bind (fun r76=>(some (.inr ((u63.1 || r76)))))))))) (fun (u74:Bool)=>(some (.inr (u74,(IntKind.i64.wrap (u63.2+1))))))) else (some (.inl (Sum.inl (u63.1)))))))) (r33,0)).map .inl)) (fun (u55:Bool)=>(if u55=true then (some (.inl (6))) else (some (.inl (0))))))))))))
theorem aS8 (K:Nat) (a0:cK) (a1:iR):bV Tryz.prog 117 [.agg (c9.cs a0),.agg (gW.cs a1)] [] (bX (aOp K a0 a1)) (fun r=>.c (.val (.int .i64 r))) (fun r=>[]):=by
 refine bV.it Tryz.f117 (fun r=>⟨[sI 4 r],[],[],0⟩) ?_
 unfold aOp
 exact Ref.pt (
  .bk 0 (fun u16=>⟨[sP 3 0 0 0],[gW.o a1],[],0⟩) (
   .lp [0,1] (fun eA=>⟨[sP 2 0 0 0,sP 3 1 0 0,sI 5 eA],[.cells (c9.cs a0),gW.o a1],[],0⟩) fun eA =>
   .lt _ fun kI =>
   .ite _ (
    .bk 1 (fun eW=>⟨[sP 2 0 0 0,sP 3 1 0 0,sI 5 eA],[.cells (c9.cs a0),gW.o a1],[],0⟩) (
     .ex [1,3] <|
     .tx [] <|
     .hO [0,2,4,5] _ <|
     .dQ 6 (default:Bool) _ [] (aKy K a0 (gd a1.bS eA)) (fun _=>rfl) fun w9 =>
     .ex [7] <|
     .ite _ (
      .ret [] _) (
      .nil [0,1] _)) fun eW =>
    .nil [0,1] _) (
    .ret [1] _)) fun u16 =>
  .call [] (aFI _ _) fun r32 =>
  .call [] (rK _ _) fun r33 =>
  .bk 2 (fun u55=>⟨[sB 6 u55],[],[],0⟩) (
   .lp [0] (fun u63=>⟨[sP 3 0 0 0,sB 6 u63.1,sI 7 u63.2],[gW.o a1],[],0⟩) fun u63 =>
   .lt _ fun x71 =>
   .ite _ (
    .bk 3 (fun u74=>⟨[sP 3 0 0 0,sB 6 u74,sI 7 u63.2],[gW.o a1],[],0⟩) (
     .ck _ <|
     .vN (default:(List Bytes)) _ (aBO K ((gd a1.bS u63.2).cG)) fun r75 =>
     .look (default:Bool) _ [] (rK K r75) (fun _=>rfl) fun r76 =>
     .nil [0] _) fun u74 =>
    .nil [0] _) (
    .ret [] _)) fun u55 =>
  .ite _ (
   .ret [] _) (
   .ret [] _))
def aMf (K:Nat) (a0:eZ):Option ((Bool) ⊕ (Bool)) :=
 (bT (bQ (if ((a0.cB.bU:Int) == 1)=true then (bR ((decide ((a0.dM:Int) ≥ (-32768))) && (decide ((a0.dM:Int)≤32767))) (fun (x5:Bool)=>(some (.inl (Sum.inr (x5)))))) else (if ((a0.cB.bU:Int) == 2)=true then (bR (((a0.dM:Int) == 0) || ((a0.dM:Int) == 1)) (fun (x6:Bool)=>(some (.inl (Sum.inr (x6)))))) else (if ((a0.cB.bU:Int) == 3)=true then (bR ((decide ((a0.dM:Int) ≥ a0.cB.fLo)) && (decide ((a0.dM:Int)≤a0.cB.zO))) (fun (x7:Bool)=>(some (.inl (Sum.inr (x7)))))) else (some (.inr ())))))) (fun (u4:Unit)=>(some (.inl (((a0.dM:Int) == 0))))))
theorem aKz (K:Nat) (a0:eZ):bV Tryz.prog 155 [.agg (eX.cs a0)] [] (bX (aMf K a0)) (fun r=>.c (.val (.bool r))) (fun r=>[]):=by
 refine bV.it Tryz.f155 (fun r=>⟨[sB 2 r],[],[],0⟩) ?_
 unfold aMf
 exact Ref.pt (
  .bk 0 (fun u4=>⟨[sP 1 0 0 0],[eX.o a0],[],0⟩) (
   .ite _ (
    .lt _ fun x5 =>
    .ret [] _) (
    .ite _ (
     .lt _ fun x6 =>
     .ret [] _) (
     .ite _ (
      .lt _ fun x7 =>
      .ret [] _) (
      .nil [0] _)))) fun u4 =>
  .ret [] _)
def aMg (K:Nat) (a0:cK) (a1:fS):Option ((Bool) ⊕ (Bool)) :=
 ((bX (aMd K a0 a1)).bind (fun r1=>(bR ((r1 || (((((a1.bU:Int) == 3) && (decide ((a1.fLo:Int) ≥ (-32768)))) && (decide ((a1.zO:Int)≤32767))) && (decide ((a1.fLo:Int)≤a1.zO)))) || ((((a1.bU:Int) == 4) && (decide ((a1.zO:Int) ≥ 0))) && (decide ((a1.zO:Int)<8)))) (fun (x2:Bool)=>(some (.inl (x2)))))))
theorem aKA (K:Nat) (a0:cK) (a1:fS):bV Tryz.prog 193 [.agg (c9.cs a0),.agg (jV.cs a1)] [] (bX (aMg K a0 a1)) (fun r=>.c (.val (.bool r))) (fun r=>[]):=by
 refine bV.it Tryz.f193 (fun r=>⟨[sB 4 r],[],[],0⟩) ?_
 unfold aMg
 exact Ref.pt (
  .call [] (aKx _ _ _) fun r1 =>
  .lt _ fun x2 =>
  .ret [] _)
def aOq (K:Nat) (a0:cK) (a1:iR):Option ((Int) ⊕ (Int)) :=
 (bY [room (a1.cA.length * 80)] (bT (bQ ((iter K (fun (mW:(List eZ) × Int)=>(bR (decide ((mW.2:Int)<(Int.ofNat a1.bS.length))) (fun (a0T:Bool)=>(if a0T=true then (bT (bQ (bY [cP mW.2 a1.bS.length] ((bX (aMe K a0 (a1.bS.getD (mW.2:Int).toNat default))).bind (fun a0U=>(if (!a0U)=true then (some (.inl (Sum.inr (Sum.inr (9))))) else (bT (bQ ((iter K (fun (aG7:Int)=>(bR (decide ((aG7:Int)<(Int.ofNat ((a1.bS.getD (mW.2:Int).toNat default).cG).length))) (fun (a0V:Bool)=>(if a0V=true then (bT (bQ (bY [cP aG7 ((a1.bS.getD (mW.2:Int).toNat default).cG).length] (bR ((((((a1.bS.getD (mW.2:Int).toNat default).cG).getD (aG7:Int).toNat default).kE):Int) != 0) (fun (a0W:Bool)=>(if a0W=true then (some (.inl (Sum.inr (Sum.inr (Sum.inr (Sum.inr (9))))))) else (some (.inr ()))))))) (fun (oW:Unit)=>(some (.inr ((IntKind.i64.wrap (aG7+1))))))) else (some (.inl (Sum.inl ()))))))) (0)).map .inl)) (fun (a0X:Unit)=>(bR ((a1.bS.getD (mW.2:Int).toNat default).cA) (fun (aS9:(List eZ))=>(bY [room ((mW.1.length+aS9.length) * 80)] (some (.inr ((mW.1++aS9)))))))))))))) (fun (mX:(List eZ))=>(some (.inr (mX,(IntKind.i64.wrap (mW.2+1))))))) else (some (.inl (Sum.inl (mW.1)))))))) (a1.cA,0)).map .inl)) (fun (oK:(List eZ))=>(bT (bQ ((iter K (fun (aCN:Int)=>(bR (decide ((aCN:Int)<(Int.ofNat oK.length))) (fun (a0Y:Bool)=>(if a0Y=true then (bT (bQ (bY [cP aCN oK.length] ((cE true (bX (aMg K a0 ((oK.getD ((aCN:Int).toNat) default).cB))) default).bind (fun aXw=>(bY [!(!(!aXw)) || cP aCN oK.length] (bR ((!aXw) || ((((oK.getD ((aCN:Int).toNat) default).kE):Int) != 0)) (fun (a0Z:Bool)=>(if a0Z=true then (some (.inl (Sum.inr (Sum.inr (9))))) else (some (.inr ())))))))))) (fun (a00:Unit)=>(some (.inr ((IntKind.i64.wrap (aCN+1))))))) else (some (.inl (Sum.inl ()))))))) (0)).map .inl)) (fun (a01:Unit)=>(bT (bQ ((iter K (fun (aG8:Int)=>(bR (decide ((aG8:Int)<(Int.ofNat oK.length))) (fun (aOr:Bool)=>(if aOr=true then (bT (bQ (bY [cP aG8 oK.length] ((bX (aMf K (oK.getD ((aG8:Int).toNat) default))).bind (fun a02=>(if (!a02)=true then (some (.inl (Sum.inr (Sum.inr (10))))) else (some (.inr ()))))))) (fun (a03:Unit)=>(some (.inr ((IntKind.i64.wrap (aG8+1))))))) else (some (.inl (Sum.inl ()))))))) (0)).map .inl)) (fun (aG9:Unit)=>(some (.inl (0))))))))))
abbrev aFJ (v0:(List eZ) × Int):List (Nat × D):=[sP 2 0 0 0,sP 3 1 0 0,(5,.c (.own 2 v0.1.length)),sI 6 v0.2]
theorem aTa (K:Nat) (a0:cK) (a1:iR):bV Tryz.prog 148 [.agg (c9.cs a0),.agg (gW.cs a1)] [] (bX (aOq K a0 a1)) (fun r=>.c (.val (.int .i64 r))) (fun r=>[]):=by
 refine bV.it Tryz.f148 (fun r=>⟨[sI 4 r],[],[],0⟩) ?_
 unfold aOq
 exact Ref.pt (
  .ck _ <|
  .bk 0 (fun oK=>⟨[sP 2 0 0 0,(5,.c (.own 1 oK.length))],[.cells (c9.cs a0),eX.row oK],[],0⟩) (
   .lp [0,1,2] (fun mW=>⟨aFJ mW,[.cells (c9.cs a0),gW.o a1,eX.row mW.1],[],0⟩) fun mW =>
   .lt _ fun a0T =>
   .ite _ (
    .bk 1 (fun mX=>⟨[sP 2 0 0 0,sP 3 1 0 0,(5,.c (.own 2 mX.length)),sI 6 mW.2],[.cells (c9.cs a0),gW.o a1,eX.row mX],[],0⟩) (
     .ck _ <|
     .call [] (aKy _ _ _) fun a0U =>
     .ite _ (
      .ret [] _) (
      .bk 2 (fun a0X=>⟨aFJ mW++[sP 7 3 0 0],[.cells (c9.cs a0),gW.o a1,eX.row mW.1,jO.o (gd a1.bS mW.2)],[],0⟩) (
       .lp [0,1,2,3] (fun aG7=>⟨aFJ mW++[sP 7 3 0 0,sI 8 aG7],[.cells (c9.cs a0),gW.o a1,eX.row mW.1,jO.o (gd a1.bS mW.2)],[],0⟩) fun aG7 =>
       .lt _ fun a0V =>
       .ite _ (
        .bk 3 (fun oW=>⟨aFJ mW++[sP 7 3 0 0,sI 8 aG7],[.cells (c9.cs a0),gW.o a1,eX.row mW.1,jO.o (gd a1.bS mW.2)],[],0⟩) (
         .ck _ <|
         .lt _ fun a0W =>
         .ite _ (
          .ret [] _) (
          .nil [0,1,2,3] _)) fun oW =>
        .nil [0,1,2,3] _) (
        .ret [0,1,2,3] _)) fun a0X =>
      .lt _ fun aS9 =>
      .ck _ <|
      .ap 13 1 4 47 eX mW.1 aS9 <|
      .nil [0,1,4] _)) fun mX =>
    .nil [0,1,2] _) (
    .ret [0,2] _)) fun oK =>
  .bk 4 (fun a01=>⟨[(5,.c (.own 0 oK.length))],[eX.row oK],[],0⟩) (
   .lp [0,1] (fun aCN=>⟨[sP 2 0 0 0,(5,.c (.own 1 oK.length)),sI 9 aCN],[.cells (c9.cs a0),eX.row oK],[],0⟩) fun aCN =>
   .lt _ fun a0Y =>
   .ite _ (
    .bk 5 (fun a00=>⟨[sP 2 0 0 0,(5,.c (.own 1 oK.length)),sI 9 aCN],[.cells (c9.cs a0),eX.row oK],[],0⟩) (
     .hO [1,2,3,4] _ <|
     .tx [] <|
     .ex [0,5] <|
     .dQ 6 (default:Bool) _ [] (aKA K a0 ((oK.getD ((aCN:Int).toNat) default).cB)) (fun _=>rfl) fun aXw =>
     .hO [7,8,9,10,11,12,13,14,15] _ <|
     .lt _ fun a0Z =>
     .ite _ (
      .ret [] _) (
      .nil [0,1] _)) fun a00 =>
    .nil [0,1] _) (
    .ret [1] _)) fun a01 =>
  .bk 6 (fun aG9=>⟨[],[],[],0⟩) (
   .lp [0] (fun aG8=>⟨[(5,.c (.own 0 oK.length)),sI 10 aG8],[eX.row oK],[],0⟩) fun aG8 =>
   .lt _ fun aOr =>
   .ite _ (
    .bk 7 (fun a03=>⟨[(5,.c (.own 0 oK.length)),sI 10 aG8],[eX.row oK],[],0⟩) (
     .ck _ <|
     .call [] (aKz _ _) fun a02 =>
     .ite _ (
      .ret [] _) (
      .nil [0] _)) fun a03 =>
    .nil [0] _) (
    .ret [] _)) fun aG9 =>
  .ret [] _)
def aOs (K:Nat) (a0:cK) (a1:Int):Option ((Bool) ⊕ (Bool)) :=
 (bY [cP a1 a0.bP.length] (bR (((a0.bP.getD (a1:Int).toNat default).eT) && ((a0.bP.getD (a1:Int).toNat default).tR)) (fun (x1:Bool)=>(if x1=true then (some (.inl (true))) else (bT (bQ ((iter K (fun (iX:Int)=>(bR (decide ((iX:Int)<(Int.ofNat ((a0.bP.getD (a1:Int).toNat default).bS).length))) (fun (gY:Bool)=>(if gY=true then (bT (bQ (bY [cP iX ((a0.bP.getD (a1:Int).toNat default).bS).length] (bR (((((a0.bP.getD (a1:Int).toNat default).bS).getD (iX:Int).toNat default).eT) && (((((((a0.bP.getD (a1:Int).toNat default).bS).getD (iX:Int).toNat default).tR) || (decide (((Int.ofNat ((((a0.bP.getD (a1:Int).toNat default).bS).getD (iX:Int).toNat default).cA).length):Int) > 0))) || (decide (((Int.ofNat ((((a0.bP.getD (a1:Int).toNat default).bS).getD (iX:Int).toNat default).sC).length):Int) > 0))) || (!((a0.bP.getD (a1:Int).toNat default).eT)))) (fun (x32:Bool)=>(if x32=true then (some (.inl (Sum.inr (Sum.inr (true))))) else (some (.inr ()))))))) (fun (wK:Unit)=>(some (.inr ((IntKind.i64.wrap (iX+1))))))) else (some (.inl (Sum.inl ()))))))) (0)).map .inl)) (fun (kF:Unit)=>((bX (aBb K a0 a1)).bind (fun r33=>(bT (bQ ((iter K (fun (aAi:Int)=>(bR ((decide ((aAi:Int)<(Int.ofNat r33.length))) && (!((a0.bP.getD (a1:Int).toNat default).eT))) (fun (a04:Bool)=>(if a04=true then (bT (bQ (bY [cP aAi r33.length] (bY [cP (r33.getD (aAi:Int).toNat default) a0.bP.length] ((bX (aI1 K (a0.bP.getD ((r33.getD (aAi:Int).toNat default):Int).toNat default))).bind (fun aI2=>(bT (bQ ((iter K (fun (aFK:Int)=>(bR (decide ((aFK:Int)<(Int.ofNat aI2.length))) (fun (a05:Bool)=>(if a05=true then (bT (bQ (bY [cP aFK aI2.length] ((bX (aEd K a0 a1 (aI2.getD (aFK:Int).toNat default))).bind (fun aXx=>((bX (F63 K a0 aXx.1)).bind (fun a06=>(if a06.eT=true then (some (.inl (Sum.inr (Sum.inr (Sum.inr (Sum.inr (true))))))) else (some (.inr ()))))))))) (fun (a07:Unit)=>(some (.inr ((IntKind.i64.wrap (aFK+1))))))) else (some (.inl (Sum.inl ()))))))) (0)).map .inl)) (fun (a08:Unit)=>(some (.inr ()))))))))) (fun (a09:Unit)=>(some (.inr ((IntKind.i64.wrap (aAi+1))))))) else (some (.inl (Sum.inl ()))))))) (0)).map .inl)) (fun (a1a:Unit)=>(some (.inl (false)))))))))))))
theorem aTb (K:Nat) (a0:cK) (a1:Int):bV Tryz.prog 150 [.agg (c9.cs a0),.c (.val (.int .i64 a1))] [] (bX (aOs K a0 a1)) (fun r=>.c (.val (.bool r))) (fun r=>[]):=by
 refine bV.it Tryz.f150 (fun r=>⟨[sB 4 r],[],[],0⟩) ?_
 unfold aOs
 exact Ref.pt (
  .ck _ <|
  .lt _ fun x1 =>
  .ite _ (
   .ret [] _) (
   .bk 0 (fun kF=>⟨[sI 1 a1,sP 2 0 0 0,sP 5 1 0 0],[.cells (c9.cs a0),gW.o (gd a0.bP a1)],[],0⟩) (
    .lp [0,1] (fun iX=>⟨[sI 1 a1,sP 2 0 0 0,sP 5 1 0 0,sI 6 iX],[.cells (c9.cs a0),gW.o (gd a0.bP a1)],[],0⟩) fun iX =>
    .lt _ fun gY =>
    .ite _ (
     .bk 1 (fun wK=>⟨[sI 1 a1,sP 2 0 0 0,sP 5 1 0 0,sI 6 iX],[.cells (c9.cs a0),gW.o (gd a0.bP a1)],[],0⟩) (
      .ck _ <|
      .lt _ fun x32 =>
      .ite _ (
       .ret [] _) (
       .nil [0,1] _)) fun wK =>
     .nil [0,1] _) (
     .ret [0,1] _)) fun kF =>
   .call [] (pN _ _ _) fun r33 =>
   .bk 2 (fun a1a=>⟨[],[],[],0⟩) (
    .lp [0,1] (fun aAi=>⟨[sI 1 a1,sP 2 0 0 0,sP 5 1 0 0,(8,.c (E3.tree r33)),sI 9 aAi],[.cells (c9.cs a0),gW.o (gd a0.bP a1)],[],0⟩) fun aAi =>
    .lt _ fun a04 =>
    .ite _ (
     .bk 3 (fun a09=>⟨[sI 1 a1,sP 2 0 0 0,sP 5 1 0 0,(8,.c (E3.tree r33)),sI 9 aAi],[.cells (c9.cs a0),gW.o (gd a0.bP a1)],[],0⟩) (
      .hO [0,2,3,4] _ <|
      .tx [8,9] <|
      .hO [1,5,6,7] _ <|
      .tl [8,9] <|
      .call [] (aFI _ _) fun aI2 =>
      .bk 4 (fun a08=>⟨[sI 1 a1,sP 2 0 0 0,sP 5 1 0 0,(8,.c (E3.tree r33)),sI 9 aAi],[.cells (c9.cs a0),gW.o (gd a0.bP a1)],[],0⟩) (
       .lp [0,1] (fun aFK=>⟨[sI 1 a1,sP 2 0 0 0,sP 5 1 0 0,(8,.c (E3.tree r33)),sI 9 aAi,(10,.c (E9.tree aI2)),sI 11 aFK],[.cells (c9.cs a0),gW.o (gd a0.bP a1)],[],0⟩) fun aFK =>
       .lt _ fun a05 =>
       .ite _ (
        .bk 5 (fun a07=>⟨[sI 1 a1,sP 2 0 0 0,sP 5 1 0 0,(8,.c (E3.tree r33)),sI 9 aAi,(10,.c (E9.tree aI2)),sI 11 aFK],[.cells (c9.cs a0),gW.o (gd a0.bP a1)],[],0⟩) (
         .hO [1,2,3,4] _ <|
         .tx [6,11] <|
         .ex [0,5] <|
         .kn fun aXx a1b =>
         .all [1,2,5,8,9,10,11,90,91,95,96,89,97,98,12,13] (rg (cd (bd Tryz.f150) [1,1,1,1,1,0,1,0,0,1,0,0,1,1,0,0,1,0,0,0])) [true,true,true,true,true,true,false,false,false,false,false,false,false] (hl [(6,.kc [] (bV.eq (uT _ _ _ _) a1b) [])]) ⟨[sI 1 a1,sP 2 0 0 0,sP 5 1 0 0,(8,.c (E3.tree r33)),sI 9 aAi,(10,.c (E9.tree aI2)),sI 11 aFK,sP 12 2 0 0],[.cells (c9.cs a0),gW.o (gd a0.bP a1),.cells (dY.cs aXx.1)],[],0⟩ [.s 2,.s 5,.s 12] <|
         .call [] (wL _ _ _) fun a06 =>
         .ite _ (
          .ret [] _) (
          .nil [0,1] _)) fun a07 =>
        .nil [0,1] _) (
        .ret [0,1] _)) fun a08 =>
      .nil [0,1] _) fun a09 =>
     .nil [0,1] _) (
     .ret [] _)) fun a1a =>
   .ret [] _))
def aOt (K:Nat) (a0:cK) (a1:Int):Option ((Bool) ⊕ (Bool)) :=
 (bY [cP a1 a0.bP.length] ((bX (aBb K a0 a1)).bind (fun r1=>(bT (bQ ((iter K (fun (lX:Int)=>(bR (decide ((lX:Int)<(Int.ofNat ((a0.bP.getD (a1:Int).toNat default).bS).length))) (fun (a1c:Bool)=>(if a1c=true then (bT (bQ (bY [cP lX ((a0.bP.getD (a1:Int).toNat default).bS).length] (bT (if (decide (((Int.ofNat r1.length):Int) > 1))=true then (bY [cP 1 r1.length] ((bX (aEd K a0 (r1.getD (1:Int).toNat default) ((((a0.bP.getD (a1:Int).toNat default).bS).getD (lX:Int).toNat default).cD))).bind (fun aBe=>(if aBe.2=true then ((bX (F63 K a0 aBe.1)).bind (fun wM=>(some (.inr (true,wM))))) else (some (.inr (false,(⟨([]:Bytes),false,false,false,[],(⟨0,0,0,([]:Bytes)⟩:fS),[],[]⟩:hU)))))))) else (some (.inr (false,(⟨([]:Bytes),false,false,false,[],(⟨0,0,0,([]:Bytes)⟩:fS),[],[]⟩:hU))))) (fun (pX:Bool × hU)=>(bR (!(((((a0.bP.getD (a1:Int).toNat default).bS).getD (lX:Int).toNat default).xD) == pX.1)) (fun (aMh:Bool)=>((cE ((!pX.2.tR) && (pX.1 && (!aMh))) (bX (aL8 K (((a0.bP.getD (a1:Int).toNat default).bS).getD (lX:Int).toNat default) pX.2)) default).bind (fun aOu=>(bR (aMh || (pX.1 && (pX.2.tR || (!aOu)))) (fun (a1d:Bool)=>(if a1d=true then (some (.inl (Sum.inr (Sum.inr (true))))) else (some (.inr ()))))))))))))) (fun (a1e:Unit)=>(some (.inr ((IntKind.i64.wrap (lX+1))))))) else (some (.inl (Sum.inl ()))))))) (0)).map .inl)) (fun (wN:Unit)=>(some (.inl (false))))))))
theorem aTc (K:Nat) (a0:cK) (a1:Int):bV Tryz.prog 151 [.agg (c9.cs a0),.c (.val (.int .i64 a1))] [] (bX (aOt K a0 a1)) (fun r=>.c (.val (.bool r))) (fun r=>[]):=by
 refine bV.it Tryz.f151 (fun r=>⟨[sB 4 r],[],[],0⟩) ?_
 unfold aOt
 exact Ref.pt (
  .ck _ <|
  .call [] (pN _ _ _) fun r1 =>
  .bk 0 (fun wN=>⟨[],[],[],0⟩) (
   .lp [0,1] (fun lX=>⟨[sP 2 0 0 0,sP 5 1 0 0,(6,.c (E3.tree r1)),sI 7 lX],[.cells (c9.cs a0),gW.o (gd a0.bP a1)],[],0⟩) fun lX =>
   .lt _ fun a1c =>
   .ite _ (
    .bk 1 (fun a1e=>⟨[sP 2 0 0 0,sP 5 1 0 0,(6,.c (E3.tree r1)),sI 7 lX],[.cells (c9.cs a0),gW.o (gd a0.bP a1)],[],0⟩) (
     .ck _ <|
     .jn (fun pX=>⟨[sP 2 0 0 0,sP 5 1 0 0,(6,.c (E3.tree r1)),sI 7 lX,sP 8 2 0 0,sB 9 pX.1,sP 10 3 0 0],[.cells (c9.cs a0),gW.o (gd a0.bP a1),jO.o (gd ((gd a0.bP a1).bS) lX),jO.o pX.2],[],0⟩) (
      .ite _ (
       .hO [1,2,4] _ <|
       .tx [6,11] <|
       .ex [0,3,5] <|
       .kn fun aBe a1f =>
       .all [2,5,6,7,8,9,10,37,40,42,43,36,44,45,11,12] (rg (cd (bd Tryz.f151) [1,1,1,0,1,0,0,1,0,0,1,1,1,0,1,0,0])) [true,true,true,true,true,true,false,false,false,false,false,false,false] (hl [(6,.kc [] (bV.eq (uT _ _ _ _) a1f) [])]) ⟨[sP 2 0 0 0,sP 5 1 0 0,(6,.c (E3.tree r1)),sI 7 lX,sP 8 2 0 0,sB 9 false,sP 10 3 0 0,sP 11 4 0 0,sB 12 aBe.2],[.cells (c9.cs a0),gW.o (gd a0.bP a1),jO.o (gd ((gd a0.bP a1).bS) lX),.cells [.str [],bC false,bC false,bC false,.nil,iC 0,iC 0,iC 0,.str [],.nil,.nil],.cells (dY.cs aBe.1)],[],0⟩ [.s 2,.s 5,.s 8,.s 10,.s 11] <|
       .ite _ (
        .call [] (wL _ _ _) fun wM =>
        .nil [0,1,2,3] _) (
        .ok 11 0 3 4 (x:=.nil) (y:=eX.tree []) (El.cJ eX) <|
        .ok 11 0 3 9 (x:=.nil) (y:=eX.tree []) (El.cJ eX) <|
        .ok 11 0 3 10 (x:=.nil) (y:=dV.tree []) (El.cJ dV) <|
        .nil [0,1,2,3] _)) (
       .ok 9 0 3 4 (x:=.nil) (y:=eX.tree []) (El.cJ eX) <|
       .ok 9 0 3 9 (x:=.nil) (y:=eX.tree []) (El.cJ eX) <|
       .ok 9 0 3 10 (x:=.nil) (y:=dV.tree []) (El.cJ dV) <|
       .nil [0,1,2,3] _)) fun pX =>
     .lt _ fun aMh =>
     .look (default:Bool) _ [] (aKs K (gd ((gd a0.bP a1).bS) lX) pX.2) (fun _=>rfl) fun aOu =>
     .lt _ fun a1d =>
     .ite _ (
      .ret [] _) (
      .nil [0,1] _)) fun a1e =>
    .nil [0,1] _) (
    .ret [] _)) fun wN =>
  .ret [] _)
def aOv (K:Nat) (a0:cK) (a1:fS):Option ((Bool) ⊕ (Bool)) :=
 (if ((a1.bU:Int) == 6)=true then ((cE true (bX (aMc K a0 a1.cD false)) default).bind (fun r1=>((cE r1 (bX (F61 K a0 a1.cD)) default).bind (fun r2=>(bY [!r1 || cP r2 a0.bP.length] (bR (r1 && (!((a0.bP.getD (r2:Int).toNat default).eT))) (fun (x3:Bool)=>(some (.inl (x3)))))))))) else ((bX (aMg K a0 a1)).bind (fun r4=>(bR (r4 || ((((a1.bU:Int) == 7) && (decide ((a1.fLo:Int) ≥ 1))) && (decide ((a1.fLo:Int)≤7)))) (fun (x5:Bool)=>(some (.inl (x5))))))))
theorem aTd (K:Nat) (a0:cK) (a1:fS):bV Tryz.prog 154 [.agg (c9.cs a0),.agg (jV.cs a1)] [] (bX (aOv K a0 a1)) (fun r=>.c (.val (.bool r))) (fun r=>[]):=by
 refine bV.it Tryz.f154 (fun r=>⟨[sB 4 r],[],[],0⟩) ?_
 unfold aOv
 exact Ref.pt (
  .ite _ (
   .ex [1] <|
   .tx [] <|
   .ex [0,2] <|
   .dQ 3 (default:Bool) _ [] (aKw K a0 a1.cD false) (fun _=>rfl) fun r1 =>
   .ex [4,5,6,7,8,9] <|
   .dQ 10 (default:Int) _ [] (lB K a0 a1.cD) (fun _=>rfl) fun r2 =>
   .hO [11,12,13,14,15,16] _ <|
   .lt _ fun x3 =>
   .ret [] _) (
   .call [] (aKA _ _ _) fun r4 =>
   .lt _ fun x5 =>
   .ret [] _))
def aOw (K:Nat) (a0:cK) (a1:Int) (a2:Int):Option ((Bool) ⊕ (Bool)) :=
 (bT (bQ ((iter K (fun (oX:Int)=>(if (decide ((oX:Int)≤a1))=true then (bT (bQ (bY [cP oX a0.bP.length] (bT (bQ ((iter K (fun (qN:Int)=>(bR (((decide ((qN:Int)<(Int.ofNat ((a0.bP.getD (oX:Int).toNat default).cA).length))) && ((((a0.bP.getD (oX:Int).toNat default).bU):Int) == 3)) && ((decide ((oX:Int)<a1)) || (decide ((qN:Int)<a2)))) (fun (a1g:Bool)=>(if a1g=true then (bT (bQ (bY [cP qN ((a0.bP.getD (oX:Int).toNat default).cA).length,!((((((a0.bP.getD (oX:Int).toNat default).cA).getD (qN:Int).toNat default).kE):Int) == 2) || cP qN ((a0.bP.getD (oX:Int).toNat default).cA).length,!((((((a0.bP.getD (oX:Int).toNat default).cA).getD (qN:Int).toNat default).kE):Int) == 2) || cP a1 a0.bP.length,!((((((a0.bP.getD (oX:Int).toNat default).cA).getD (qN:Int).toNat default).kE):Int) == 2) || cP a2 ((a0.bP.getD (a1:Int).toNat default).cA).length] (bR (((((((a0.bP.getD (oX:Int).toNat default).cA).getD (qN:Int).toNat default).kE):Int) == 2) && ((((((a0.bP.getD (oX:Int).toNat default).cA).getD (qN:Int).toNat default).iP):Int) == ((((a0.bP.getD (a1:Int).toNat default).cA).getD (a2:Int).toNat default).iP))) (fun (a1h:Bool)=>(if a1h=true then (some (.inl (Sum.inr (Sum.inr (Sum.inr (Sum.inr (true))))))) else (some (.inr ()))))))) (fun (aCO:Unit)=>(some (.inr ((IntKind.i64.wrap (qN+1))))))) else (some (.inl (Sum.inl ()))))))) (0)).map .inl)) (fun (a1i:Unit)=>(some (.inr ())))))) (fun (nV:Unit)=>(some (.inr ((IntKind.i64.wrap (oX+1))))))) else (some (.inl (Sum.inl ()))))) (0)).map .inl)) (fun (a1j:Unit)=>(some (.inl (false)))))
theorem aTe (K:Nat) (a0:cK) (a1:Int) (a2:Int):bV Tryz.prog 156 [.agg (c9.cs a0),.c (.val (.int .i64 a1)),.c (.val (.int .i64 a2))] [] (bX (aOw K a0 a1 a2)) (fun r=>.c (.val (.bool r))) (fun r=>[]):=by
 refine bV.it Tryz.f156 (fun r=>⟨[sB 6 r],[],[],0⟩) ?_
 unfold aOw
 exact Ref.pt (
  .bk 0 (fun a1j=>⟨[],[],[],0⟩) (
   .lp [0] (fun oX=>⟨[sI 1 a1,sI 2 a2,sP 3 0 0 0,sI 7 oX],[.cells (c9.cs a0)],[],0⟩) fun oX =>
   .ite _ (
    .bk 1 (fun nV=>⟨[sI 1 a1,sI 2 a2,sP 3 0 0 0,sI 7 oX],[.cells (c9.cs a0)],[],0⟩) (
     .ck _ <|
     .bk 2 (fun a1i=>⟨[sI 1 a1,sI 2 a2,sP 3 0 0 0,sI 7 oX],[.cells (c9.cs a0)],[],0⟩) (
      .lp [0,1] (fun qN=>⟨[sI 1 a1,sI 2 a2,sP 3 0 0 0,sI 7 oX,sP 8 1 0 0,sI 9 qN],[.cells (c9.cs a0),gW.o (gd a0.bP oX)],[],0⟩) fun qN =>
      .lt _ fun a1g =>
      .ite _ (
       .bk 3 (fun aCO=>⟨[sI 1 a1,sI 2 a2,sP 3 0 0 0,sI 7 oX,sP 8 1 0 0,sI 9 qN],[.cells (c9.cs a0),gW.o (gd a0.bP oX)],[],0⟩) (
        .ex [0,2] <|
        .tx [] <|
        .hO [1,3,4,5,6,7,8,9,10,11,12,13,14,15,16,17,18,19,20,21,22,23,24,25] _ <|
        .lt _ fun a1h =>
        .ite _ (
         .ret [] _) (
         .nil [0,1] _)) fun aCO =>
       .nil [0,1] _) (
       .ret [0] _)) fun a1i =>
     .nil [0] _) fun nV =>
    .nil [0] _) (
    .ret [] _)) fun a1j =>
  .ret [] _)
end Go.Proofs.YtdbfbedholdjaaaGreat

namespace Go.Proofs.YtdbfbedholdjaaaGreat
open Go Go.Proofs Go.Dl
variable [dO]
set_option maxRecDepth 100000
set_option maxHeartbeats 4000000
mutual
def yM:(K:Nat)→(cK)→(dS)→((List cI))→(Bool)→Option ((Int) ⊕ (Int))
 | 0,_,_,_,_=>none
 | K+1,a0,a1,a2,a3 =>
 (bT (bQ ((iter K (fun (iA:Int)=>(bR (decide ((iA:Int)<(Int.ofNat a2.length))) (fun (uS:Bool)=>(if uS=true then (bT (bQ (bY [cP iA a2.length] ((cE true (bX (aMk K a0 a1 (a2.getD (iA:Int).toNat default) a3)) default).bind (fun r29=>(if ((r29:Int) != 0)=true then (some (.inl (Sum.inr (Sum.inr (r29))))) else (some (.inr ()))))))) (fun (jG:Unit)=>(some (.inr ((IntKind.i64.wrap (iA+1))))))) else (some (.inl (Sum.inl ()))))))) (0)).map .inl)) (fun (tQ:Unit)=>(some (.inl (0)))))
def aMk:(K:Nat)→(cK)→(dS)→(cI)→(Bool)→Option ((Int) ⊕ (Int))
 | 0,_,_,_,_=>none
 | K+1,a0,a1,a2,a3 =>
 ((bX (aOz K a2)).bind (fun r1=>(if (!r1)=true then (some (.inl (14))) else (bT (bQ (bT (if ((a2.bU:Int) == 1)=true then (some (.inr (((a2.bU:Int) == 1)))) else (if ((a2.bU:Int) == 2)=true then (some (.inr (((a2.bU:Int) == 2)))) else (if ((a2.bU:Int) == 3)=true then (some (.inr (((a2.bU:Int) == 3)))) else (if ((a2.bU:Int) == 8)=true then (some (.inr (((a2.bU:Int) == 8)))) else (some (.inr (((a2.bU:Int) == 11)))))))) (fun (u56:Bool)=>(if u56=true then ((bX (aMl K a0 a1 a2)).bind (fun r57=>(some (.inl (Sum.inr (r57)))))) else (if ((a2.bU:Int) == 4)=true then (bY [cP 0 a2.cU.length] ((bX (aFL K a0 a1 (a2.cU.getD (0:Int).toNat default))).bind (fun r58=>(some (.inl (Sum.inr (r58.2))))))) else (if ((a2.bU:Int) == 5)=true then (bT (bQ ((iter K (fun (u89:Int)=>(bR (decide ((u89:Int)<(Int.ofNat a2.cU.length))) (fun (x97:Bool)=>(if x97=true then (bT (bQ (bY [cP u89 a2.cU.length] ((cE true (bX (aI4 K a0 a1 (a2.cU.getD (u89:Int).toNat default))) default).bind (fun aXA=>(if ((aXA:Int) != 0)=true then (some (.inl (Sum.inr (Sum.inr (Sum.inr (aXA)))))) else (bY [cP u89 a2.b8.length] ((cE true (bX (yM K a0 a1 (a2.b8.getD (u89:Int).toNat default) a3)) default).bind (fun aXB=>(if ((aXB:Int) != 0)=true then (some (.inl (Sum.inr (Sum.inr (Sum.inr (aXB)))))) else (some (.inr ()))))))))))) (fun (aOB:Unit)=>(some (.inr ((IntKind.i64.wrap (u89+1))))))) else (some (.inl (Sum.inl ()))))))) (0)).map .inl)) (fun (u81:Unit)=>(bY [cP (Int.ofNat a2.cU.length) a2.b8.length] (bR (a2.b8.getD ((Int.ofNat a2.cU.length):Int).toNat default) (fun (aXC:(List cI))=>((cE true (bX (yM K a0 a1 aXC a3)) default).bind (fun a1s=>(some (.inl (Sum.inr (a1s))))))))))) else (if ((a2.bU:Int) == 6)=true then ((bX (aMm K a0 a1 a2 a3)).bind (fun a1t=>(some (.inl (Sum.inr (a1t)))))) else (if ((a2.bU:Int) == 7)=true then (bY [cP 0 a2.cU.length] ((cE true (bX (aI4 K a0 a1 (a2.cU.getD (0:Int).toNat default))) default).bind (fun qP=>(if ((qP:Int) != 0)=true then (some (.inl (Sum.inr (qP)))) else (bY [cP 0 a2.b8.length] ((cE true (bX (yM K a0 a1 (a2.b8.getD (0:Int).toNat default) true)) default).bind (fun a1u=>(some (.inl (Sum.inr (a1u))))))))))) else (if ((a2.bU:Int) == 9)=true then ((bX (aOy K a0 a1 a2)).bind (fun aOC=>(some (.inl (Sum.inr (aOC)))))) else (some (.inr ()))))))))))) (fun (u55:Unit)=>(if (!a3)=true then (some (.inl (14))) else (some (.inl (0)))))))))
def aMl:(K:Nat)→(cK)→(dS)→(cI)→Option ((Int) ⊕ (Int))
 | 0,_,_,_=>none
 | K+1,a0,a1,a2 =>
 ((bX (aIZ K a0 a1 a2.cD)).bind (fun r1=>(if (!r1.2)=true then (some (.inl (13))) else (bT (bQ (if ((a2.bU:Int) == 1)=true then (some (.inr (((r1.1.kE:Int) == 1),1))) else (if ((a2.bU:Int) == 2)=true then (some (.inr (((r1.1.cB.bU:Int) != 4),2))) else (if ((a2.bU:Int) == 3)=true then (some (.inr (((r1.1.cB.bU:Int) != 5),1))) else (if ((a2.bU:Int) == 8)=true then (bR ((((r1.1.cB.bU:Int) != 1) || ((r1.1.kE:Int) == 1)) || ((a2.fN:Int) == 0)) (fun (x4:Bool)=>(some (.inr (x4,2))))) else (if ((a2.bU:Int) == 11)=true then (some (.inr (((r1.1.cB.bU:Int) != 7),2))) else (some (.inr (false,2))))))))) (fun (u3:Bool × Int)=>(if u3.1=true then (some (.inl (14))) else (bY [c5 a2.cU.length 0 u3.2] ((bX (aEe K a0 a1 ((a2.cU.drop (0:Int).toNat).take ((u3.2:Int).toNat - (0:Int).toNat)))).bind (fun r5=>(if ((r5.2:Int) != 0)=true then (some (.inl (r5.2))) else (bT (bQ (if ((a2.bU:Int) == 1)=true then (bY [cP 0 r5.1.length] ((cE true (bX (aG3 K a0 r1.1.cB (r5.1.getD (0:Int).toNat default))) default).bind (fun r12=>(some (.inr (r12)))))) else (if ((a2.bU:Int) == 3)=true then (bY [cP 0 r5.1.length] (bR ((((r5.1.getD (0:Int).toNat default).bU):Int) == 5) (fun (x13:Bool)=>(some (.inr (x13)))))) else (if ((a2.bU:Int) == 11)=true then (bY [cP 0 r5.1.length,!((((r5.1.getD (0:Int).toNat default).bU):Int) == 2) || cP 1 r5.1.length] (bR (((((r5.1.getD (0:Int).toNat default).bU):Int) == 2) && ((((r5.1.getD (1:Int).toNat default).bU):Int) == 1)) (fun (x14:Bool)=>(some (.inr (x14)))))) else (bY [cP 0 r5.1.length,!((((r5.1.getD (0:Int).toNat default).bU):Int) == 1) || cP 1 r5.1.length] (bR (((((r5.1.getD (0:Int).toNat default).bU):Int) == 1) && ((((r5.1.getD (1:Int).toNat default).bU):Int) == 1)) (fun (x15:Bool)=>(some (.inr (x15)))))))))) (fun (u11:Bool)=>(if (!u11)=true then (some (.inl (14))) else (if ((a2.bU:Int) == 8)=true then (bY [cP 0 a2.b8.length] ((cE true (bX (yM K a0 a1 (a2.b8.getD (0:Int).toNat default) true)) default).bind (fun mI=>(some (.inl (mI)))))) else (some (.inl (0)))))))))))))))))
def aMm:(K:Nat)→(cK)→(dS)→(cI)→(Bool)→Option ((Int) ⊕ (Int))
 | 0,_,_,_,_=>none
 | K+1,a0,a1,a2,a3 =>
 (bY [cP 0 a2.cU.length] ((bX (aBf K a0 a1 (a2.cU.getD (0:Int).toNat default))).bind (fun r1=>(if ((r1.2:Int) != 0)=true then (some (.inl (r1.2))) else (if ((r1.1.bU:Int) != 1)=true then (some (.inl (14))) else (bT (bQ ((iter K (fun (lJ:(List Int) × Int)=>(bR (decide ((lJ.2:Int)<(Int.ofNat a2.eY.length))) (fun (aVg:Bool)=>(if aVg=true then (bT (bQ (bT (bQ ((iter K (fun (jC:(List Int) × Int)=>(bY [cP lJ.2 a2.eY.length] (bR (decide ((jC.2:Int)<(Int.ofNat (a2.eY.getD (lJ.2:Int).toNat default).length))) (fun (aVh:Bool)=>(if aVh=true then (bT (bQ (bY [cP lJ.2 a2.eY.length,cP jC.2 (a2.eY.getD (lJ.2:Int).toNat default).length] (bR ((a2.eY.getD (lJ.2:Int).toNat default).getD (jC.2:Int).toNat default) (fun (tT:Int)=>(bT (bQ ((iter K (fun (aAW:Int)=>(bR (decide ((aAW:Int)<(Int.ofNat jC.1.length))) (fun (aVi:Bool)=>(if aVi=true then (bT (bQ (bY [cP aAW jC.1.length] (bR (((jC.1.getD ((aAW:Int).toNat) default):Int) == tT) (fun (aVj:Bool)=>(if aVj=true then (some (.inl (Sum.inr (Sum.inr (Sum.inr (Sum.inr (Sum.inr (Sum.inr (6))))))))) else (some (.inr ()))))))) (fun (aVk:Unit)=>(some (.inr ((IntKind.i64.wrap (aAW+1))))))) else (some (.inl (Sum.inl ()))))))) (0)).map .inl)) (fun (aVl:Unit)=>(bR ((decide ((tT:Int)<(-32768))) || (decide ((tT:Int) > 32767))) (fun (aVm:Bool)=>(if aVm=true then (some (.inl (Sum.inr (Sum.inr (Sum.inr (Sum.inr (6))))))) else (bY [room ((jC.1.length+([tT].length)) * 8)] (some (.inr ((jC.1++[tT])))))))))))))) (fun (aHa:(List Int))=>(some (.inr (aHa,(IntKind.i64.wrap (jC.2+1))))))) else (some (.inl (Sum.inl (jC.1))))))))) (lJ.1,0)).map .inl)) (fun (aHb:(List Int))=>(some (.inr (aHb)))))) (fun (aHc:(List Int))=>(some (.inr (aHc,(IntKind.i64.wrap (lJ.2+1))))))) else (some (.inl (Sum.inl ()))))))) ([],0)).map .inl)) (fun (aVn:Unit)=>(bT (bQ ((iter K (fun (aAX:Int)=>(bR (decide ((aAX:Int)<(Int.ofNat a2.b8.length))) (fun (aVo:Bool)=>(if aVo=true then (bT (bQ (bY [cP aAX a2.b8.length] (bR (a2.b8.getD (aAX:Int).toNat default) (fun (aOD:(List cI))=>((cE true (bX (yM K a0 a1 aOD a3)) default).bind (fun aOE=>(if ((aOE:Int) != 0)=true then (some (.inl (Sum.inr (Sum.inr (aOE))))) else (some (.inr ()))))))))) (fun (aVp:Unit)=>(some (.inr ((IntKind.i64.wrap (aAX+1))))))) else (some (.inl (Sum.inl ()))))))) (0)).map .inl)) (fun (aVq:Unit)=>(some (.inl (0))))))))))))
end
abbrev gK (v0:cK) (v1:dS):List Go.Dl.Obj:=[.cells (c9.cs v0),.cells (dY.cs v1)]
abbrev kM (v0:Bool):List (Nat × D):=[sB 3 v0,sP 4 0 0 0,sP 5 1 0 0,sP 6 2 0 0]
abbrev wO:List (Nat × D):=[sP 3 0 0 0,sP 4 1 0 0,sP 5 2 0 0,sP 7 3 0 0]
theorem aTk:∀ K:Nat,(∀ (a0:cK),∀ (a1:dS),∀ (a2:(List cI)),∀ (a3:Bool),bV Tryz.prog 196 [.agg (c9.cs a0),.agg (dY.cs a1),.c (dV.tree a2),.c (.val (.bool a3))] [] (bX (yM K a0 a1 a2 a3)) (fun r=>.c (.val (.int .i64 r))) (fun r=>[]))∧(∀ (a0:cK),∀ (a1:dS),∀ (a2:cI),∀ (a3:Bool),bV Tryz.prog 215 [.agg (c9.cs a0),.agg (dY.cs a1),.agg (dV.cs a2),.c (.val (.bool a3))] [] (bX (aMk K a0 a1 a2 a3)) (fun r=>.c (.val (.int .i64 r))) (fun r=>[]))∧(∀ (a0:cK),∀ (a1:dS),∀ (a2:cI),bV Tryz.prog 219 [.agg (c9.cs a0),.agg (dY.cs a1),.agg (dV.cs a2)] [] (bX (aMl K a0 a1 a2)) (fun r=>.c (.val (.int .i64 r))) (fun r=>[]))∧(∀ (a0:cK),∀ (a1:dS),∀ (a2:cI),∀ (a3:Bool),bV Tryz.prog 222 [.agg (c9.cs a0),.agg (dY.cs a1),.agg (dV.cs a2),.c (.val (.bool a3))] [] (bX (aMm K a0 a1 a2 a3)) (fun r=>.c (.val (.int .i64 r))) (fun r=>[])):=by
 intro K
 induction K with
 | zero=>exact ⟨fun a0 a1 a2 a3=>bV.none (by rw[yM];rfl),fun a0 a1 a2 a3=>bV.none (by rw[aMk];rfl),fun a0 a1 a2=>bV.none (by rw[aMl];rfl),fun a0 a1 a2 a3=>bV.none (by rw[aMm];rfl)⟩
 | succ K ih =>
  obtain ⟨aHd,a1v,a1w,a1x⟩:=ih
  refine ⟨?_,?_,?_,?_⟩
  ·
   intro a0 a1 a2 a3
   refine bV.it Tryz.f196 (fun r=>⟨[sI 8 r],[],[],0⟩) ?_
   rw[yM]
   exact Ref.pt (
    .bk 0 (fun tQ=>⟨[],[],[],0⟩) (
     .lp [0,1] (fun iA=>⟨[(2,.c (dV.tree a2)),sB 3 a3,sP 4 0 0 0,sP 5 1 0 0,sI 9 iA],gK a0 a1,[],0⟩) fun iA =>
     .lt _ fun uS =>
     .ite _ (
      .bk 1 (fun jG=>⟨[(2,.c (dV.tree a2)),sB 3 a3,sP 4 0 0 0,sP 5 1 0 0,sI 9 iA],gK a0 a1,[],0⟩) (
       .ex [2,3,6] <|
       .tx [] <|
       .hO [0,1,4,5] _ <|
       .dQ 7 (default:Int) _ [] (a1v a0 a1 (gd a2 iA) a3) (fun _=>rfl) fun r29 =>
       .ex [8] <|
       .ite _ (
        .ret [] _) (
        .nil [0,1] _)) fun jG =>
      .nil [0,1] _) (
      .ret [] _)) fun tQ =>
    .ret [] _)
  ·
   intro a0 a1 a2 a3
   refine bV.it Tryz.f215 (fun r=>⟨[sI 8 r],[],[],0⟩) ?_
   rw[aMk]
   exact Ref.pt (
    .call [] (aTj _ _) fun r1 =>
    .ite _ (
     .ret [] _) (
     .bk 0 (fun u55=>⟨[sB 3 a3],[],[],0⟩) (
      .jn (fun u56=>⟨kM a3++[sI 18 a2.bU,sB 19 u56],gK a0 a1++[dV.o a2],[],0⟩) (
       .ite _ (
        .nil [0,1,2] _) (
        .ite _ (
         .nil [0,1,2] _) (
         .ite _ (
          .nil [0,1,2] _) (
          .ite _ (
           .nil [0,1,2] _) (
           .nil [0,1,2] _))))) fun u56 =>
      .ite _ (
       .call [] (a1w _ _ _) fun r57 =>
       .ret [] _) (
       .ite _ (
        .ex [2] <|
        .tx [6,11] <|
        .ex [0,1,3] <|
        .hO [4,5] _ <|
        .kn fun r58 a58 =>
        .all [32,33,37,38,31,39,40,9,10] (rg (cd (bd Tryz.f215) [1,1,0,1,0,1,1,1,0,0])) [true,true,true,true,true,true,false,false,false,false,false,false,false] (hl [(6,.kc [] (bV.eq (aTg _ _ _ _) a58) [])]) ⟨[sI 10 r58.2],[],[],0⟩ [] <|
        .ret [] _) (
        .ite _ (
         .bk 1 (fun u81=>⟨kM a3,gK a0 a1++[dV.o a2],[],0⟩) (
          .lp [0,1,2] (fun u89=>⟨kM a3++[sI 11 u89],gK a0 a1++[dV.o a2],[],0⟩) fun u89 =>
          .lt _ fun x97 =>
          .ite _ (
           .bk 2 (fun aOB=>⟨kM a3++[sI 11 u89],gK a0 a1++[dV.o a2],[],0⟩) (
            .ex [2,4] <|
            .tx [] <|
            .ex [0,1,3] <|
            .hO [5,6] _ <|
            .dQ 7 (default:Int) _ [] (aKC K a0 a1 (gd a2.cU u89)) (fun _=>rfl) fun aXA =>
            .ex [8] <|
            .ite _ (
             .ret [] _) (
             .ex [2,4,7] <|
             .tx [] <|
             .ex [0,1,3] <|
             .sl 1000000 0 65 (x:=.c (lW a2.b8)) (y:=(.c (jR.tree a2.b8))) (jS.c (jN _)) <|
             .hO [5,6] _ <|
             .dQ 8 (default:Int) _ [] (aHd a0 a1 (gd a2.b8 u89) a3) (fun _=>rfl) fun aXB =>
             .ex [9] <|
             .ite _ (
              .ret [] _) (
              .nil [0,1,2] _))) fun aOB =>
           .nil [0,1,2] _) (
           .ret [0,1,2] _)) fun u81 =>
         .ex [2,4,9] <|
         .tx [] <|
         .ex [0,1,3,5,6] <|
         .sl 1000000 0 77 (x:=.c (lW a2.b8)) (y:=(.c (jR.tree a2.b8))) (jS.c (jN _)) <|
         .hO [7,8] _ <|
         .lt _ fun aXC =>
         .dQ 10 (default:Int) _ [] (aHd a0 a1 aXC a3) (fun _=>rfl) fun a1s =>
         .ex [11] <|
         .ret [] _) (
         .ite _ (
          .call [] (a1x _ _ _ _) fun a1t =>
          .ret [] _) (
          .ite _ (
           .ex [2] <|
           .tx [] <|
           .ex [0,1,3] <|
           .hO [4,5] _ <|
           .dQ 6 (default:Int) _ [] (aKC K a0 a1 (gd a2.cU 0)) (fun _=>rfl) fun qP =>
           .ex [7] <|
           .ite _ (
            .ret [] _) (
            .ex [2] <|
            .tx [] <|
            .ex [0,1,3] <|
            .sl 1000000 0 107 (x:=.c (lW a2.b8)) (y:=(.c (jR.tree a2.b8))) (jS.c (jN _)) <|
            .hO [4,5] _ <|
            .dQ 6 (default:Int) _ [] (aHd a0 a1 (gd a2.b8 0) true) (fun _=>rfl) fun a1u =>
            .ex [7] <|
            .ret [] _)) (
           .ite _ (
            .call [] (aTi _ _ _ _) fun aOC =>
            .ret [] _) (
            .nil [] _))))))) fun u55 =>
     .ite _ (
      .ret [] _) (
      .ret [] _)))
  ·
   intro a0 a1 a2
   refine bV.it Tryz.f219 (fun r=>⟨[sI 6 r],[],[],0⟩) ?_
   rw[aMl]
   exact Ref.pt (
    .call [] (aFG _ _ _ _) fun r1 =>
    .ite _ (
     .ret [] _) (
     .bk 0 (fun u3=>⟨wO++[sB 10 u3.1,sI 11 u3.2],gK a0 a1++[dV.o a2,eX.o r1.1],[],0⟩) (
      .ite _ (
       .nil [0,1,2,4] _) (
       .ite _ (
        .nil [0,1,2,4] _) (
        .ite _ (
         .nil [0,1,2,4] _) (
         .ite _ (
          .lt _ fun x4 =>
          .nil [0,1,2,4] _) (
          .ite _ (
           .nil [0,1,2,4] _) (
           .nil [0,1,2,4] _)))))) fun u3 =>
     .ite _ (
      .ret [] _) (
      .esc [0,1,2,3] [(cd (bd Tryz.f219) [1,1,1,1,1,1,1,1,0]),(cd (bd Tryz.f219) [1,1,1,1,1,1,1,1,1])] ⟨wO++[sI 11 u3.2,sB 61 u3.1],gK a0 a1++[dV.o a2,eX.o r1.1],[],0⟩ (by
       refine Ref.wA 22 (by kernel_rfl) (by kernel_rfl) ?_
       refine gI.aAa (dD:=⟨wO++[sP 65 2 0 3,sI 67 u3.2],gK a0 a1++[dV.o a2,eX.o r1.1],[],0⟩) (fuel':=10) [2,4] [3,4,5,7,65,67] [0,1,2,3] rfl (by kernel_rfl) (by kernel_rfl) ?_
       refine gI.toX [6] ?_
       refine cX.aFo (fun (r5:(List fS) × Int)=>⟨wO++[(12,.c (jV.tree r5.1)),sI 13 r5.2],gK a0 a1++[dV.o a2,eX.o r1.1],[],0⟩) (fun (r5:(List fS) × Int)=>(if ((r5.2:Int) != 0)=true then (some (.inl (r5.2))) else (bT (bQ (if ((a2.bU:Int) == 1)=true then (bY [cP 0 r5.1.length] ((cE true (bX (aG3 K a0 r1.1.cB (gd r5.1 0))) default).bind (fun r12=>(some (.inr (r12)))))) else (if ((a2.bU:Int) == 3)=true then (bY [cP 0 r5.1.length] (bR ((((gd r5.1 0).bU):Int) == 5) (fun (x13:Bool)=>(some (.inr (x13)))))) else (if ((a2.bU:Int) == 11)=true then (bY [cP 0 r5.1.length,!((((gd r5.1 0).bU):Int) == 2) || cP 1 r5.1.length] (bR (((((gd r5.1 0).bU):Int) == 2) && ((((gd r5.1 1).bU):Int) == 1)) (fun (x14:Bool)=>(some (.inr (x14)))))) else (bY [cP 0 r5.1.length,!((((gd r5.1 0).bU):Int) == 1) || cP 1 r5.1.length] (bR (((((gd r5.1 0).bU):Int) == 1) && ((((gd r5.1 1).bU):Int) == 1)) (fun (x15:Bool)=>(some (.inr (x15)))))))))) (fun (u11:Bool)=>(if (!u11)=true then (some (.inl (14))) else (if ((a2.bU:Int) == 8)=true then (bY [cP 0 a2.b8.length] ((cE true (bX (yM K a0 a1 (gd a2.b8 0) true)) default).bind (fun mI=>(some (.inl (mI)))))) else (some (.inl (0))))))))) (fun r5=>?_) (fun hk=>?_)
       ·
        exact Ref.pt (
         .ite _ (
          .ret [] _) (
          .bk 1 (fun u11=>⟨[sP 3 0 0 0,sP 4 1 0 0,sP 5 2 0 0,sB 14 u11],gK a0 a1++[dV.o a2],[],0⟩) (
           .ite _ (
            .hO [1,3,4] _ <|
            .tx [] <|
            .ex [0,2,5] <|
            .dQ 6 (default:Bool) _ [] (aFH K a0 r1.1.cB (gd r5.1 0)) (fun _=>rfl) fun r12 =>
            .ex [7] <|
            .nil [0,1,2] _) (
            .ite _ (
             .ck _ <|
             .lt _ fun x13 =>
             .nil [0,1,2] _) (
             .ite _ (
              .ck _ <|
              .lt _ fun x14 =>
              .nil [0,1,2] _) (
              .ck _ <|
              .lt _ fun x15 =>
              .nil [0,1,2] _)))) fun u11 =>
          .ite _ (
           .ret [] _) (
           .ite _ (
            .ex [2] <|
            .tx [] <|
            .ex [0,1,3] <|
            .sl 1000000 0 127 (x:=.c (lW a2.b8)) (y:=(.c (jR.tree a2.b8))) (jS.c (jN _)) <|
            .hO [4,5] _ <|
            .dQ 6 (default:Int) _ [] (aHd a0 a1 (gd a2.b8 0) true) (fun _=>rfl) fun mI =>
            .ex [7] <|
            .ret [] _) (
            .ret [] _))))
       ·
        refine cX.aAa (dD:=⟨wO++[(63,.agg (c9.cs a0)),(64,.agg (dY.cs a1)),(66,.c (cN.tree a2.cU)),sI 67 u3.2],gK a0 a1++[dV.o a2,eX.o r1.1],[],0⟩) (fuel':=7) [0,1,3] [3,4,5,7,63,64,66,67] [0,1,2,3] rfl (by kernel_rfl) (by kernel_rfl) ?_
        refine cX.evH (vs:=[c5 a2.cU.length 0 u3.2]) (dD:=⟨wO++[(63,.agg (c9.cs a0)),(64,.agg (dY.cs a1)),(68,.c (.tree cN.w ((u3.2:Int).toNat - (0:Int).toNat) fun i j=>cN.at a2.cU ((0:Int).toNat+i) j))],gK a0 a1++[dV.o a2,eX.o r1.1],[],0⟩) (fuel':=6) [5] [3,4,5,7,63,64,68] [0,1,2,3] rfl (by kernel_rfl) (by kernel_rfl) (fun hv=>?_)
        refine cX.conv (Conv.sl 68 (.c (cN.tree ((a2.cU.drop (0:Int).toNat).take ((u3.2:Int).toNat - (0:Int).toNat)))) (jS.c (El.oH cN _ (tI (hv _ (List.Mem.head _)))))) ?_
        refine cX.mV (fuel':=5) 6 (by kernel_rfl) ?_
        refine eQ.c8 (t:=69) 6 [] rfl (by kernel_rfl) (aTh K a0 a1 ((a2.cU.drop (0:Int).toNat).take ((u3.2:Int).toNat - (0:Int).toNat))) (fun r5=>?_)
        refine cX.v0 (fuel':=0) [7,8,9,10,11] [3,4,5,7,12,13] [0,1,2,3] ?_
        refine cX.done (by kernel_rfl) ?_
        refine Ref.ck ⟨wO++[(12,.c (jV.tree r5.1)),sI 13 r5.2],gK a0 a1++[dV.o a2,eX.o r1.1],[],0⟩ [3,4,5,7,12,13] [0,1,2,3] ?_
        exact hk r5))))
  ·
   intro a0 a1 a2 a3
   refine bV.it Tryz.f222 (fun r=>⟨[sI 8 r],[],[],0⟩) ?_
   rw[aMm]
   exact Ref.pt (
    .ex [2] <|
    .tx [6,11] <|
    .ex [0,1,3] <|
    .hO [4,5] _ <|
    .kn fun r1 er1 =>
    .all [3,4,5,6,19,20,24,25,18,26,27,9,10] (rg (cd (bd Tryz.f222) [1,0])) [true,true,true,true,true,true,false,false,false,false,false,false,false] (hl [(6,.kc [] (bV.eq (aFN _ _ _ _) er1) [])]) ⟨kM a3++[sP 9 3 0 0,sI 10 r1.2],gK a0 a1++[dV.o a2,.cells (jV.cs r1.1)],[],0⟩ [.s 4,.s 5,.s 6,.s 9] <|
    .ite _ (
     .ret [] _) (
     .ite _ (
      .ret [] _) (
      .bk 0 (fun aVn=>⟨kM a3,gK a0 a1++[dV.o a2],[],0⟩) (
       .ad 7 0 11 E3.ty E3.w (E3.at []) <|
       .lp [0,1,2,4] (fun lJ=>⟨kM a3++[(11,.c (.own 3 lJ.1.length)),sI 12 lJ.2],gK a0 a1++[dV.o a2,E3.row lJ.1],[],0⟩) fun lJ =>
       .lt _ fun aVg =>
       .ite _ (
        .bk 1 (fun aHc=>⟨kM a3++[(11,.c (.own 3 aHc.length)),sI 12 lJ.2],gK a0 a1++[dV.o a2,E3.row aHc],[],0⟩) (
         .bk 2 (fun aHb=>⟨kM a3++[(11,.c (.own 3 aHb.length)),sI 12 lJ.2],gK a0 a1++[dV.o a2,E3.row aHb],[],0⟩) (
          .lp [0,1,2,3] (fun jC=>⟨kM a3++[(11,.c (.own 3 jC.1.length)),sI 12 lJ.2,sI 13 jC.2],gK a0 a1++[dV.o a2,E3.row jC.1],[],0⟩) fun jC =>
          .ck _ <|
          .lt _ fun aVh =>
          .ite _ (
           .bk 3 (fun aHa=>⟨kM a3++[(11,.c (.own 3 aHa.length)),sI 12 lJ.2,sI 13 jC.2],gK a0 a1++[dV.o a2,E3.row aHa],[],0⟩) (
            .ck _ <|
            .lt _ fun tT =>
            .bk 4 (fun aVl=>⟨kM a3++[(11,.c (.own 3 jC.1.length)),sI 12 lJ.2,sI 13 jC.2,sI 14 tT],gK a0 a1++[dV.o a2,E3.row jC.1],[],0⟩) (
             .lp [0,1,2,3] (fun aAW=>⟨kM a3++[(11,.c (.own 3 jC.1.length)),sI 12 lJ.2,sI 13 jC.2,sI 14 tT,sI 15 aAW],gK a0 a1++[dV.o a2,E3.row jC.1],[],0⟩) fun aAW =>
             .lt _ fun aVi =>
             .ite _ (
              .bk 5 (fun aVk=>⟨kM a3++[(11,.c (.own 3 jC.1.length)),sI 12 lJ.2,sI 13 jC.2,sI 14 tT,sI 15 aAW],gK a0 a1++[dV.o a2,E3.row jC.1],[],0⟩) (
               .ck _ <|
               .lt _ fun aVj =>
               .ite _ (
                .ret [] _) (
                .nil [0,1,2,3] _)) fun aVk =>
              .nil [0,1,2,3] _) (
              .ret [0,1,2,3] _)) fun aVl =>
            .lt _ fun aVm =>
            .ite _ (
             .ret [] _) (
             .ob 21 2 4 (El.b9 E3 [tT] rfl rfl) <|
             .ck _ <|
             .ap 21 1 5 80 E3 jC.1 [tT] <|
             .nil [0,1,2,5] _)) fun aHa =>
           .nil [0,1,2,3] _) (
           .ret [0,1,2,3] _)) fun aHb =>
         .nil [0,1,2,3] _) fun aHc =>
        .nil [0,1,2,3] _) (
        .ret [0,1,2] _)) fun aVn =>
      .bk 6 (fun aVq=>⟨[],[],[],0⟩) (
       .lp [0,1,2] (fun aAX=>⟨kM a3++[sI 16 aAX],gK a0 a1++[dV.o a2],[],0⟩) fun aAX =>
       .lt _ fun aVo =>
       .ite _ (
        .bk 7 (fun aVp=>⟨kM a3++[sI 16 aAX],gK a0 a1++[dV.o a2],[],0⟩) (
         .ex [2,4,7] <|
         .tx [] <|
         .ex [0,1,3] <|
         .sl 1000000 0 91 (x:=.c (lW a2.b8)) (y:=(.c (jR.tree a2.b8))) (jS.c (jN _)) <|
         .hO [5,6] _ <|
         .lt _ fun aOD =>
         .dQ 8 (default:Int) _ [] (aHd a0 a1 aOD a3) (fun _=>rfl) fun aOE =>
         .ex [9] <|
         .ite _ (
          .ret [] _) (
          .nil [0,1,2] _)) fun aVp =>
        .nil [0,1,2] _) (
        .ret [] _)) fun aVq =>
      .ret [] _)))
theorem aTl (K:Nat) (a0:cK) (a1:dS) (a2:(List cI)) (a3:Bool):bV Tryz.prog 196 [.agg (c9.cs a0),.agg (dY.cs a1),.c (dV.tree a2),.c (.val (.bool a3))] [] (bX (yM K a0 a1 a2 a3)) (fun r=>.c (.val (.int .i64 r))) (fun r=>[]):=(aTk K).1 a0 a1 a2 a3
def aMn (K:Nat) (a0:cK) (a1:dS) (a2:(List cI)):Option ((Int) ⊕ (Int)) :=
 ((bX (aG2 K a0 a1)).bind (fun r1=>(if (!r1)=true then (some (.inl (22))) else ((bX (yM K a0 a1 a2 false)).bind (fun r2=>(some (.inl (r2))))))))
theorem aKD (K:Nat) (a0:cK) (a1:dS) (a2:(List cI)):bV Tryz.prog 153 [.agg (c9.cs a0),.agg (dY.cs a1),.c (dV.tree a2)] [] (bX (aMn K a0 a1 a2)) (fun r=>.c (.val (.int .i64 r))) (fun r=>[]):=by
 refine bV.it Tryz.f153 (fun r=>⟨[sI 6 r],[],[],0⟩) ?_
 unfold aMn
 exact Ref.pt (
  .call [] (aBM _ _ _) fun r1 =>
  .ite _ (
   .ret [] _) (
   .call [] (aTl _ _ _ _ _) fun r2 =>
   .ret [] _))
end Go.Proofs.YtdbfbedholdjaaaGreat

namespace Go.Proofs.YtdbfbedholdjaaaGreat
open Go Go.Proofs Go.Dl
variable [dO]
set_option maxRecDepth 100000
set_option maxHeartbeats 4000000
def aOF (K:Nat) (a0:cK) (a1:Int):Option ((Int) ⊕ (Int)) :=
 (bY [cP a1 a0.bP.length] (bT (bQ ((iter K (fun (eW:Int)=>(bR (decide ((eW:Int)<(Int.ofNat ((a0.bP.getD (a1:Int).toNat default).cA).length))) (fun (x38:Bool)=>(if x38=true then (bT (bQ (bY [cP eW ((a0.bP.getD (a1:Int).toNat default).cA).length] ((bX (aOv K a0 ((((a0.bP.getD (a1:Int).toNat default).cA).getD (eW:Int).toNat default).cB))).bind (fun r42=>(bR ((((!r42) || (decide ((((((a0.bP.getD (a1:Int).toNat default).cA).getD (eW:Int).toNat default).kE):Int)<0))) || (decide ((((((a0.bP.getD (a1:Int).toNat default).cA).getD (eW:Int).toNat default).kE):Int) > 2))) || ((((((((a0.bP.getD (a1:Int).toNat default).cA).getD (eW:Int).toNat default).kE):Int) != 0) && (((((((a0.bP.getD (a1:Int).toNat default).cA).getD (eW:Int).toNat default).cB).bU):Int) != 1)) && (((((((a0.bP.getD (a1:Int).toNat default).cA).getD (eW:Int).toNat default).cB).bU):Int) != 2))) (fun (x43:Bool)=>(if x43=true then (some (.inl (Sum.inr (Sum.inr (9))))) else (some (.inr ()))))))))) (fun (u41:Unit)=>(some (.inr ((IntKind.i64.wrap (eW+1))))))) else (some (.inl (Sum.inl ()))))))) (0)).map .inl)) (fun (eA:Unit)=>(bT (bQ ((iter K (fun (wN:Int)=>(bR (decide ((wN:Int)<(Int.ofNat ((a0.bP.getD (a1:Int).toNat default).cA).length))) (fun (x71:Bool)=>(if x71=true then (bT (bQ (bY [cP wN ((a0.bP.getD (a1:Int).toNat default).cA).length] ((bX (aMf K (((a0.bP.getD (a1:Int).toNat default).cA).getD (wN:Int).toNat default))).bind (fun r74=>(if (!r74)=true then (some (.inl (Sum.inr (Sum.inr (10))))) else (some (.inr ()))))))) (fun (u73:Unit)=>(some (.inr ((IntKind.i64.wrap (wN+1))))))) else (some (.inl (Sum.inl ()))))))) (0)).map .inl)) (fun (u59:Unit)=>(bT (bQ ((iter K (fun (yN:Int)=>(bR (decide ((yN:Int)<(Int.ofNat ((a0.bP.getD (a1:Int).toNat default).cA).length))) (fun (a1z:Bool)=>(if a1z=true then (bT (bQ (bY [cP yN ((a0.bP.getD (a1:Int).toNat default).cA).length] (bR (((((((a0.bP.getD (a1:Int).toNat default).cA).getD (yN:Int).toNat default).kE):Int) != 0) && ((decide ((((((a0.bP.getD (a1:Int).toNat default).cA).getD (yN:Int).toNat default).iP):Int)<0)) || (decide ((((((a0.bP.getD (a1:Int).toNat default).cA).getD (yN:Int).toNat default).iP):Int) ≥ 8)))) (fun (aXD:Bool)=>((cE (((((((a0.bP.getD (a1:Int).toNat default).cA).getD (yN:Int).toNat default).kE):Int) == 2) && (!aXD)) (bX (aOw K a0 a1 yN)) default).bind (fun wM=>(bR (aXD || (((((((a0.bP.getD (a1:Int).toNat default).cA).getD (yN:Int).toNat default).kE):Int) == 2) && wM)) (fun (aMh:Bool)=>(if aMh=true then (some (.inl (Sum.inr (Sum.inr (16))))) else (some (.inr ()))))))))))) (fun (aHf:Unit)=>(some (.inr ((IntKind.i64.wrap (yN+1))))))) else (some (.inl (Sum.inl ()))))))) (0)).map .inl)) (fun (aI6:Unit)=>(bR ((a0.bP.getD (a1:Int).toNat default).cA) (fun (a1A:(List eZ))=>((bX (aG6 K a1A)).bind (fun aCS=>((bX (aCL K aCS)).bind (fun aMp=>(if aMp=true then (some (.inl (6))) else (bR ((a0.bP.getD (a1:Int).toNat default).sC) (fun (aMq:(List cI))=>((bX (aMn K a0 (⟨a1,(-1)⟩:dS) aMq)).bind (fun aOG=>(some (.inl (aOG)))))))))))))))))))))
theorem aTm (K:Nat) (a0:cK) (a1:Int):bV Tryz.prog 119 [.agg (c9.cs a0),.c (.val (.int .i64 a1))] [] (bX (aOF K a0 a1)) (fun r=>.c (.val (.int .i64 r))) (fun r=>[]):=by
 refine bV.it Tryz.f119 (fun r=>⟨[sI 4 r],[],[],0⟩) ?_
 unfold aOF
 exact Ref.pt (
  .ck _ <|
  .bk 0 (fun eA=>⟨[sI 1 a1,sP 2 0 0 0,sP 5 1 0 0],[.cells (c9.cs a0),gW.o (gd a0.bP a1)],[],0⟩) (
   .lp [0,1] (fun eW=>⟨[sI 1 a1,sP 2 0 0 0,sP 5 1 0 0,sI 6 eW],[.cells (c9.cs a0),gW.o (gd a0.bP a1)],[],0⟩) fun eW =>
   .lt _ fun x38 =>
   .ite _ (
    .bk 1 (fun u41=>⟨[sI 1 a1,sP 2 0 0 0,sP 5 1 0 0,sI 6 eW],[.cells (c9.cs a0),gW.o (gd a0.bP a1)],[],0⟩) (
     .ck _ <|
     .call [] (aTd _ _ _) fun r42 =>
     .lt _ fun x43 =>
     .ite _ (
      .ret [] _) (
      .nil [0,1] _)) fun u41 =>
    .nil [0,1] _) (
    .ret [0,1] _)) fun eA =>
  .bk 2 (fun u59=>⟨[sI 1 a1,sP 2 0 0 0,sP 5 1 0 0],[.cells (c9.cs a0),gW.o (gd a0.bP a1)],[],0⟩) (
   .lp [0,1] (fun wN=>⟨[sI 1 a1,sP 2 0 0 0,sP 5 1 0 0,sI 8 wN],[.cells (c9.cs a0),gW.o (gd a0.bP a1)],[],0⟩) fun wN =>
   .lt _ fun x71 =>
   .ite _ (
    .bk 3 (fun u73=>⟨[sI 1 a1,sP 2 0 0 0,sP 5 1 0 0,sI 8 wN],[.cells (c9.cs a0),gW.o (gd a0.bP a1)],[],0⟩) (
     .ck _ <|
     .call [] (aKz _ _) fun r74 =>
     .ite _ (
      .ret [] _) (
      .nil [0,1] _)) fun u73 =>
    .nil [0,1] _) (
    .ret [0,1] _)) fun u59 =>
  .bk 4 (fun aI6=>⟨[sI 1 a1,sP 2 0 0 0,sP 5 1 0 0],[.cells (c9.cs a0),gW.o (gd a0.bP a1)],[],0⟩) (
   .lp [0,1] (fun yN=>⟨[sI 1 a1,sP 2 0 0 0,sP 5 1 0 0,sI 9 yN],[.cells (c9.cs a0),gW.o (gd a0.bP a1)],[],0⟩) fun yN =>
   .lt _ fun a1z =>
   .ite _ (
    .bk 5 (fun aHf=>⟨[sI 1 a1,sP 2 0 0 0,sP 5 1 0 0,sI 9 yN],[.cells (c9.cs a0),gW.o (gd a0.bP a1)],[],0⟩) (
     .ck _ <|
     .lt _ fun aXD =>
     .look (default:Bool) _ [] (aTe K a0 a1 yN) (fun _=>rfl) fun wM =>
     .lt _ fun aMh =>
     .ite _ (
      .ret [] _) (
      .nil [0,1] _)) fun aHf =>
    .nil [0,1] _) (
    .ret [0,1] _)) fun aI6 =>
  .lt _ fun a1A =>
  .call [] (aBO _ _) fun aCS =>
  .call [] (rK _ _) fun aMp =>
  .ite _ (
   .ret [] _) (
   .lt _ fun aMq =>
   .call [] (aKD _ _ _ _) fun aOG =>
   .ret [] _))
def aOH (K:Nat) (a0:cK) (a1:Int):Option ((Int) ⊕ (Int)) :=
 (bY [cP a1 a0.bP.length] (bR ((a0.bP.getD (a1:Int).toNat default).gF) (fun (x1:Bytes)=>((bX (F61 K a0 x1)).bind (fun r2=>((bX (F68 K a0 r2)).bind (fun r3=>(bR (((((((r3:Int) != 3) || (decide ((r2:Int) ≥ a1))) || (decide ((((a0.bP.getD (a1:Int).toNat default).mG):Int)<1))) || (decide ((((a0.bP.getD (a1:Int).toNat default).mG):Int) > 100))) || (decide ((((a0.bP.getD (a1:Int).toNat default).mH):Int)<0))) || (decide ((((a0.bP.getD (a1:Int).toNat default).mH):Int) > 9))) (fun (x4:Bool)=>(bT (bQ ((iter K (fun (eA:Bool × Int)=>(if (decide ((eA.2:Int)<a1))=true then (bT (bQ (bY [!(!eA.1) || cP eA.2 a0.bP.length,!(((((a0.bP.getD (eA.2:Int).toNat default).bU):Int) == 4) && (!eA.1)) || cP eA.2 a0.bP.length] (bR (eA.1 || (((((a0.bP.getD (eA.2:Int).toNat default).bU):Int) == 4) && (((a0.bP.getD (eA.2:Int).toNat default).gF) == ((a0.bP.getD (a1:Int).toNat default).gF)))) (fun (gY:Bool)=>(some (.inr (gY))))))) (fun (jG:Bool)=>(some (.inr (jG,(IntKind.i64.wrap (eA.2+1))))))) else (some (.inl (Sum.inl (eA.1)))))) (x4,0)).map .inl)) (fun (kF:Bool)=>(if kF=true then (some (.inl (17))) else (some (.inl (0)))))))))))))))
theorem aTn (K:Nat) (a0:cK) (a1:Int):bV Tryz.prog 120 [.agg (c9.cs a0),.c (.val (.int .i64 a1))] [] (bX (aOH K a0 a1)) (fun r=>.c (.val (.int .i64 r))) (fun r=>[]):=by
 refine bV.it Tryz.f120 (fun r=>⟨[sI 4 r],[],[],0⟩) ?_
 unfold aOH
 exact Ref.pt (
  .ck _ <|
  .lt _ fun x1 =>
  .call [] (lB _ _ _) fun r2 =>
  .call [] (lC _ _ _) fun r3 =>
  .lt _ fun x4 =>
  .bk 0 (fun kF=>⟨[sB 7 kF],[],[],0⟩) (
   .lp [0,1] (fun eA=>⟨[sI 1 a1,sP 2 0 0 0,sP 5 1 0 0,sB 7 eA.1,sI 8 eA.2],[.cells (c9.cs a0),gW.o (gd a0.bP a1)],[],0⟩) fun eA =>
   .ite _ (
    .bk 1 (fun jG=>⟨[sI 1 a1,sP 2 0 0 0,sP 5 1 0 0,sB 7 jG,sI 8 eA.2],[.cells (c9.cs a0),gW.o (gd a0.bP a1)],[],0⟩) (
     .ex [0,1,2,4] <|
     .tx [] <|
     .hO [3,5,6,7,8,9,10,11,12,13,14,15,16,17,18,19,20,21] _ <|
     .lt _ fun gY =>
     .nil [0,1] _) fun jG =>
    .nil [0,1] _) (
    .ret [] _)) fun kF =>
  .ite _ (
   .ret [] _) (
   .ret [] _))
end Go.Proofs.YtdbfbedholdjaaaGreat
