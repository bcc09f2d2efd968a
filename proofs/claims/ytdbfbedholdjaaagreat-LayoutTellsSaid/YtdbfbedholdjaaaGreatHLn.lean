/- No conditions. -/
import Derived.Test.YtdbfbedholdjaaaGreatHLH
import Derived.Test.YtdbfbedholdjaaaGreatHBD
import Derived.Test.YtdbfbedholdjaaaGreatProg
set_option linter.unusedVariables false
set_option linter.unusedSimpArgs false
set_option linter.unusedSectionVars false
namespace Go.Proofs.YtdbfbedholdjaaaGreat
open Go Go.Proofs Go.Dl
variable [dO]
set_option maxRecDepth 100000
set_option maxHeartbeats 4000000
def F81 (K:Nat) (a0:xF) (a1:Bytes):Option ((Int × Err × xF) ⊕ (Int × Err × xF)) :=
 ((bX (aWr K a0)).bind (fun r1=>(bY [room ((r1.jH.length+a1.length) * 1)] (some (.inl ((Int.ofNat a1.length),none,(⟨r1.vJ,(r1.jH++a1)⟩:xF)))))))
theorem aX3 (K:Nat) (a0:xF) (a1:Bytes):bV Tryz.prog 81 [.c (.ptr 0 0 0),.c (.str a1)] [.cells [.self 121 a0.vJ 0,.own 1 a0.jH.length],E5.row a0.jH] (bX (F81 K a0 a1)) (fun r=>.jW [.c (.val (.int .i64 r.1)),.c (aSq r.2.1)]) (fun r=>[.cells [.self 121 r.2.2.vJ 0,.own 2 r.2.2.jH.length],.dead,E5.row r.2.2.jH]):=by
 refine bV.it Tryz.f81 (fun r=>⟨[sI 4 r.1,(5,.c (aSq r.2.1))],[.cells [.self 121 r.2.2.vJ 0,.own 2 r.2.2.jH.length],.dead,E5.row r.2.2.jH],[],2⟩) ?_
 unfold F81
 exact Ref.pt (
  .call [0,1] (aSs _ _) fun r1 =>
  .ck _ <|
  .ob 2 3 2 (x:=.row 5 1 (r1.jH.length+a1.length) fun i j=>bif Nat.blt i r1.jH.length then E5.at r1.jH i j else (fun i _=>.val (.int .u8 (a1.getD i 0).toNat)) (i - r1.jH.length) j) (y:=(E5.row (r1.jH++a1))) (El.aCe E5 rfl r1.jH a1 rfl) <|
  .sl 2 3 14 (x:=.c (.own 2 (r1.jH.length+a1.length))) (y:=(.c (.own 2 ((r1.jH++a1).length)))) (jS.c (hG.own (by first | (simp;done) | (simp;omega) | omega))) <|
  .sl 3 0 5 (x:=.c (.val .nilIface)) (y:=(.c (aSq none))) (jS.c (aNs)) <|
  .ret [0,1,2] _)
def F36 (K:Nat) (a0:(List eZ)):Option ((Bytes) ⊕ (Bytes)) :=
 (bT (bQ ((iter K (fun (u44:Bool × (List UInt8) × Int)=>(bR (decide ((u44.2.2:Int)<(Int.ofNat a0.length))) (fun (x56:Bool)=>(if x56=true then (bT (bQ (bY [cP u44.2.2 a0.length] ((cE true (bX (F83 K ((a0.getD (u44.2.2:Int).toNat default).cB))) default).bind (fun r62=>((cE true (bX (F84 K ((a0.getD (u44.2.2:Int).toNat default).cB))) default).bind (fun r63=>((cE true (bX (F82 K r62 (sJ r63 10000))) default).bind (fun r64=>((bX (F81 K (⟨u44.1,u44.2.1⟩:xF) r64)).bind (fun r65=>(some (.inr (r65.2.2.vJ,r65.2.2.jH))))))))))))) (fun (u61:Bool × (List UInt8))=>(some (.inr (u61.1,u61.2,(IntKind.i64.wrap (u44.2.2+1))))))) else (some (.inl (Sum.inl (u44.1,u44.2.1)))))))) (false,[],0)).map .inl)) (fun (u33:Bool × (List UInt8))=>((bX (F85 K (⟨u33.1,u33.2⟩:xF))).bind (fun r66=>(some (.inl (r66)))))))
theorem aAp (K:Nat) (a0:(List eZ)):bV Tryz.prog 36 [.c (eX.tree a0)] [] (bX (F36 K a0)) (fun r=>.c (.str r)) (fun r=>[]):=by
 refine bV.it Tryz.f36 (fun r=>⟨[sS 2 r],[],[],0⟩) ?_
 unfold F36
 exact Ref.pt (
  .aD7 [] 1 (rg (cd (bd Tryz.f36) [1,0])) ((rg (cd (bd Tryz.f36) [1,0])).toList.drop 0) [(cd (bd Tryz.f36) [1,1])] ⟨[(0,.c (eX.tree a0))],[],[],0⟩ (by
   refine eO.aLR (d:=3) (t:=121) (cl:=[.nil]) 0 1 (by kernel_rfl) (by kernel_rfl) ?_
   exact eO.pt (id:=1) (
    .bk 0 (fun u33=>⟨[sP 3 0 0 0],[.cells [.self 121 u33.1 0,.own 1 u33.2.length],E5.row u33.2],[],0⟩) (
     .adc 2 0 0 1 E5.ty E5.w (E5.at []) <|
     .lp [0,1] (fun u44=>⟨[sP 3 0 0 0,(6,.c (eX.tree a0)),sI 7 (Int.ofNat a0.length),sI 8 u44.2.2],[.cells [.self 121 u44.1 0,.own 1 u44.2.1.length],E5.row u44.2.1],[],0⟩) fun u44 =>
     .lt _ fun x56 =>
     .ite _ (
      .bk 1 (fun u61=>⟨[sP 3 0 0 0,(6,.c (eX.tree a0)),sI 7 (Int.ofNat a0.length),sI 8 u44.2.2],[.cells [.self 121 u61.1 0,.own 1 u61.2.length],E5.row u61.2],[],0⟩) (
       .ck _ <|
       .ex [0,3] <|
       .tx [8] <|
       .ex [1,4] <|
       .dQ 2 (default:Bytes) _ [] (aXG K ((gd a0 u44.2.2).cB)) (fun _=>rfl) fun r62 =>
       .dQ 5 (default:Int) _ [] (aFQ K ((gd a0 u44.2.2).cB)) (fun _=>rfl) fun r63 =>
       .ex [6] <|
       .dQ 7 (default:Bytes) _ [] (aWt K r62 (sJ r63 10000)) (fun _=>rfl) fun r64 =>
       .tl [8] <|
       .call [0,1] (aX3 _ _ _) fun r65 =>
       .nil [0,3] _) fun u61 =>
      .nil [0,1] _) (
      .ret [0,1] _)) fun u33 =>
    .call [0,1] (aWs _ _) fun r66 =>
    .ret [] _)))
def F39 (K:Nat) (a0:hU):Option ((Bytes) ⊕ (Bytes)) :=
 ((cE true (bX (F36 K a0.cG)) default).bind (fun r1=>((cE true (bX (F86 K r1 ((a0.eU.bU:Int) != 0))) default).bind (fun r2=>(some (.inl (r2)))))))
theorem aPm (K:Nat) (a0:hU):bV Tryz.prog 39 [.agg (jO.cs a0)] [] (bX (F39 K a0)) (fun r=>.c (.str r)) (fun r=>[]):=by
 refine bV.it Tryz.f39 (fun r=>⟨[sS 2 r],[],[],0⟩) ?_
 unfold F39
 exact Ref.pt (
  .ex [0,3,4] <|
  .tx [] <|
  .ex [1,5,6] <|
  .dQ 2 (default:Bytes) _ [] (aAp K a0.cG) (fun _=>rfl) fun r1 =>
  .dQ 7 (default:Bytes) _ [] (aXK K r1 ((a0.eU.bU:Int) != 0)) (fun _=>rfl) fun r2 =>
  .ex [8] <|
  .ret [] _)
def F44 (K:Nat) (a0:cK) (a1:dS):Option ((sL) ⊕ (sL)) :=
 (if (decide ((a1.dF:Int)<0))=true then (some (.inl ((⟨(-1),([]:Bytes),([]:Bytes),false,0,[]⟩:sL)))) else (bY [cP a1.cZ a0.bP.length,cP a1.dF ((a0.bP.getD (a1.cZ:Int).toNat default).bS).length] (bR ((((a0.bP.getD (a1.cZ:Int).toNat default).bS).getD (a1.dF:Int).toNat default).cG) (fun (x2:(List eZ))=>(bR ((((a0.bP.getD (a1.cZ:Int).toNat default).bS).getD (a1.dF:Int).toNat default).cA) (fun (x3:(List eZ))=>(bR (((((((a0.bP.getD (a1.cZ:Int).toNat default).bS).getD (a1.dF:Int).toNat default).eU).bU):Int) != 0) (fun (x4:Bool)=>((cE true (bX (F11 K a0 a1.cZ)) default).bind (fun r5=>((cE true (bX (F36 K x2)) default).bind (fun r6=>((cE true (bX (F36 K x3)) default).bind (fun r7=>(some (.inl ((⟨r5,r6,r7,x4,0,[]⟩:sL))))))))))))))))))
theorem aX5 (K:Nat) (a0:cK) (a1:dS):bV Tryz.prog 44 [.agg (c9.cs a0),.agg (dY.cs a1)] [] (bX (F44 K a0 a1)) (fun r=>.agg (p7.cs r)) (fun r=>[.cells (p7.cs r)]):=by
 refine bV.it Tryz.f44 (fun r=>⟨[sP 4 0 0 0],[.cells (p7.cs r)],[],0⟩) ?_
 unfold F44
 exact Ref.pt (
  .ite _ (
   .ok 2 0 2 5 (x:=.nil) (y:=aAq.tree []) (El.cJ aAq) <|
   .ret [2] _) (
   .ex [0,2,7] <|
   .tx [12] <|
   .hO [1,3,4,5,6,8,9,10] _ <|
   .all [2,3,4,20,5] (rg (cd (bd Tryz.f44) [1,1,0])) [true,true,true,true,true,true,true,true,true,true,true,false,false] (hl []) ⟨[sP 2 0 0 0,sP 3 1 0 0,sP 4 2 0 0,sP 5 3 0 0],[.cells (c9.cs a0),.cells (dY.cs a1),.cells [iC 0,.str [],.str [],bC false,iC 0,.nil],jO.o (gd ((gd a0.bP a1.cZ).bS) a1.dF)],[],0⟩ [.s 2,.s 3,.s 4,.s 5] <|
   .ex [1,4,7,10,11] <|
   .tx [15] <|
   .ex [0,2,5,8,12,13] <|
   .lt _ fun x2 =>
   .lt _ fun x3 =>
   .lt _ fun x4 =>
   .dQ 3 (default:Int) _ [] (aFP K a0 a1.cZ) (fun _=>rfl) fun r5 =>
   .dQ 6 (default:Bytes) _ [] (aAp K x2) (fun _=>rfl) fun r6 =>
   .dQ 9 (default:Bytes) _ [] (aAp K x3) (fun _=>rfl) fun r7 =>
   .ex [14] <|
   .tl [15] <|
   .ok 4 0 2 5 (x:=.nil) (y:=aAq.tree []) (El.cJ aAq) <|
   .ret [2] _))
def F17 (K:Nat) (a0:cK) (a1:Int) (a2:Bytes):Option ((Int) ⊕ (Int)) :=
 ((bX (F50 K a0 a1 3)).bind (fun r1=>(if (!r1)=true then (some (.inl ((-1)))) else (bY [cP a1 a0.bP.length] (bR ((a0.bP.getD (a1:Int).toNat default).cA) (fun (x2:(List eZ))=>((bX (F51 K x2 a2)).bind (fun r3=>(if (decide ((r3:Int)<0))=true then (some (.inl ((-1)))) else ((bX (F55 K a0)).bind (fun r4=>(bT (bQ ((iter K (fun (l5:Int × Int)=>(bR (decide ((l5.2:Int)<(Int.ofNat r4.length))) (fun (x60:Bool)=>(if x60=true then (bT (bQ (bY [cP l5.2 r4.length] (bR (decide (((r4.getD (l5.2:Int).toNat default):Int)<a1)) (fun (x66:Bool)=>(if x66=true then (bY [cP (r4.getD (l5.2:Int).toNat default) a0.bP.length] (bR ((a0.bP.getD ((r4.getD (l5.2:Int).toNat default):Int).toNat default).cA) (fun (x67:(List eZ))=>((bX (F36 K x67)).bind (fun r68=>(bR (IntKind.i64.wrap (l5.1+(Int.ofNat r68.length))) (fun (x69:Int)=>(some (.inr (x69)))))))))) else (some (.inr (l5.1)))))))) (fun (wN:Int)=>(some (.inr (wN,(IntKind.i64.wrap (l5.2+1))))))) else (some (.inl (Sum.inl (l5.1)))))))) (r3,0)).map .inl)) (fun (u37:Int)=>(some (.inl (u37))))))))))))))))
theorem aFT (K:Nat) (a0:cK) (a1:Int) (a2:Bytes):bV Tryz.prog 17 [.agg (c9.cs a0),.c (.val (.int .i64 a1)),.c (.str a2)] [] (bX (F17 K a0 a1 a2)) (fun r=>.c (.val (.int .i64 r))) (fun r=>[]):=by
 refine bV.it Tryz.f17 (fun r=>⟨[sI 6 r],[],[],0⟩) ?_
 unfold F17
 exact Ref.pt (
  .call [] (aCZ _ _ _ _) fun r1 =>
  .ite _ (
   .ret [] _) (
   .ck _ <|
   .lt _ fun x2 =>
   .call [] (aO3 _ _ _) fun r3 =>
   .ite _ (
    .ret [] _) (
    .call [] (aI8 _ _) fun r4 =>
    .bk 0 (fun u37=>⟨[sI 7 u37],[],[],0⟩) (
     .lp [0] (fun l5=>⟨[sI 1 a1,sP 3 0 0 0,sI 7 l5.1,(25,.c (E3.tree r4)),sI 26 (Int.ofNat r4.length),sI 27 l5.2],[.cells (c9.cs a0)],[],0⟩) fun l5 =>
     .lt _ fun x60 =>
     .ite _ (
      .bk 1 (fun wN=>⟨[sI 1 a1,sP 3 0 0 0,sI 7 wN,(25,.c (E3.tree r4)),sI 26 (Int.ofNat r4.length),sI 27 l5.2],[.cells (c9.cs a0)],[],0⟩) (
       .ck _ <|
       .lt _ fun x66 =>
       .ite _ (
        .ck _ <|
        .lt _ fun x67 =>
        .call [] (aAp _ _) fun r68 =>
        .lt _ fun x69 =>
        .nil [0] _) (
        .nil [0] _)) fun wN =>
      .nil [0] _) (
      .ret [] _)) fun u37 =>
    .ret [] _)))
def F41 (K:Nat) (a0:cK) (a1:Int) (a2:fF):Option ((fF) ⊕ (fF)) :=
 (bY [cP a1 a0.bP.length] (bR ((a0.bP.getD (a1:Int).toNat default).cA) (fun (x1:(List eZ))=>(bR (Int.ofNat ((a0.bP.getD (a1:Int).toNat default).cA).length) (fun (x2:Int)=>(bT (bQ ((iter K (fun (eD:fF × Int)=>(if (decide ((eD.2:Int)<x2))=true then (bT (bQ (bY [cP eD.2 x1.length] ((cE true (bX (F17 K a0 a1 ((x1.getD (eD.2:Int).toNat default).cD))) default).bind (fun aEi=>(bT (bQ (bR (((((x1.getD (eD.2:Int).toNat default).cB).bU):Int) == 6) (fun (a2f:Bool)=>(if a2f=true then (bR (((x1.getD (eD.2:Int).toNat default).cB).cD) (fun (aX6:Bytes)=>((cE true (bX (F42 K a0 aX6)) default).bind (fun aMv=>((cE true (bX (F11 K a0 aMv)) default).bind (fun aPn=>(bY [room ((((eD.1).dW.length)+([aPn].length)) * 8)] (some (.inr ((⟨(eD.1).cL,(eD.1).cO,(eD.1).dI,(((eD.1).dW)++[aPn]),(eD.1).dJ,(eD.1).dM,(eD.1).b8,(eD.1).fY,(eD.1).eP,(eD.1).eN,(eD.1).fD,(eD.1).fW⟩:fF))))))))))) else (bR (((((x1.getD (eD.2:Int).toNat default).cB).bU):Int) == 7) (fun (a2g:Bool)=>(if a2g=true then (bR (((x1.getD (eD.2:Int).toNat default).cB).fLo) (fun (aHn:Int)=>(bY [room ((((eD.1).b8.length)+([aHn].length)) * 8)] (some (.inr ((⟨(eD.1).cL,(eD.1).cO,(eD.1).dI,(eD.1).dW,(eD.1).dJ,(eD.1).dM,(((eD.1).b8)++[aHn]),(eD.1).fY,(eD.1).eP,(eD.1).eN,(eD.1).fD,(eD.1).fW⟩:fF))))))) else (bR ((((x1.getD (eD.2:Int).toNat default).kE):Int) == 1) (fun (aMw:Bool)=>(if aMw=true then (bY [room ((((eD.1).fY.length)+([(⟨aEi,(x1.getD (eD.2:Int).toNat default).iP,(((((x1.getD (eD.2:Int).toNat default).cB).bU):Int) == 2)⟩:gV)].length)) * 24)] (some (.inr ((⟨(eD.1).cL,(eD.1).cO,(eD.1).dI,(eD.1).dW,(eD.1).dJ,(eD.1).dM,(eD.1).b8,(((eD.1).fY)++[(⟨aEi,(x1.getD (eD.2:Int).toNat default).iP,(((((x1.getD (eD.2:Int).toNat default).cB).bU):Int) == 2)⟩:gV)]),(eD.1).eP,(eD.1).eN,(eD.1).fD,(eD.1).fW⟩:fF))))) else (bR ((((x1.getD (eD.2:Int).toNat default).kE):Int) == 2) (fun (a2h:Bool)=>(if a2h=true then (bY [room ((((eD.1).eP.length)+([(⟨aEi,(x1.getD (eD.2:Int).toNat default).iP,(((((x1.getD (eD.2:Int).toNat default).cB).bU):Int) == 2)⟩:gV)].length)) * 24)] (some (.inr ((⟨(eD.1).cL,(eD.1).cO,(eD.1).dI,(eD.1).dW,(eD.1).dJ,(eD.1).dM,(eD.1).b8,(eD.1).fY,(((eD.1).eP)++[(⟨aEi,(x1.getD (eD.2:Int).toNat default).iP,(((((x1.getD (eD.2:Int).toNat default).cB).bU):Int) == 2)⟩:gV)]),(eD.1).eN,(eD.1).fD,(eD.1).fW⟩:fF))))) else (some (.inr ((eD.1))))))))))))))))) (fun (aTJ:fF)=>(some (.inr ((aTJ)))))))))) (fun (aTK:fF)=>(some (.inr ((aTK),(IntKind.i64.wrap (eD.2+1))))))) else (some (.inl (Sum.inl ((eD.1))))))) (a2,0)).map .inl)) (fun (wR:fF)=>(some (.inr ((wR)))))))))))
abbrev aPo (v0:fF):List Go.Dl.Obj:=[.cells (fF.oc (v0) 1 2 3 10 5 11 12 13 9),sO.row ((v0).cL),nW.row ((v0).cO),p7.row ((v0).dI),.dead,E3.row ((v0).dM),.dead,.dead,.dead,vE.row ((v0).eN),E3.row ((v0).dW),E3.row ((v0).b8),fC.row ((v0).fY),fC.row ((v0).eP)]
abbrev aVC (v0:fF × Int):List Go.Dl.Obj:=[sO.row ((v0.1).cL),nW.row ((v0.1).cO),p7.row ((v0.1).dI),.dead,E3.row ((v0.1).dM),.dead,.dead,.dead,vE.row ((v0.1).eN)]
theorem aX7 (K:Nat) (a0:cK) (a1:Int) (a2:fF):bV Tryz.prog 41 [.agg (c9.cs a0),.c (.val (.int .i64 a1)),.c (.ptr 0 0 0)] [.cells (fF.oc a2 1 2 3 4 5 6 7 8 9),sO.row a2.cL,nW.row a2.cO,p7.row a2.dI,E3.row a2.dW,E3.row a2.dM,E3.row a2.b8,fC.row a2.fY,fC.row a2.eP,vE.row a2.eN] (bX (F41 K a0 a1 a2)) (fun r=>.jW []) (fun r=>[.cells (fF.oc r 10 11 12 13 14 15 16 17 18),.dead,.dead,.dead,.dead,.dead,.dead,.dead,.dead,.dead,sO.row r.cL,nW.row r.cO,p7.row r.dI,E3.row r.dW,E3.row r.dM,E3.row r.b8,fC.row r.fY,fC.row r.eP,vE.row r.eN]):=by
 refine bV.it Tryz.f41 (fun r=>⟨[],[.cells (fF.oc r 10 11 12 13 14 15 16 17 18),.dead,.dead,.dead,.dead,.dead,.dead,.dead,.dead,.dead,sO.row r.cL,nW.row r.cO,p7.row r.dI,E3.row r.dW,E3.row r.dM,E3.row r.b8,fC.row r.fY,fC.row r.eP,vE.row r.eN],[],10⟩) ?_
 unfold F41
 exact Ref.pt (
  .ck _ <|
  .lt _ fun x1 =>
  .lt _ fun x2 =>
  .bk 0 (fun wR=>⟨[],aPo wR,[],10⟩) (
   .mv 1 0 4 <|
   .mv 1 0 6 <|
   .mv 1 0 7 <|
   .mv 1 0 8 <|
   .lp [0,1,2,3,4,5,6,7,8,9,11,12,13,14,10] (fun eD=>⟨[sI 1 a1,sP 2 0 0 0,sP 3 14 0 0,(14,.c (eX.tree x1)),sI 15 x2,sI 16 eD.2],.cells (fF.oc (eD.1) 1 2 3 10 5 11 12 13 9)::(aVC eD++[E3.row ((eD.1).dW),E3.row ((eD.1).b8),fC.row ((eD.1).fY),fC.row ((eD.1).eP),.cells (c9.cs a0)]),[],10⟩) fun eD =>
   .ite _ (
    .bk 1 (fun aTK=>⟨[sI 1 a1,sP 2 0 0 0,sP 3 14 0 0,(14,.c (eX.tree x1)),sI 15 x2,sI 16 eD.2],aPo aTK++[.cells (c9.cs a0)],[],10⟩) (
     .ck _ <|
     .ex [1,2,5,7,8] <|
     .tx [13] <|
     .ex [0,3,6,9,10] <|
     .dQ 4 (default:Int) _ [] (aFT K a0 a1 ((gd x1 eD.2).cD)) (fun _=>rfl) fun aEi =>
     .ex [11] <|
     .all [1,2,3,7,14,15,16,31,8] (rg (cd (bd Tryz.f41) [1,1,0,0,1,1,0,0,1,0])) [true,true,true,true,true,true,true,true,true,true,true,true,false,false] (hl []) ⟨[sI 1 a1,sP 2 0 0 0,sP 3 10 0 0,sP 7 11 0 0,sP 8 12 0 0,(14,.c (eX.tree x1)),sI 15 x2,sI 16 eD.2],.cells (fF.oc (eD.1) 1 2 3 13 5 14 15 16 9)::(aVC eD++[.cells (c9.cs a0),eX.o (gd x1 eD.2),.cells [iC aEi,iC ((gd x1 eD.2).iP),bC (((((gd x1 eD.2).cB).bU):Int) == 2)],E3.row ((eD.1).dW),E3.row ((eD.1).b8),fC.row ((eD.1).fY),fC.row ((eD.1).eP)]),[],10⟩ [.k 0,.k 1,.k 2,.k 3,.k 4,.k 5,.k 6,.k 7,.k 8,.k 9,.s 3,.s 7,.s 8,.o 0 3,.o 0 6,.o 0 7,.o 0 8] <|
     .bk 2 (fun aTJ=>⟨[sI 1 a1,sP 2 0 0 0,sP 3 14 0 0,(14,.c (eX.tree x1)),sI 15 x2,sI 16 eD.2],aPo aTJ++[.cells (c9.cs a0)],[],10⟩) (
      .lt _ fun a2f =>
      .ite _ (
       .ex [0,1,2,3,7,8] <|
       .tx [13,14,15,16] <|
       .ex [4,5,6,9] <|
       .lt _ fun aX6 =>
       .dQ 10 (default:Int) _ [] (aFR K a0 aX6) (fun _=>rfl) fun aMv =>
       .dQ 11 (default:Int) _ [] (aFP K a0 aMv) (fun _=>rfl) fun aPn =>
       .fk 12 <|
       .ob 999999 0 17 (El.b9 E3 [aPn] rfl rfl) <|
       .tl [13,14,15,16] <|
       .ck _ <|
       .ap 6 3 18 50 E3 ((eD.1).dW) [aPn] <|
       .nil [0,1,2,3,4,5,6,7,8,9,18,14,15,16,10] _) (
       .lt _ fun a2g =>
       .ite _ (
        .ex [0,1,2,3,5,6] <|
        .tx [9,10,11,12] <|
        .ex [4,7] <|
        .lt _ fun aHn =>
        .fk 8 <|
        .ob 999999 0 17 (El.b9 E3 [aHn] rfl rfl) <|
        .tl [9,10,11,12] <|
        .ck _ <|
        .ap 8 3 18 67 E3 ((eD.1).b8) [aHn] <|
        .nil [0,1,2,3,4,5,6,7,8,9,13,18,15,16,10] _) (
        .lt _ fun aMw =>
        .ite _ (
         .ex [0,1,2,3] <|
         .tx [7,8,9,10] <|
         .ex [4,5] <|
         .fk 6 <|
         .ob 999999 0 17 (El.b9 fC [(⟨aEi,(gd x1 eD.2).iP,(((((gd x1 eD.2).cB).bU):Int) == 2)⟩:gV)] rfl rfl) <|
         .tl [7,8,9,10] <|
         .ck _ <|
         .ap 10 3 18 81 fC ((eD.1).fY) [(⟨aEi,(gd x1 eD.2).iP,(((((gd x1 eD.2).cB).bU):Int) == 2)⟩:gV)] <|
         .nil [0,1,2,3,4,5,6,7,8,9,13,14,18,16,10] _) (
         .lt _ fun a2h =>
         .ite _ (
          .ex [0,1,2,3] <|
          .tx [7,8,9,10] <|
          .ex [4,5] <|
          .fk 6 <|
          .ob 999999 0 17 (El.b9 fC [(⟨aEi,(gd x1 eD.2).iP,(((((gd x1 eD.2).cB).bU):Int) == 2)⟩:gV)] rfl rfl) <|
          .tl [7,8,9,10] <|
          .ck _ <|
          .ap 12 3 18 95 fC ((eD.1).eP) [(⟨aEi,(gd x1 eD.2).iP,(((((gd x1 eD.2).cB).bU):Int) == 2)⟩:gV)] <|
          .nil [0,1,2,3,4,5,6,7,8,9,13,14,15,18,10] _) (
          .nil [0,1,2,3,4,5,6,7,8,9,13,14,15,16,10] _))))) fun aTJ =>
     .nil [0,1,2,3,4,5,6,7,8,9,10,11,12,13,14] _) fun aTK =>
    .nil [0,1,2,3,4,5,6,7,8,9,10,11,12,13,14] _) (
    .ret [0,1,2,3,4,5,6,7,8,9,10,11,12,13] _)) fun wR =>
  .mv 1000000 0 1 <|
  .mv 1000000 0 2 <|
  .mv 1000000 0 3 <|
  .mv 1000000 0 5 <|
  .mv 1000000 0 9 <|
  .nil [0,1,2,3,4,5,6,7,8,9,14,15,16,10,17,11,12,13,18] _)
end Go.Proofs.YtdbfbedholdjaaaGreat
