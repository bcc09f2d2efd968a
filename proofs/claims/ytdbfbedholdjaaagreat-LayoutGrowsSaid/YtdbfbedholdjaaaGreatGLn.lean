/- No conditions. -/
import Derived.Test.YtdbfbedholdjaaaGreatGLH
import Derived.Test.YtdbfbedholdjaaaGreatGBD
import Derived.Test.YtdbfbedholdjaaaGreatProg
set_option linter.unusedVariables false
set_option linter.unusedSimpArgs false
set_option linter.unusedSectionVars false
namespace Go.Proofs.YtdbfbedholdjaaaGreat
open Go Go.Proofs Go.Dl
variable [dK]
set_option maxRecDepth 100000
set_option maxHeartbeats 4000000
def F81 (K:Nat) (a0:wO) (a1:Bytes):Option ((Int × Err × wO) ⊕ (Int × Err × wO)) :=
 ((bV (aUl K a0)).bind (fun r1=>(bW [room ((r1.jH.length+a1.length) * 1)] (some (.inl ((Int.ofNat a1.length),none,(⟨r1.uV,(r1.jH++a1)⟩:wO)))))))
theorem aWj (K:Nat) (a0:wO) (a1:Bytes):bS Tryz.prog 81 [.c (.ptr 0 0 0),.c (.str a1)] [.cells [.self 121 a0.uV 0,.own 1 a0.jH.length],E5.row a0.jH] (bV (F81 K a0 a1)) (fun r=>.kC [.c (.val (.int .i64 r.1)),.c (aQK r.2.1)]) (fun r=>[.cells [.self 121 r.2.2.uV 0,.own 2 r.2.2.jH.length],.dead,E5.row r.2.2.jH]):=by
 refine bS.it Tryz.f81 (fun r=>⟨[sI 4 r.1,(5,.c (aQK r.2.1))],[.cells [.self 121 r.2.2.uV 0,.own 2 r.2.2.jH.length],.dead,E5.row r.2.2.jH],[],2⟩) ?_
 unfold F81
 exact Ref.pt (
  .call [0,1] (aQM _ _) fun r1 =>
  .ck _ <|
  .ob 2 3 2 (x:=.row 5 1 (r1.jH.length+a1.length) fun i j=>bif Nat.blt i r1.jH.length then E5.at r1.jH i j else (fun i _=>.val (.int .u8 (a1.getD i 0).toNat)) (i - r1.jH.length) j) (y:=(E5.row (r1.jH++a1))) (El.aBP E5 rfl r1.jH a1 rfl) <|
  .sl 2 3 14 (x:=.c (.own 2 (r1.jH.length+a1.length))) (y:=(.c (.own 2 ((r1.jH++a1).length)))) (jR.c (hO.own (by first | (simp;done) | (simp;omega) | omega))) <|
  .sl 3 0 5 (x:=.c (.val .nilIface)) (y:=(.c (aQK none))) (jR.c (aMo)) <|
  .ret [0,1,2] _)
def F36 (K:Nat) (a0:(List fE)):Option ((Bytes) ⊕ (Bytes)) :=
 (bP (bN ((iter K (fun (u44:Bool × (List UInt8) × Int)=>(bO (decide ((u44.2.2:Int)<(Int.ofNat a0.length))) (fun (x56:Bool)=>(if x56=true then (bP (bN (bW [cY u44.2.2 a0.length] ((cF true (bV (F83 K ((a0.getD (u44.2.2:Int).toNat default).cO))) default).bind (fun r62=>((cF true (bV (F84 K ((a0.getD (u44.2.2:Int).toNat default).cO))) default).bind (fun r63=>((cF true (bV (F82 K r62 (uR r63 10000))) default).bind (fun r64=>((bV (F81 K (⟨u44.1,u44.2.1⟩:wO) r64)).bind (fun r65=>(some (.inr (r65.2.2.uV,r65.2.2.jH))))))))))))) (fun (u61:Bool × (List UInt8))=>(some (.inr (u61.1,u61.2,(IntKind.i64.wrap (u44.2.2+1))))))) else (some (.inl (Sum.inl (u44.1,u44.2.1)))))))) (false,[],0)).map .inl)) (fun (u33:Bool × (List UInt8))=>((bV (F85 K (⟨u33.1,u33.2⟩:wO))).bind (fun r66=>(some (.inl (r66)))))))
theorem zX (K:Nat) (a0:(List fE)):bS Tryz.prog 36 [.c (eX.tree a0)] [] (bV (F36 K a0)) (fun r=>.c (.str r)) (fun r=>[]):=by
 refine bS.it Tryz.f36 (fun r=>⟨[sS 2 r],[],[],0⟩) ?_
 unfold F36
 exact Ref.pt (
  .aDx [] 1 (rg (cd (bd Tryz.f36) [1,0])) ((rg (cd (bd Tryz.f36) [1,0])).toList.drop 0) [(cd (bd Tryz.f36) [1,1])] ⟨[(0,.c (eX.tree a0))],[],[],0⟩ (by
   refine eF.aKS (d:=3) (t:=121) (cl:=[.nil]) 0 1 (by kernel_rfl) (by kernel_rfl) ?_
   exact eF.pt (id:=1) (
    .bk 0 (fun u33=>⟨[sP 3 0 0 0],[.cells [.self 121 u33.1 0,.own 1 u33.2.length],E5.row u33.2],[],0⟩) (
     .adc 2 0 0 1 E5.ty E5.w (E5.at []) <|
     .lp [0,1] (fun u44=>⟨[sP 3 0 0 0,(6,.c (eX.tree a0)),sI 7 (Int.ofNat a0.length),sI 8 u44.2.2],[.cells [.self 121 u44.1 0,.own 1 u44.2.1.length],E5.row u44.2.1],[],0⟩) fun u44 =>
     .lt _ fun x56 =>
     .ite _ (
      .bk 1 (fun u61=>⟨[sP 3 0 0 0,(6,.c (eX.tree a0)),sI 7 (Int.ofNat a0.length),sI 8 u44.2.2],[.cells [.self 121 u61.1 0,.own 1 u61.2.length],E5.row u61.2],[],0⟩) (
       .ck _ <|
       .ex [0,3] <|
       .tx [8] <|
       .ex [1,4] <|
       .eH 2 (default:Bytes) _ [] (aVU K ((gd a0 u44.2.2).cO)) (fun _=>rfl) fun r62 =>
       .eH 5 (default:Int) _ [] (aFj K ((gd a0 u44.2.2).cO)) (fun _=>rfl) fun r63 =>
       .ex [6] <|
       .eH 7 (default:Bytes) _ [] (aUn K r62 (uR r63 10000)) (fun _=>rfl) fun r64 =>
       .tl [8] <|
       .call [0,1] (aWj _ _ _) fun r65 =>
       .nil [0,3] _) fun u61 =>
      .nil [0,1] _) (
      .ret [0,1] _)) fun u33 =>
    .call [0,1] (aUm _ _) fun r66 =>
    .ret [] _)))
def F39 (K:Nat) (a0:iT):Option ((Bytes) ⊕ (Bytes)) :=
 ((cF true (bV (F36 K a0.cN)) default).bind (fun r1=>((cF true (bV (F86 K r1 ((a0.eY.bR:Int) != 0))) default).bind (fun r2=>(some (.inl (r2)))))))
theorem aOy (K:Nat) (a0:iT):bS Tryz.prog 39 [.agg (j3.cs a0)] [] (bV (F39 K a0)) (fun r=>.c (.str r)) (fun r=>[]):=by
 refine bS.it Tryz.f39 (fun r=>⟨[sS 2 r],[],[],0⟩) ?_
 unfold F39
 exact Ref.pt (
  .ex [0,3,4] <|
  .tx [] <|
  .ex [1,5,6] <|
  .eH 2 (default:Bytes) _ [] (zX K a0.cN) (fun _=>rfl) fun r1 =>
  .eH 7 (default:Bytes) _ [] (aVY K r1 ((a0.eY.bR:Int) != 0)) (fun _=>rfl) fun r2 =>
  .ex [8] <|
  .ret [] _)
def F44 (K:Nat) (a0:cM) (a1:dR):Option ((uF) ⊕ (uF)) :=
 (if (decide ((a1.dJ:Int)<0))=true then (some (.inl ((⟨(-1),([]:Bytes),([]:Bytes),false,0,[]⟩:uF)))) else (bW [cY a1.c6 a0.bM.length,cY a1.dJ ((a0.bM.getD (a1.c6:Int).toNat default).bQ).length] (bO ((((a0.bM.getD (a1.c6:Int).toNat default).bQ).getD (a1.dJ:Int).toNat default).cN) (fun (x2:(List fE))=>(bO ((((a0.bM.getD (a1.c6:Int).toNat default).bQ).getD (a1.dJ:Int).toNat default).cH) (fun (x3:(List fE))=>(bO (((((((a0.bM.getD (a1.c6:Int).toNat default).bQ).getD (a1.dJ:Int).toNat default).eY).bR):Int) != 0) (fun (x4:Bool)=>((cF true (bV (F11 K a0 a1.c6)) default).bind (fun r5=>((cF true (bV (F36 K x2)) default).bind (fun r6=>((cF true (bV (F36 K x3)) default).bind (fun r7=>(some (.inl ((⟨r5,r6,r7,x4,0,[]⟩:uF))))))))))))))))))
theorem aWl (K:Nat) (a0:cM) (a1:dR):bS Tryz.prog 44 [.agg (dP.cs a0),.agg (eD.cs a1)] [] (bV (F44 K a0 a1)) (fun r=>.agg (zY.cs r)) (fun r=>[.cells (zY.cs r)]):=by
 refine bS.it Tryz.f44 (fun r=>⟨[sP 4 0 0 0],[.cells (zY.cs r)],[],0⟩) ?_
 unfold F44
 exact Ref.pt (
  .ite _ (
   .ok 2 0 2 5 (x:=.nil) (y:=zZ.tree []) (El.cE zZ) <|
   .ret [2] _) (
   .ex [0,2,7] <|
   .tx [12] <|
   .iU [1,3,4,5,6,8,9,10] _ <|
   .all [2,3,4,20,5] (rg (cd (bd Tryz.f44) [1,1,0])) [true,true,true,true,true,true,true,true,true,true,true,false,false] (hl []) ⟨[sP 2 0 0 0,sP 3 1 0 0,sP 4 2 0 0,sP 5 3 0 0],[.cells (dP.cs a0),.cells (eD.cs a1),.cells [iC 0,.str [],.str [],bC false,iC 0,.nil],j3.o (gd ((gd a0.bM a1.c6).bQ) a1.dJ)],[],0⟩ [.s 2,.s 3,.s 4,.s 5] <|
   .ex [1,4,7,10,11] <|
   .tx [15] <|
   .ex [0,2,5,8,12,13] <|
   .lt _ fun x2 =>
   .lt _ fun x3 =>
   .lt _ fun x4 =>
   .eH 3 (default:Int) _ [] (aIz K a0 a1.c6) (fun _=>rfl) fun r5 =>
   .eH 6 (default:Bytes) _ [] (zX K x2) (fun _=>rfl) fun r6 =>
   .eH 9 (default:Bytes) _ [] (zX K x3) (fun _=>rfl) fun r7 =>
   .ex [14] <|
   .tl [15] <|
   .ok 4 0 2 5 (x:=.nil) (y:=zZ.tree []) (El.cE zZ) <|
   .ret [2] _))
def F17 (K:Nat) (a0:cM) (a1:Int) (a2:Bytes):Option ((Int) ⊕ (Int)) :=
 ((bV (F50 K a0 a1 3)).bind (fun r1=>(if (!r1)=true then (some (.inl ((-1)))) else (bW [cY a1 a0.bM.length] (bO ((a0.bM.getD (a1:Int).toNat default).cH) (fun (x2:(List fE))=>((bV (F51 K x2 a2)).bind (fun r3=>(if (decide ((r3:Int)<0))=true then (some (.inl ((-1)))) else ((bV (F55 K a0)).bind (fun r4=>(bP (bN ((iter K (fun (l6:Int × Int)=>(bO (decide ((l6.2:Int)<(Int.ofNat r4.length))) (fun (x60:Bool)=>(if x60=true then (bP (bN (bW [cY l6.2 r4.length] (bO (decide (((r4.getD (l6.2:Int).toNat default):Int)<a1)) (fun (x66:Bool)=>(if x66=true then (bW [cY (r4.getD (l6.2:Int).toNat default) a0.bM.length] (bO ((a0.bM.getD ((r4.getD (l6.2:Int).toNat default):Int).toNat default).cH) (fun (x67:(List fE))=>((bV (F36 K x67)).bind (fun r68=>(bO (IntKind.i64.wrap (l6.1+(Int.ofNat r68.length))) (fun (x69:Int)=>(some (.inr (x69)))))))))) else (some (.inr (l6.1)))))))) (fun (v8:Int)=>(some (.inr (v8,(IntKind.i64.wrap (l6.2+1))))))) else (some (.inl (Sum.inl (l6.1)))))))) (r3,0)).map .inl)) (fun (u37:Int)=>(some (.inl (u37))))))))))))))))
theorem aCF (K:Nat) (a0:cM) (a1:Int) (a2:Bytes):bS Tryz.prog 17 [.agg (dP.cs a0),.c (.val (.int .i64 a1)),.c (.str a2)] [] (bV (F17 K a0 a1 a2)) (fun r=>.c (.val (.int .i64 r))) (fun r=>[]):=by
 refine bS.it Tryz.f17 (fun r=>⟨[sI 6 r],[],[],0⟩) ?_
 unfold F17
 exact Ref.pt (
  .call [] (aFi _ _ _ _) fun r1 =>
  .ite _ (
   .ret [] _) (
   .ck _ <|
   .lt _ fun x2 =>
   .call [] (aV1 _ _ _) fun r3 =>
   .ite _ (
    .ret [] _) (
    .call [] (aIA _ _) fun r4 =>
    .bk 0 (fun u37=>⟨[sI 7 u37],[],[],0⟩) (
     .lp [0] (fun l6=>⟨[sI 1 a1,sP 3 0 0 0,sI 7 l6.1,(25,.c (E3.tree r4)),sI 26 (Int.ofNat r4.length),sI 27 l6.2],[.cells (dP.cs a0)],[],0⟩) fun l6 =>
     .lt _ fun x60 =>
     .ite _ (
      .bk 1 (fun v8=>⟨[sI 1 a1,sP 3 0 0 0,sI 7 v8,(25,.c (E3.tree r4)),sI 26 (Int.ofNat r4.length),sI 27 l6.2],[.cells (dP.cs a0)],[],0⟩) (
       .ck _ <|
       .lt _ fun x66 =>
       .ite _ (
        .ck _ <|
        .lt _ fun x67 =>
        .call [] (zX _ _) fun r68 =>
        .lt _ fun x69 =>
        .nil [0] _) (
        .nil [0] _)) fun v8 =>
      .nil [0] _) (
      .ret [] _)) fun u37 =>
    .ret [] _)))
def F41 (K:Nat) (a0:cM) (a1:Int) (a2:gK):Option ((gK) ⊕ (gK)) :=
 (bW [cY a1 a0.bM.length] (bO ((a0.bM.getD (a1:Int).toNat default).cH) (fun (x1:(List fE))=>(bO (Int.ofNat ((a0.bM.getD (a1:Int).toNat default).cH).length) (fun (x2:Int)=>(bP (bN ((iter K (fun (dX:gK × Int)=>(if (decide ((dX.2:Int)<x2))=true then (bP (bN (bW [cY dX.2 x1.length] ((cF true (bV (F17 K a0 a1 ((x1.getD (dX.2:Int).toNat default).cD))) default).bind (fun aDI=>(bP (bN (bO (((((x1.getD (dX.2:Int).toNat default).cO).bR):Int) == 6) (fun (aZK:Bool)=>(if aZK=true then (bO (((x1.getD (dX.2:Int).toNat default).cO).cD) (fun (aWm:Bytes)=>((cF true (bV (F42 K a0 aWm)) default).bind (fun aLw=>((cF true (bV (F11 K a0 aLw)) default).bind (fun aOz=>(bW [room ((((dX.1).eM.length)+([aOz].length)) * 8)] (some (.inr ((⟨(dX.1).cK,(dX.1).cS,(dX.1).dQ,(((dX.1).eM)++[aOz]),(dX.1).dS,(dX.1).dU,(dX.1).bY,(dX.1).iK,(dX.1).fJ,(dX.1).eV,(dX.1).fD,(dX.1).fW⟩:gK))))))))))) else (bO (((((x1.getD (dX.2:Int).toNat default).cO).bR):Int) == 7) (fun (aZL:Bool)=>(if aZL=true then (bO (((x1.getD (dX.2:Int).toNat default).cO).fLo) (fun (aOA:Int)=>(bW [room ((((dX.1).bY.length)+([aOA].length)) * 8)] (some (.inr ((⟨(dX.1).cK,(dX.1).cS,(dX.1).dQ,(dX.1).eM,(dX.1).dS,(dX.1).dU,(((dX.1).bY)++[aOA]),(dX.1).iK,(dX.1).fJ,(dX.1).eV,(dX.1).fD,(dX.1).fW⟩:gK))))))) else (bO ((((x1.getD (dX.2:Int).toNat default).kO):Int) == 1) (fun (aZM:Bool)=>(if aZM=true then (bW [room ((((dX.1).iK.length)+([(⟨aDI,(x1.getD (dX.2:Int).toNat default).lW,(((((x1.getD (dX.2:Int).toNat default).cO).bR):Int) == 2)⟩:jU)].length)) * 24)] (some (.inr ((⟨(dX.1).cK,(dX.1).cS,(dX.1).dQ,(dX.1).eM,(dX.1).dS,(dX.1).dU,(dX.1).bY,(((dX.1).iK)++[(⟨aDI,(x1.getD (dX.2:Int).toNat default).lW,(((((x1.getD (dX.2:Int).toNat default).cO).bR):Int) == 2)⟩:jU)]),(dX.1).fJ,(dX.1).eV,(dX.1).fD,(dX.1).fW⟩:gK))))) else (bO ((((x1.getD (dX.2:Int).toNat default).kO):Int) == 2) (fun (aZN:Bool)=>(if aZN=true then (bW [room ((((dX.1).fJ.length)+([(⟨aDI,(x1.getD (dX.2:Int).toNat default).lW,(((((x1.getD (dX.2:Int).toNat default).cO).bR):Int) == 2)⟩:jU)].length)) * 24)] (some (.inr ((⟨(dX.1).cK,(dX.1).cS,(dX.1).dQ,(dX.1).eM,(dX.1).dS,(dX.1).dU,(dX.1).bY,(dX.1).iK,(((dX.1).fJ)++[(⟨aDI,(x1.getD (dX.2:Int).toNat default).lW,(((((x1.getD (dX.2:Int).toNat default).cO).bR):Int) == 2)⟩:jU)]),(dX.1).eV,(dX.1).fD,(dX.1).fW⟩:gK))))) else (some (.inr ((dX.1))))))))))))))))) (fun (aSg:gK)=>(some (.inr ((aSg)))))))))) (fun (aSh:gK)=>(some (.inr ((aSh),(IntKind.i64.wrap (dX.2+1))))))) else (some (.inl (Sum.inl ((dX.1))))))) (a2,0)).map .inl)) (fun (wC:gK)=>(some (.inr ((wC)))))))))))
abbrev aOB (v0:gK):List Go.Dl.Obj:=[.cells (gK.oc (v0) 1 2 3 10 5 11 12 13 9),E30.row ((v0).cK),yA.row ((v0).cS),zY.row ((v0).dQ),.dead,E3.row ((v0).dU),.dead,.dead,.dead,E85.row ((v0).eV),E3.row ((v0).eM),E3.row ((v0).bY),iZ.row ((v0).iK),iZ.row ((v0).fJ)]
abbrev aT1 (v0:gK × Int):List Go.Dl.Obj:=[E30.row ((v0.1).cK),yA.row ((v0.1).cS),zY.row ((v0.1).dQ),.dead,E3.row ((v0.1).dU),.dead,.dead,.dead,E85.row ((v0.1).eV)]
theorem aWn (K:Nat) (a0:cM) (a1:Int) (a2:gK):bS Tryz.prog 41 [.agg (dP.cs a0),.c (.val (.int .i64 a1)),.c (.ptr 0 0 0)] [.cells (gK.oc a2 1 2 3 4 5 6 7 8 9),E30.row a2.cK,yA.row a2.cS,zY.row a2.dQ,E3.row a2.eM,E3.row a2.dU,E3.row a2.bY,iZ.row a2.iK,iZ.row a2.fJ,E85.row a2.eV] (bV (F41 K a0 a1 a2)) (fun r=>.kC []) (fun r=>[.cells (gK.oc r 10 11 12 13 14 15 16 17 18),.dead,.dead,.dead,.dead,.dead,.dead,.dead,.dead,.dead,E30.row r.cK,yA.row r.cS,zY.row r.dQ,E3.row r.eM,E3.row r.dU,E3.row r.bY,iZ.row r.iK,iZ.row r.fJ,E85.row r.eV]):=by
 refine bS.it Tryz.f41 (fun r=>⟨[],[.cells (gK.oc r 10 11 12 13 14 15 16 17 18),.dead,.dead,.dead,.dead,.dead,.dead,.dead,.dead,.dead,E30.row r.cK,yA.row r.cS,zY.row r.dQ,E3.row r.eM,E3.row r.dU,E3.row r.bY,iZ.row r.iK,iZ.row r.fJ,E85.row r.eV],[],10⟩) ?_
 unfold F41
 exact Ref.pt (
  .ck _ <|
  .lt _ fun x1 =>
  .lt _ fun x2 =>
  .bk 0 (fun wC=>⟨[],aOB wC,[],10⟩) (
   .mv 1 0 4 <|
   .mv 1 0 6 <|
   .mv 1 0 7 <|
   .mv 1 0 8 <|
   .lp [0,1,2,3,4,5,6,7,8,9,11,12,13,14,10] (fun dX=>⟨[sI 1 a1,sP 2 0 0 0,sP 3 14 0 0,(14,.c (eX.tree x1)),sI 15 x2,sI 16 dX.2],.cells (gK.oc (dX.1) 1 2 3 10 5 11 12 13 9)::(aT1 dX++[E3.row ((dX.1).eM),E3.row ((dX.1).bY),iZ.row ((dX.1).iK),iZ.row ((dX.1).fJ),.cells (dP.cs a0)]),[],10⟩) fun dX =>
   .ite _ (
    .bk 1 (fun aSh=>⟨[sI 1 a1,sP 2 0 0 0,sP 3 14 0 0,(14,.c (eX.tree x1)),sI 15 x2,sI 16 dX.2],aOB aSh++[.cells (dP.cs a0)],[],10⟩) (
     .ck _ <|
     .ex [1,2,5,7,8] <|
     .tx [13] <|
     .ex [0,3,6,9,10] <|
     .eH 4 (default:Int) _ [] (aCF K a0 a1 ((gd x1 dX.2).cD)) (fun _=>rfl) fun aDI =>
     .ex [11] <|
     .all [1,2,3,7,14,15,16,31,8] (rg (cd (bd Tryz.f41) [1,1,0,0,1,1,0,0,1,0])) [true,true,true,true,true,true,true,true,true,true,true,true,false,false] (hl []) ⟨[sI 1 a1,sP 2 0 0 0,sP 3 10 0 0,sP 7 11 0 0,sP 8 12 0 0,(14,.c (eX.tree x1)),sI 15 x2,sI 16 dX.2],.cells (gK.oc (dX.1) 1 2 3 13 5 14 15 16 9)::(aT1 dX++[.cells (dP.cs a0),eX.o (gd x1 dX.2),.cells [iC aDI,iC ((gd x1 dX.2).lW),bC (((((gd x1 dX.2).cO).bR):Int) == 2)],E3.row ((dX.1).eM),E3.row ((dX.1).bY),iZ.row ((dX.1).iK),iZ.row ((dX.1).fJ)]),[],10⟩ [.k 0,.k 1,.k 2,.k 3,.k 4,.k 5,.k 6,.k 7,.k 8,.k 9,.s 3,.s 7,.s 8,.o 0 3,.o 0 6,.o 0 7,.o 0 8] <|
     .bk 2 (fun aSg=>⟨[sI 1 a1,sP 2 0 0 0,sP 3 14 0 0,(14,.c (eX.tree x1)),sI 15 x2,sI 16 dX.2],aOB aSg++[.cells (dP.cs a0)],[],10⟩) (
      .lt _ fun aZK =>
      .ite _ (
       .ex [0,1,2,3,7,8] <|
       .tx [13,14,15,16] <|
       .ex [4,5,6,9] <|
       .lt _ fun aWm =>
       .eH 10 (default:Int) _ [] (aFl K a0 aWm) (fun _=>rfl) fun aLw =>
       .eH 11 (default:Int) _ [] (aIz K a0 aLw) (fun _=>rfl) fun aOz =>
       .fk 12 <|
       .ob 999999 0 17 (El.cB E3 [aOz] rfl rfl) <|
       .tl [13,14,15,16] <|
       .ck _ <|
       .ap 6 3 18 50 E3 ((dX.1).eM) [aOz] <|
       .nil [0,1,2,3,4,5,6,7,8,9,18,14,15,16,10] _) (
       .lt _ fun aZL =>
       .ite _ (
        .ex [0,1,2,3,5,6] <|
        .tx [9,10,11,12] <|
        .ex [4,7] <|
        .lt _ fun aOA =>
        .fk 8 <|
        .ob 999999 0 17 (El.cB E3 [aOA] rfl rfl) <|
        .tl [9,10,11,12] <|
        .ck _ <|
        .ap 8 3 18 67 E3 ((dX.1).bY) [aOA] <|
        .nil [0,1,2,3,4,5,6,7,8,9,13,18,15,16,10] _) (
        .lt _ fun aZM =>
        .ite _ (
         .ex [0,1,2,3] <|
         .tx [7,8,9,10] <|
         .ex [4,5] <|
         .fk 6 <|
         .ob 999999 0 17 (El.cB iZ [(⟨aDI,(gd x1 dX.2).lW,(((((gd x1 dX.2).cO).bR):Int) == 2)⟩:jU)] rfl rfl) <|
         .tl [7,8,9,10] <|
         .ck _ <|
         .ap 10 3 18 81 iZ ((dX.1).iK) [(⟨aDI,(gd x1 dX.2).lW,(((((gd x1 dX.2).cO).bR):Int) == 2)⟩:jU)] <|
         .nil [0,1,2,3,4,5,6,7,8,9,13,14,18,16,10] _) (
         .lt _ fun aZN =>
         .ite _ (
          .ex [0,1,2,3] <|
          .tx [7,8,9,10] <|
          .ex [4,5] <|
          .fk 6 <|
          .ob 999999 0 17 (El.cB iZ [(⟨aDI,(gd x1 dX.2).lW,(((((gd x1 dX.2).cO).bR):Int) == 2)⟩:jU)] rfl rfl) <|
          .tl [7,8,9,10] <|
          .ck _ <|
          .ap 12 3 18 95 iZ ((dX.1).fJ) [(⟨aDI,(gd x1 dX.2).lW,(((((gd x1 dX.2).cO).bR):Int) == 2)⟩:jU)] <|
          .nil [0,1,2,3,4,5,6,7,8,9,13,14,15,18,10] _) (
          .nil [0,1,2,3,4,5,6,7,8,9,13,14,15,16,10] _))))) fun aSg =>
     .nil [0,1,2,3,4,5,6,7,8,9,10,11,12,13,14] _) fun aSh =>
    .nil [0,1,2,3,4,5,6,7,8,9,10,11,12,13,14] _) (
    .ret [0,1,2,3,4,5,6,7,8,9,10,11,12,13] _)) fun wC =>
  .mv 1000000 0 1 <|
  .mv 1000000 0 2 <|
  .mv 1000000 0 3 <|
  .mv 1000000 0 5 <|
  .mv 1000000 0 9 <|
  .nil [0,1,2,3,4,5,6,7,8,9,14,15,16,10,17,11,12,13,18] _)
end Go.Proofs.YtdbfbedholdjaaaGreat
