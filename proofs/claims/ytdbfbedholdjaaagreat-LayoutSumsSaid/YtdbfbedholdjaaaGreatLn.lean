/- No conditions. -/
import Derived.Test.YtdbfbedholdjaaaGreatLH
import Derived.Test.YtdbfbedholdjaaaGreatBD
import Derived.Test.YtdbfbedholdjaaaGreatProg
set_option linter.unusedVariables false
set_option linter.unusedSimpArgs false
set_option linter.unusedSectionVars false
namespace Go.Proofs.YtdbfbedholdjaaaGreat
open Go Go.Proofs Go.Dl
variable [eC]
set_option maxRecDepth 100000
set_option maxHeartbeats 4000000
def F81 (K:Nat) (a0:zL) (a1:Bytes):Option ((Int × Err × zL) ⊕ (Int × Err × zL)) :=
 ((bU (aTs K a0)).bind (fun r1=>(bW [room ((r1.kM.length+a1.length) * 1)] (some (.inl ((Int.ofNat a1.length),none,(⟨r1.xW,(r1.kM++a1)⟩:zL)))))))
theorem aUH (K:Nat) (a0:zL) (a1:Bytes):bR Tryz.prog 81 [.c (.ptr 0 0 0),.c (.str a1)] [.cells [.self 121 a0.xW 0,.own 1 a0.kM.length],E5.row a0.kM] (bU (F81 K a0 a1)) (fun r=>.iV [.c (.val (.int .i64 r.1)),.c (aQo r.2.1)]) (fun r=>[.cells [.self 121 r.2.2.xW 0,.own 2 r.2.2.kM.length],.dead,E5.row r.2.2.kM]):=by
 refine bR.it Tryz.f81 (fun r=>⟨[sI 4 r.1,(5,.c (aQo r.2.1))],[.cells [.self 121 r.2.2.xW 0,.own 2 r.2.2.kM.length],.dead,E5.row r.2.2.kM],[],2⟩) ?_
 unfold F81
 exact Ref.pt (
  .call [0,1] (aQq _ _) fun r1 =>
  .ck _ <|
  .ob 2 3 2 (x:=.row 5 1 (r1.kM.length+a1.length) fun i j=>bif Nat.blt i r1.kM.length then E5.at r1.kM i j else (fun i _=>.val (.int .u8 (a1.getD i 0).toNat)) (i - r1.kM.length) j) (y:=(E5.row (r1.kM++a1))) (El.aC3 E5 rfl r1.kM a1 rfl) <|
  .sl 2 3 14 (x:=.c (.own 2 (r1.kM.length+a1.length))) (y:=(.c (.own 2 ((r1.kM++a1).length)))) (eG.c (eD.own (by first | (simp;done) | (simp;omega) | omega))) <|
  .sl 3 0 5 (x:=.c (.val .nilIface)) (y:=(.c (aQo none))) (eG.c (aM1)) <|
  .ret [0,1,2] _)
def F36 (K:Nat) (a0:(List fG)):Option ((Bytes) ⊕ (Bytes)) :=
 (bM (bL ((iter K (fun (u44:Bool × (List UInt8) × Int)=>(bO (decide ((u44.2.2:Int)<(Int.ofNat a0.length))) (fun (x56:Bool)=>(if x56=true then (bM (bL (bW [cS u44.2.2 a0.length] ((cK true (bU (F83 K ((a0.getD (u44.2.2:Int).toNat default).cI))) default).bind (fun r62=>((cK true (bU (F84 K ((a0.getD (u44.2.2:Int).toNat default).cI))) default).bind (fun tP=>((cK true (bU (F82 K r62 (wA tP 10000))) default).bind (fun vB=>((bU (F81 K (⟨u44.1,u44.2.1⟩:zL) vB)).bind (fun r65=>(some (.inr (r65.2.2.xW,r65.2.2.kM))))))))))))) (fun (u61:Bool × (List UInt8))=>(some (.inr (u61.1,u61.2,(IntKind.i64.wrap (u44.2.2+1))))))) else (some (.inl (Sum.inl (u44.1,u44.2.1)))))))) (false,[],0)).map .inl)) (fun (u33:Bool × (List UInt8))=>((bU (F85 K (⟨u33.1,u33.2⟩:zL))).bind (fun r66=>(some (.inl (r66)))))))
theorem nF (K:Nat) (a0:(List fG)):bR Tryz.prog 36 [.c (eU.tree a0)] [] (bU (F36 K a0)) (fun r=>.c (.str r)) (fun r=>[]):=by
 refine bR.it Tryz.f36 (fun r=>⟨[sS 2 r],[],[],0⟩) ?_
 unfold F36
 exact Ref.pt (
  .aEC [] 1 (rg (cd (bd Tryz.f36) [1,0])) ((rg (cd (bd Tryz.f36) [1,0])).toList.drop 0) [(cd (bd Tryz.f36) [1,1])] ⟨[(0,.c (eU.tree a0))],[],[],0⟩ (by
   refine cY.aLE (d:=3) (t:=121) (cl:=[.nil]) 0 1 (by kernel_rfl) (by kernel_rfl) ?_
   exact cY.pt (id:=1) (
    .bk 0 (fun u33=>⟨[sP 3 0 0 0],[.cells [.self 121 u33.1 0,.own 1 u33.2.length],E5.row u33.2],[],0⟩) (
     .adc 2 0 0 1 E5.ty E5.w (E5.at []) <|
     .lp [0,1] (fun u44=>⟨[sP 3 0 0 0,(6,.c (eU.tree a0)),sI 7 (Int.ofNat a0.length),sI 8 u44.2.2],[.cells [.self 121 u44.1 0,.own 1 u44.2.1.length],E5.row u44.2.1],[],0⟩) fun u44 =>
     .lt _ fun x56 =>
     .ite _ (
      .bk 1 (fun u61=>⟨[sP 3 0 0 0,(6,.c (eU.tree a0)),sI 7 (Int.ofNat a0.length),sI 8 u44.2.2],[.cells [.self 121 u61.1 0,.own 1 u61.2.length],E5.row u61.2],[],0⟩) (
       .ck _ <|
       .ex [0,3] <|
       .tx [8] <|
       .ex [1,4] <|
       .gB 2 (default:Bytes) _ [] (aUi K ((gd a0 u44.2.2).cI)) (fun _=>rfl) fun r62 =>
       .gB 5 (default:Int) _ [] (aFZ K ((gd a0 u44.2.2).cI)) (fun _=>rfl) fun tP =>
       .ex [6] <|
       .gB 7 (default:Bytes) _ [] (aTu K r62 (wA tP 10000)) (fun _=>rfl) fun vB =>
       .tl [8] <|
       .call [0,1] (aUH _ _ _) fun r65 =>
       .nil [0,3] _) fun u61 =>
      .nil [0,1] _) (
      .ret [0,1] _)) fun u33 =>
    .call [0,1] (aTt _ _) fun r66 =>
    .ret [] _)))
def F39 (K:Nat) (a0:iI):Option ((Bytes) ⊕ (Bytes)) :=
 ((cK true (bU (F36 K a0.cV)) default).bind (fun r1=>((cK true (bU (F86 K r1 ((a0.fH.bP:Int) != 0))) default).bind (fun r2=>(some (.inl (r2)))))))
theorem aOG (K:Nat) (a0:iI):bR Tryz.prog 39 [.agg (kT.cs a0)] [] (bU (F39 K a0)) (fun r=>.c (.str r)) (fun r=>[]):=by
 refine bR.it Tryz.f39 (fun r=>⟨[sS 2 r],[],[],0⟩) ?_
 unfold F39
 exact Ref.pt (
  .ex [0,3,4] <|
  .tx [] <|
  .ex [1,5,6] <|
  .gB 2 (default:Bytes) _ [] (nF K a0.cV) (fun _=>rfl) fun r1 =>
  .gB 7 (default:Bytes) _ [] (aUm K r1 ((a0.fH.bP:Int) != 0)) (fun _=>rfl) fun r2 =>
  .ex [8] <|
  .ret [] _)
def F44 (K:Nat) (a0:dD) (a1:dX):Option ((uW) ⊕ (uW)) :=
 (if (decide ((a1.dH:Int)<0))=true then (some (.inl ((⟨(-1),([]:Bytes),([]:Bytes),false,0,[]⟩:uW)))) else (bW [cS a1.dA a0.bK.length,cS a1.dH ((a0.bK.getD (a1.dA:Int).toNat default).bN).length] (bO ((((a0.bK.getD (a1.dA:Int).toNat default).bN).getD (a1.dH:Int).toNat default).cV) (fun (x2:(List fG))=>(bO ((((a0.bK.getD (a1.dA:Int).toNat default).bN).getD (a1.dH:Int).toNat default).cU) (fun (x3:(List fG))=>(bO (((((((a0.bK.getD (a1.dA:Int).toNat default).bN).getD (a1.dH:Int).toNat default).fH).bP):Int) != 0) (fun (x4:Bool)=>((cK true (bU (F11 K a0 a1.dA)) default).bind (fun r5=>((cK true (bU (F36 K x2)) default).bind (fun r6=>((cK true (bU (F36 K x3)) default).bind (fun r7=>(some (.inl ((⟨r5,r6,r7,x4,0,[]⟩:uW))))))))))))))))))
abbrev aOH (v0:dD) (v1:dX):List Go.Dl.Obj:=[.cells (dQ.cs v0),.cells (dS.cs v1),oX8,kT.o (gd ((gd v0.bK v1.dA).bN) v1.dH)]
abbrev aE5:List (Nat × D):=[sP 2 0 0 0,sP 3 1 0 0,sP 4 2 0 0]
theorem aUK (K:Nat) (a0:dD) (a1:dX):bR Tryz.prog 44 [.agg (dQ.cs a0),.agg (dS.cs a1)] [] (bU (F44 K a0 a1)) (fun r=>.agg (E62.cs r)) (fun r=>[.cells (E62.cs r)]):=by
 refine bR.it Tryz.f44 (fun r=>⟨[sP 4 0 0 0],[.cells (E62.cs r)],[],0⟩) ?_
 unfold F44
 exact Ref.pt (
  .ite _ (
   .ok 2 0 2 5 (x:=.nil) (y:=aOI.tree []) (El.cO aOI) <|
   .ret [2] _) (
   .esc [0,1,2] [(cd (bd Tryz.f44) [1,1,0]),(cd (bd Tryz.f44) [1,1,1])] ⟨aE5++[sB 8 (decide ((a1.dH:Int)<0))],[.cells (dQ.cs a0),.cells (dS.cs a1),oX8],[],0⟩ (by
    refine Ref.eR 3 (by kernel_rfl) (by kernel_rfl) ?_
    refine dV.fE (cR:=⟨aE5++[sP 10 0 0 0,sP 12 1 0 0,sP 17 1 0 1],[.cells (dQ.cs a0),.cells (dS.cs a1),oX8],[],0⟩) (fuel':=10) [0,2,7] [2,3,4,10,12,17] [0,1,2] rfl (by kernel_rfl) (by kernel_rfl) ?_
    refine dV.rG [12] ?_
    refine bQ.aC9 (⟨aE5++[sP 5 3 0 0],aOH a0 a1,[],0⟩) ((bO ((gd ((gd a0.bK a1.dA).bN) a1.dH).cV) (fun (x2:(List fG))=>(bO ((gd ((gd a0.bK a1.dA).bN) a1.dH).cU) (fun (x3:(List fG))=>(bO (((((gd ((gd a0.bK a1.dA).bN) a1.dH).fH).bP):Int) != 0) (fun (x4:Bool)=>((cK true (bU (F11 K a0 a1.dA)) default).bind (fun r5=>((cK true (bU (F36 K x2)) default).bind (fun r6=>((cK true (bU (F36 K x3)) default).bind (fun r7=>(some (.inl ((⟨r5,r6,r7,x4,0,[]⟩:uW))))))))))))))))) ?_ (fun hk=>?_)
    ·
     exact Ref.pt (
      .ex [1,4,7,10,11] <|
      .tx [15] <|
      .ex [0,2,5,8,12,13] <|
      .lt _ fun x2 =>
      .lt _ fun x3 =>
      .lt _ fun x4 =>
      .gB 3 (default:Int) _ [] (aIY K a0 a1.dA) (fun _=>rfl) fun r5 =>
      .gB 6 (default:Bytes) _ [] (nF K x2) (fun _=>rfl) fun r6 =>
      .gB 9 (default:Bytes) _ [] (nF K x3) (fun _=>rfl) fun r7 =>
      .ex [14] <|
      .tl [15] <|
      .ok 4 0 2 5 (x:=.nil) (y:=aOI.tree []) (El.cO aOI) <|
      .ret [2] _)
    ·
     refine bQ.v1 (fuel':=2) [cS a1.dA a0.bK.length,cS a1.dH ((gd a0.bK a1.dA).bN).length] [1,3,4,5,6,8,9,10] [2,3,4,20] [0,1,2] ?_
     refine bQ.cP (fuel':=1) 11 (by kernel_rfl) ?_
     refine cE.kC (cR:=⟨aE5++[sP 5 3 0 0,(20,.agg (kT.cs (gd ((gd a0.bK a1.dA).bN) a1.dH)))],[.cells (dQ.cs a0),.cells (dS.cs a1),oX8,oX5],[],0⟩) 11 [2,3,4,5,20] [0,1,2,3] (by kernel_rfl) (by kernel_rfl) ?_
     refine bQ.qM [12] rfl (by kernel_rfl) ?_
     refine cY.en 0 1 ⟨aE5++[sP 5 3 0 0],aOH a0 a1,[],0⟩ [2,3,4,5] [0,1,2,3] ?_
     refine Ref.ck ⟨aE5++[sP 5 3 0 0],aOH a0 a1,[],0⟩ [2,3,4,5] [0,1,2,3] ?_
     exact hk)))
def F17 (K:Nat) (a0:dD) (a1:Int) (a2:Bytes):Option ((Int) ⊕ (Int)) :=
 ((bU (F50 K a0 a1 3)).bind (fun r1=>(if (!r1)=true then (some (.inl ((-1)))) else (bW [cS a1 a0.bK.length] (bO ((a0.bK.getD (a1:Int).toNat default).cU) (fun (x2:(List fG))=>((bU (F51 K x2 a2)).bind (fun r3=>(if (decide ((r3:Int)<0))=true then (some (.inl ((-1)))) else ((bU (F55 K a0)).bind (fun r4=>(bM (bL ((iter K (fun (gZ:Int × Int)=>(bO (decide ((gZ.2:Int)<(Int.ofNat r4.length))) (fun (x60:Bool)=>(if x60=true then (bM (bL (bW [cS gZ.2 r4.length] (bO (decide (((r4.getD (gZ.2:Int).toNat default):Int)<a1)) (fun (x66:Bool)=>(if x66=true then (bW [cS (r4.getD (gZ.2:Int).toNat default) a0.bK.length] (bO ((a0.bK.getD ((r4.getD (gZ.2:Int).toNat default):Int).toNat default).cU) (fun (x67:(List fG))=>((bU (F36 K x67)).bind (fun r68=>(bO (IntKind.i64.wrap (gZ.1+(Int.ofNat r68.length))) (fun (x69:Int)=>(some (.inr (x69)))))))))) else (some (.inr (gZ.1)))))))) (fun (rW:Int)=>(some (.inr (rW,(IntKind.i64.wrap (gZ.2+1))))))) else (some (.inl (Sum.inl (gZ.1)))))))) (r3,0)).map .inl)) (fun (u37:Int)=>(some (.inl (u37))))))))))))))))
theorem aI2 (K:Nat) (a0:dD) (a1:Int) (a2:Bytes):bR Tryz.prog 17 [.agg (dQ.cs a0),.c (.val (.int .i64 a1)),.c (.str a2)] [] (bU (F17 K a0 a1 a2)) (fun r=>.c (.val (.int .i64 r))) (fun r=>[]):=by
 refine bR.it Tryz.f17 (fun r=>⟨[sI 6 r],[],[],0⟩) ?_
 unfold F17
 exact Ref.pt (
  .call [] (aIX _ _ _ _) fun r1 =>
  .ite _ (
   .ret [] _) (
   .ck _ <|
   .lt _ fun x2 =>
   .call [] (aUp _ _ _) fun r3 =>
   .ite _ (
    .ret [] _) (
    .call [] (aOi _ _) fun r4 =>
    .bk 0 (fun u37=>⟨[sI 7 u37],[],[],0⟩) (
     .lp [0] (fun gZ=>⟨[sI 1 a1,sP 3 0 0 0,sI 7 gZ.1,(25,.c (E3.tree r4)),sI 26 (Int.ofNat r4.length),sI 27 gZ.2],[.cells (dQ.cs a0)],[],0⟩) fun gZ =>
     .lt _ fun x60 =>
     .ite _ (
      .bk 1 (fun rW=>⟨[sI 1 a1,sP 3 0 0 0,sI 7 rW,(25,.c (E3.tree r4)),sI 26 (Int.ofNat r4.length),sI 27 gZ.2],[.cells (dQ.cs a0)],[],0⟩) (
       .ck _ <|
       .lt _ fun x66 =>
       .ite _ (
        .ck _ <|
        .lt _ fun x67 =>
        .call [] (nF _ _) fun r68 =>
        .lt _ fun x69 =>
        .nil [0] _) (
        .nil [0] _)) fun rW =>
      .nil [0] _) (
      .ret [] _)) fun u37 =>
    .ret [] _)))
def F41 (K:Nat) (a0:dD) (a1:Int) (a2:j6):Option ((j6) ⊕ (j6)) :=
 (bW [cS a1 a0.bK.length] (bO ((a0.bK.getD (a1:Int).toNat default).cU) (fun (x1:(List fG))=>(bO (Int.ofNat ((a0.bK.getD (a1:Int).toNat default).cU).length) (fun (x2:Int)=>(bM (bL ((iter K (fun (bT:j6 × Int)=>(if (decide ((bT.2:Int)<x2))=true then (bM (bL (bW [cS bT.2 x1.length] ((cK true (bU (F17 K a0 a1 ((x1.getD (bT.2:Int).toNat default).cG))) default).bind (fun jC=>(bM (bL (bO (((((x1.getD (bT.2:Int).toNat default).cI).bP):Int) == 6) (fun (aOJ:Bool)=>(if aOJ=true then (bO (((x1.getD (bT.2:Int).toNat default).cI).cG) (fun (aI3:Bytes)=>((cK true (bU (F42 K a0 aI3)) default).bind (fun aG6=>((cK true (bU (F11 K a0 aG6)) default).bind (fun wK=>(bW [room ((((bT.1).eO.length)+([wK].length)) * 8)] (some (.inr ((⟨(bT.1).dZ,(bT.1).dW,(bT.1).fO,(((bT.1).eO)++[wK]),(bT.1).fM,(bT.1).fY,(bT.1).bX,(bT.1).jN,(bT.1).fV,(bT.1).kJ,(bT.1).fD,(bT.1).fW⟩:j6))))))))))) else (bO (((((x1.getD (bT.2:Int).toNat default).cI).bP):Int) == 7) (fun (aOK:Bool)=>(if aOK=true then (bO (((x1.getD (bT.2:Int).toNat default).cI).fLo) (fun (uJ:Int)=>(bW [room ((((bT.1).bX.length)+([uJ].length)) * 8)] (some (.inr ((⟨(bT.1).dZ,(bT.1).dW,(bT.1).fO,(bT.1).eO,(bT.1).fM,(bT.1).fY,(((bT.1).bX)++[uJ]),(bT.1).jN,(bT.1).fV,(bT.1).kJ,(bT.1).fD,(bT.1).fW⟩:j6))))))) else (bO ((((x1.getD (bT.2:Int).toNat default).l9):Int) == 1) (fun (aOL:Bool)=>(if aOL=true then (bW [room ((((bT.1).jN.length)+([(⟨jC,(x1.getD (bT.2:Int).toNat default).gF,(((((x1.getD (bT.2:Int).toNat default).cI).bP):Int) == 2)⟩:gJ)].length)) * 24)] (some (.inr ((⟨(bT.1).dZ,(bT.1).dW,(bT.1).fO,(bT.1).eO,(bT.1).fM,(bT.1).fY,(bT.1).bX,(((bT.1).jN)++[(⟨jC,(x1.getD (bT.2:Int).toNat default).gF,(((((x1.getD (bT.2:Int).toNat default).cI).bP):Int) == 2)⟩:gJ)]),(bT.1).fV,(bT.1).kJ,(bT.1).fD,(bT.1).fW⟩:j6))))) else (bO ((((x1.getD (bT.2:Int).toNat default).l9):Int) == 2) (fun (aOM:Bool)=>(if aOM=true then (bW [room ((((bT.1).fV.length)+([(⟨jC,(x1.getD (bT.2:Int).toNat default).gF,(((((x1.getD (bT.2:Int).toNat default).cI).bP):Int) == 2)⟩:gJ)].length)) * 24)] (some (.inr ((⟨(bT.1).dZ,(bT.1).dW,(bT.1).fO,(bT.1).eO,(bT.1).fM,(bT.1).fY,(bT.1).bX,(bT.1).jN,(((bT.1).fV)++[(⟨jC,(x1.getD (bT.2:Int).toNat default).gF,(((((x1.getD (bT.2:Int).toNat default).cI).bP):Int) == 2)⟩:gJ)]),(bT.1).kJ,(bT.1).fD,(bT.1).fW⟩:j6))))) else (some (.inr ((bT.1))))))))))))))))) (fun (aMe:j6)=>(some (.inr ((aMe)))))))))) (fun (aRu:j6)=>(some (.inr ((aRu),(IntKind.i64.wrap (bT.2+1))))))) else (some (.inl (Sum.inl ((bT.1))))))) (a2,0)).map .inl)) (fun (yZ:j6)=>(some (.inr ((yZ)))))))))))
abbrev jT (v0:j6 × Int):List Go.Dl.Obj:=[E30.row ((v0.1).dZ),E56.row ((v0.1).dW),E62.row ((v0.1).fO),.dead,E3.row ((v0.1).fY),.dead,.dead,.dead,E85.row ((v0.1).kJ)]
abbrev kP (v0:j6 × Int):List Go.Dl.Obj:=[E3.row ((v0.1).eO),E3.row ((v0.1).bX),iZ.row ((v0.1).jN),iZ.row ((v0.1).fV)]
abbrev pN (v0:Int) (v1:(List fG)) (v2:Int) (v3:j6 × Int):List (Nat × D):=[sI 1 v0,sP 2 0 0 0,sP 3 10 0 0,(14,.c (eU.tree v1)),sI 15 v2,sI 16 v3.2]
abbrev aON (v0:j6):List Go.Dl.Obj:=[.cells (j6.oc (v0) 1 2 3 10 5 11 12 13 9),E30.row ((v0).dZ),E56.row ((v0).dW),E62.row ((v0).fO),.dead,E3.row ((v0).fY),.dead,.dead,.dead,E85.row ((v0).kJ),E3.row ((v0).eO),E3.row ((v0).bX),iZ.row ((v0).jN),iZ.row ((v0).fV)]
abbrev aAt (v0:Int) (v1:(List fG)) (v2:j6 × Int):List Go.Dl.Obj:=[.cells [iC v0,iC ((gd v1 v2.2).gF),bC (((((gd v1 v2.2).cI).bP):Int) == 2)]]
abbrev rX (v0:j6 × Int):List Go.Dl.Obj:=[.cells (j6.oc (v0.1) 1 2 3 11 5 12 13 14 9)]
abbrev qQ (v0:(List fG)) (v1:Int) (v2:j6 × Int):List (Nat × D):=[(14,.c (eU.tree v0)),sI 15 v1,sI 16 v2.2]
abbrev aG7 (v0:Int):List (Nat × D):=[sI 1 v0,sP 2 0 0 0,sP 3 10 0 0,sP 7 11 0 0,sP 8 12 0 0]
abbrev wL (v0:dD) (v1:(List fG)) (v2:j6 × Int):List Go.Dl.Obj:=[.cells (dQ.cs v0),eU.o (gd v1 v2.2)]
theorem aUM (K:Nat) (a0:dD) (a1:Int) (a2:j6):bR Tryz.prog 41 [.agg (dQ.cs a0),.c (.val (.int .i64 a1)),.c (.ptr 0 0 0)] [.cells (j6.oc a2 1 2 3 4 5 6 7 8 9),E30.row a2.dZ,E56.row a2.dW,E62.row a2.fO,E3.row a2.eO,E3.row a2.fY,E3.row a2.bX,iZ.row a2.jN,iZ.row a2.fV,E85.row a2.kJ] (bU (F41 K a0 a1 a2)) (fun r=>.iV []) (fun r=>[.cells (j6.oc r 10 11 12 13 14 15 16 17 18),.dead,.dead,.dead,.dead,.dead,.dead,.dead,.dead,.dead,E30.row r.dZ,E56.row r.dW,E62.row r.fO,E3.row r.eO,E3.row r.fY,E3.row r.bX,iZ.row r.jN,iZ.row r.fV,E85.row r.kJ]):=by
 refine bR.it Tryz.f41 (fun r=>⟨[],[.cells (j6.oc r 10 11 12 13 14 15 16 17 18),.dead,.dead,.dead,.dead,.dead,.dead,.dead,.dead,.dead,E30.row r.dZ,E56.row r.dW,E62.row r.fO,E3.row r.eO,E3.row r.fY,E3.row r.bX,iZ.row r.jN,iZ.row r.fV,E85.row r.kJ],[],10⟩) ?_
 unfold F41
 exact Ref.pt (
  .ck _ <|
  .lt _ fun x1 =>
  .lt _ fun x2 =>
  .bk 0 (fun yZ=>⟨[],aON yZ,[],10⟩) (
   .mv 1 0 4 <|
   .mv 1 0 6 <|
   .mv 1 0 7 <|
   .mv 1 0 8 <|
   .lp [0,1,2,3,4,5,6,7,8,9,11,12,13,14,10] (fun bT=>⟨sI 1 a1::sP 2 0 0 0::sP 3 14 0 0::qQ x1 x2 bT,.cells (j6.oc (bT.1) 1 2 3 10 5 11 12 13 9)::(jT bT++kP bT++[.cells (dQ.cs a0)]),[],10⟩) fun bT =>
   .ite _ (
    .bk 1 (fun aRu=>⟨sI 1 a1::sP 2 0 0 0::sP 3 14 0 0::qQ x1 x2 bT,aON aRu++[.cells (dQ.cs a0)],[],10⟩) (
     .ck _ <|
     .esc [0,1,2,3,4,5,6,7,8,9,10,11,12,13,14,15] [(cd (bd Tryz.f41) [1,1,0,0,1,1,0,0,1,0]),(cd (bd Tryz.f41) [1,1,0,0,1,1,0,0,1,1])] ⟨sI 1 a1::sP 2 0 0 0::sP 3 14 0 0::sP 7 15 0 0::qQ x1 x2 bT,.cells (j6.oc (bT.1) 1 2 3 10 5 11 12 13 9)::(jT bT++kP bT++wL a0 x1 bT),[],10⟩ (by
      refine Ref.eR 4 (by kernel_rfl) (by kernel_rfl) ?_
      refine dV.fE (cR:=⟨sI 1 a1::sP 2 0 0 0::sP 3 14 0 0::sP 7 15 0 0::(qQ x1 x2 bT++[sI 21 a1,sP 22 15 0 0,sP 25 15 0 7,sP 28 15 0 1]),.cells (j6.oc (bT.1) 1 2 3 10 5 11 12 13 9)::(jT bT++kP bT++wL a0 x1 bT),[],10⟩) (fuel':=9) [1,2,5,7,8] [1,2,3,7,14,15,16,21,22,25,28] [0,1,2,3,4,5,6,7,8,9,10,11,12,13,14,15] rfl (by kernel_rfl) (by kernel_rfl) ?_
      refine dV.rG [13] ?_
      refine bQ.iD (fun (jC:Int)=>⟨aG7 a1++qQ x1 x2 bT,.cells (j6.oc (bT.1) 1 2 3 13 5 14 15 16 9)::(jT bT++wL a0 x1 bT++aAt jC x1 bT++kP bT),[],10⟩) (fun (jC:Int)=>(bM (bL (bO (((((gd x1 bT.2).cI).bP):Int) == 6) (fun (aOJ:Bool)=>(if aOJ=true then (bO (((gd x1 bT.2).cI).cG) (fun (aI3:Bytes)=>((cK true (bU (F42 K a0 aI3)) default).bind (fun aG6=>((cK true (bU (F11 K a0 aG6)) default).bind (fun wK=>(bW [room ((((bT.1).eO.length)+([wK].length)) * 8)] (some (.inr ((⟨(bT.1).dZ,(bT.1).dW,(bT.1).fO,(((bT.1).eO)++[wK]),(bT.1).fM,(bT.1).fY,(bT.1).bX,(bT.1).jN,(bT.1).fV,(bT.1).kJ,(bT.1).fD,(bT.1).fW⟩:j6))))))))))) else (bO (((((gd x1 bT.2).cI).bP):Int) == 7) (fun (aOK:Bool)=>(if aOK=true then (bO (((gd x1 bT.2).cI).fLo) (fun (uJ:Int)=>(bW [room ((((bT.1).bX.length)+([uJ].length)) * 8)] (some (.inr ((⟨(bT.1).dZ,(bT.1).dW,(bT.1).fO,(bT.1).eO,(bT.1).fM,(bT.1).fY,(((bT.1).bX)++[uJ]),(bT.1).jN,(bT.1).fV,(bT.1).kJ,(bT.1).fD,(bT.1).fW⟩:j6))))))) else (bO ((((gd x1 bT.2).l9):Int) == 1) (fun (aOL:Bool)=>(if aOL=true then (bW [room ((((bT.1).jN.length)+([(⟨jC,(gd x1 bT.2).gF,(((((gd x1 bT.2).cI).bP):Int) == 2)⟩:gJ)].length)) * 24)] (some (.inr ((⟨(bT.1).dZ,(bT.1).dW,(bT.1).fO,(bT.1).eO,(bT.1).fM,(bT.1).fY,(bT.1).bX,(((bT.1).jN)++[(⟨jC,(gd x1 bT.2).gF,(((((gd x1 bT.2).cI).bP):Int) == 2)⟩:gJ)]),(bT.1).fV,(bT.1).kJ,(bT.1).fD,(bT.1).fW⟩:j6))))) else (bO ((((gd x1 bT.2).l9):Int) == 2) (fun (aOM:Bool)=>(if aOM=true then (bW [room ((((bT.1).fV.length)+([(⟨jC,(gd x1 bT.2).gF,(((((gd x1 bT.2).cI).bP):Int) == 2)⟩:gJ)].length)) * 24)] (some (.inr ((⟨(bT.1).dZ,(bT.1).dW,(bT.1).fO,(bT.1).eO,(bT.1).fM,(bT.1).fY,(bT.1).bX,(bT.1).jN,(((bT.1).fV)++[(⟨jC,(gd x1 bT.2).gF,(((((gd x1 bT.2).cI).bP):Int) == 2)⟩:gJ)]),(bT.1).kJ,(bT.1).fD,(bT.1).fW⟩:j6))))) else (some (.inr ((bT.1))))))))))))))))) (fun (aMe:j6)=>(some (.inr ((aMe))))))) (fun jC=>?_) (fun hk=>?_)
      ·
       exact Ref.pt (
        .bk 2 (fun aMe=>⟨sI 1 a1::sP 2 0 0 0::sP 3 14 0 0::qQ x1 x2 bT,aON aMe++[.cells (dQ.cs a0)],[],10⟩) (
         .lt _ fun aOJ =>
         .ite _ (
          .esc [0,1,2,3,4,5,6,7,8,9,10,11,12,13,14,15,16] [(cd (cd (bd Tryz.f41) [1,1,0,0,1,1,0,0,1,1,0,1]) [0])] ⟨aG7 a1++qQ x1 x2 bT++[sB 32 aOJ],.cells (j6.oc (bT.1) 1 2 3 13 5 14 15 16 9)::(jT bT++wL a0 x1 bT++aAt jC x1 bT++kP bT),[],10⟩ (by
           refine Ref.eR 6 (by kernel_rfl) (by kernel_rfl) ?_
           refine dV.fE (cR:=⟨pN a1 x1 x2 bT++[sP 37 0 0 0,sP 40 0 0 3,sP 45 11 0 4],.cells (j6.oc (bT.1) 1 2 3 12 5 13 14 15 9)::(jT bT++wL a0 x1 bT++kP bT),[],10⟩) (fuel':=11) [0,1,2,3,7,8] [1,2,3,14,15,16,37,40,45] [0,1,2,3,4,5,6,7,8,9,10,11,13,14,15,16] rfl (by kernel_rfl) (by kernel_rfl) ?_
           refine dV.rG [13,14,15,16] ?_
           refine bQ.fE (cR:=⟨pN a1 x1 x2 bT++[sP 37 0 0 0,(41,.c (.own 11 ((bT.1).eO.length))),(42,.agg (dQ.cs a0)),(43,.agg (dQ.cs a0)),sS 46 (((gd x1 bT.2).cI).cG)],rX bT++(jT bT++(.cells (dQ.cs a0)::kP bT)),[],10⟩) (fuel':=7) [4,5,6,9] [1,2,3,14,15,16,37,41,42,43,46] [0,1,2,3,4,5,6,7,8,9,10,12,13,14,15] rfl (by kernel_rfl) (by kernel_rfl) ?_
           refine bQ.aGG (stf:=fun aI3=>⟨pN a1 x1 x2 bT++[sP 37 0 0 0,(41,.c (.own 11 ((bT.1).eO.length))),(42,.agg (dQ.cs a0)),(43,.agg (dQ.cs a0)),sS 46 aI3],rX bT++(jT bT++(.cells (dQ.cs a0)::kP bT)),[],10⟩) (by kernel_rfl) (fun aI3=>?_)
           refine bQ.lV (t:=47) (g:=[]) (b:=true) (fuel':=6) 10 [] (default:Int) rfl (by kernel_rfl) (by kernel_rfl) (aF0 K a0 aI3) (fun _=>rfl) (fun aG6=>?_)
           refine bQ.lV (t:=48) (g:=[]) (b:=true) (fuel':=5) 11 [] (default:Int) rfl (by kernel_rfl) (by kernel_rfl) (aIY K a0 aG6) (fun _=>rfl) (fun wK=>?_)
           refine bQ.nC (cR:=⟨pN a1 x1 x2 bT++[sP 37 0 0 0,(41,.c (.own 11 ((bT.1).eO.length))),(49,.c (.own 15 1))],rX bT++(jT bT++(.cells (dQ.cs a0)::(kP bT++[.row 3 1 1 (hG [[iC wK]])]))),[],10⟩) (fuel':=4) 12 [1,2,3,14,15,16,37,41,49] [0,1,2,3,4,5,6,7,8,9,10,11,12,13,14,15] rfl (by kernel_rfl) (by kernel_rfl) ?_
           refine bQ.conv (Conv.ob 15 (E3.row [wK]) (El.bZ E3 [wK] rfl (by kernel_rfl))) ?_
           refine bQ.conv (Conv.sl 49 (.c (.own 15 ([wK].length))) (eG.c (eD.own (by first | (simp;done) | (simp;omega) | omega)))) ?_
           refine bQ.qM [13,14,15,16] rfl (by kernel_rfl) ?_
           refine cY.evC (vs:=[room ((((bT.1).eO.length)+([wK].length)) * 8)]) (cR:=⟨pN a1 x1 x2 bT++[sP 37 0 0 0,(50,.c (.own 15 (((bT.1).eO.length)+([wK].length))))],rX bT++jT bT++[.cells (dQ.cs a0),.dead,E3.row ((bT.1).bX),iZ.row ((bT.1).jN),iZ.row ((bT.1).fV),.row 3 1 (((bT.1).eO.length)+([wK].length)) fun i j=>bif Nat.blt i ((bT.1).eO.length) then E3.at ((bT.1).eO) i j else (E3.at [wK]) (i - ((bT.1).eO.length)) j],[],10⟩) 0 1 1 [1,2,3,14,15,16,37,50] [0,1,2,3,4,5,6,7,8,9,10,11,12,13,14,16] rfl (by kernel_rfl) ?_
           refine cY.conv (Conv.ob 15 (E3.row (((bT.1).eO)++[wK])) (El.cH E3 ((bT.1).eO) [wK] rfl rfl)) ?_
           refine cY.conv (Conv.sl 50 (.c (.own 15 ((((bT.1).eO)++[wK]).length))) (eG.c (eD.own (by first | (simp;done) | (simp;omega) | omega)))) ?_
           refine cY.en1 1 3 [1,2,3,14,15,16] [0,1,2,3,4,5,6,7,8,9,10,12,13,14,15] ?_
           exact Ref.kn [1,2,3,14,15,16] [0,1,2,3,4,5,6,7,8,9,14,11,12,13,10])) (
          .lt _ fun aOK =>
          .ite _ (
           .esc [0,1,2,3,4,5,6,7,8,9,10,11,12,13,14,15,16] [(cd (cd (bd Tryz.f41) [1,1,0,0,1,1,0,0,1,1,0,1,1,1]) [0])] ⟨aG7 a1++qQ x1 x2 bT++[sB 53 aOK],.cells (j6.oc (bT.1) 1 2 3 13 5 14 15 16 9)::(jT bT++wL a0 x1 bT++aAt jC x1 bT++kP bT),[],10⟩ (by
            refine Ref.eR 8 (by kernel_rfl) (by kernel_rfl) ?_
            refine dV.fE (cR:=⟨pN a1 x1 x2 bT++[sP 58 0 0 0,sP 61 0 0 6,sP 64 11 0 2],.cells (j6.oc (bT.1) 1 2 3 12 5 13 14 15 9)::(jT bT++wL a0 x1 bT++kP bT),[],10⟩) (fuel':=7) [0,1,2,3,5,6] [1,2,3,14,15,16,58,61,64] [0,1,2,3,4,5,6,7,8,9,10,11,13,14,15,16] rfl (by kernel_rfl) (by kernel_rfl) ?_
            refine dV.rG [9,10,11,12] ?_
            refine bQ.fE (cR:=⟨pN a1 x1 x2 bT++[sP 58 0 0 0,(62,.c (.own 12 ((bT.1).bX.length))),sI 65 (((gd x1 bT.2).cI).fLo)],rX bT++(jT bT++(.cells (dQ.cs a0)::kP bT)),[],10⟩) (fuel':=5) [4,7] [1,2,3,14,15,16,58,62,65] [0,1,2,3,4,5,6,7,8,9,10,12,13,14,15] rfl (by kernel_rfl) (by kernel_rfl) ?_
            refine bQ.aGG (stf:=fun uJ=>⟨pN a1 x1 x2 bT++[sP 58 0 0 0,(62,.c (.own 12 ((bT.1).bX.length))),sI 65 uJ],rX bT++(jT bT++(.cells (dQ.cs a0)::kP bT)),[],10⟩) (by kernel_rfl) (fun uJ=>?_)
            refine bQ.nC (cR:=⟨pN a1 x1 x2 bT++[sP 58 0 0 0,(62,.c (.own 12 ((bT.1).bX.length))),(66,.c (.own 15 1))],rX bT++(jT bT++(.cells (dQ.cs a0)::(kP bT++[.row 3 1 1 (hG [[iC uJ]])]))),[],10⟩) (fuel':=4) 8 [1,2,3,14,15,16,58,62,66] [0,1,2,3,4,5,6,7,8,9,10,11,12,13,14,15] rfl (by kernel_rfl) (by kernel_rfl) ?_
            refine bQ.conv (Conv.ob 15 (E3.row [uJ]) (El.bZ E3 [uJ] rfl (by kernel_rfl))) ?_
            refine bQ.conv (Conv.sl 66 (.c (.own 15 ([uJ].length))) (eG.c (eD.own (by first | (simp;done) | (simp;omega) | omega)))) ?_
            refine bQ.qM [9,10,11,12] rfl (by kernel_rfl) ?_
            refine cY.evC (vs:=[room ((((bT.1).bX.length)+([uJ].length)) * 8)]) (cR:=⟨pN a1 x1 x2 bT++[sP 58 0 0 0,(67,.c (.own 15 (((bT.1).bX.length)+([uJ].length))))],rX bT++jT bT++[.cells (dQ.cs a0),E3.row ((bT.1).eO),.dead,iZ.row ((bT.1).jN),iZ.row ((bT.1).fV),.row 3 1 (((bT.1).bX.length)+([uJ].length)) fun i j=>bif Nat.blt i ((bT.1).bX.length) then E3.at ((bT.1).bX) i j else (E3.at [uJ]) (i - ((bT.1).bX.length)) j],[],10⟩) 0 1 1 [1,2,3,14,15,16,58,67] [0,1,2,3,4,5,6,7,8,9,10,11,12,13,14,16] rfl (by kernel_rfl) ?_
            refine cY.conv (Conv.ob 15 (E3.row (((bT.1).bX)++[uJ])) (El.cH E3 ((bT.1).bX) [uJ] rfl rfl)) ?_
            refine cY.conv (Conv.sl 67 (.c (.own 15 ((((bT.1).bX)++[uJ]).length))) (eG.c (eD.own (by first | (simp;done) | (simp;omega) | omega)))) ?_
            refine cY.en1 1 3 [1,2,3,14,15,16] [0,1,2,3,4,5,6,7,8,9,10,11,13,14,15] ?_
            exact Ref.kn [1,2,3,14,15,16] [0,1,2,3,4,5,6,7,8,9,11,14,12,13,10])) (
           .lt _ fun aOL =>
           .ite _ (
            .esc [0,1,2,3,4,5,6,7,8,9,10,11,12,13,14,15,16] [(cd (cd (bd Tryz.f41) [1,1,0,0,1,1,0,0,1,1,0,1,1,1,1,1]) [0])] ⟨aG7 a1++qQ x1 x2 bT++[sB 70 aOL],.cells (j6.oc (bT.1) 1 2 3 13 5 14 15 16 9)::(jT bT++wL a0 x1 bT++aAt jC x1 bT++kP bT),[],10⟩ (by
             refine Ref.eR 10 (by kernel_rfl) (by kernel_rfl) ?_
             refine dV.fE (cR:=⟨sI 1 a1::sP 2 0 0 0::sP 3 10 0 0::sP 8 11 0 0::(qQ x1 x2 bT++[sP 74 0 0 0,sP 77 0 0 7]),.cells (j6.oc (bT.1) 1 2 3 12 5 13 14 15 9)::(jT bT++(.cells (dQ.cs a0)::(aAt jC x1 bT++kP bT))),[],10⟩) (fuel':=7) [0,1,2,3] [1,2,3,8,14,15,16,74,77] [0,1,2,3,4,5,6,7,8,9,10,12,13,14,15,16] rfl (by kernel_rfl) (by kernel_rfl) ?_
             refine dV.rG [7,8,9,10] ?_
             refine bQ.fE (cR:=⟨pN a1 x1 x2 bT++[sP 74 0 0 0,(78,.c (.own 13 ((bT.1).jN.length))),(79,.agg [iC jC,iC ((gd x1 bT.2).gF),bC (((((gd x1 bT.2).cI).bP):Int) == 2)])],rX bT++(jT bT++(.cells (dQ.cs a0)::kP bT)),[],10⟩) (fuel':=5) [4,5] [1,2,3,14,15,16,74,78,79] [0,1,2,3,4,5,6,7,8,9,10,12,13,14,15] rfl (by kernel_rfl) (by kernel_rfl) ?_
             refine bQ.nC (cR:=⟨pN a1 x1 x2 bT++[sP 74 0 0 0,(78,.c (.own 13 ((bT.1).jN.length))),(80,.c (.own 15 1))],rX bT++(jT bT++(.cells (dQ.cs a0)::(kP bT++[.row 137 3 1 (hG [[iC jC,iC ((gd x1 bT.2).gF),bC (((((gd x1 bT.2).cI).bP):Int) == 2)]])]))),[],10⟩) (fuel':=4) 6 [1,2,3,14,15,16,74,78,80] [0,1,2,3,4,5,6,7,8,9,10,11,12,13,14,15] rfl (by kernel_rfl) (by kernel_rfl) ?_
             refine bQ.conv (Conv.ob 15 (iZ.row [(⟨jC,(gd x1 bT.2).gF,(((((gd x1 bT.2).cI).bP):Int) == 2)⟩:gJ)]) (El.bZ iZ [(⟨jC,(gd x1 bT.2).gF,(((((gd x1 bT.2).cI).bP):Int) == 2)⟩:gJ)] rfl (by kernel_rfl))) ?_
             refine bQ.conv (Conv.sl 80 (.c (.own 15 ([(⟨jC,(gd x1 bT.2).gF,(((((gd x1 bT.2).cI).bP):Int) == 2)⟩:gJ)].length))) (eG.c (eD.own (by first | (simp;done) | (simp;omega) | omega)))) ?_
             refine bQ.qM [7,8,9,10] rfl (by kernel_rfl) ?_
             refine cY.evC (vs:=[room ((((bT.1).jN.length)+([(⟨jC,(gd x1 bT.2).gF,(((((gd x1 bT.2).cI).bP):Int) == 2)⟩:gJ)].length)) * 24)]) (cR:=⟨pN a1 x1 x2 bT++[sP 74 0 0 0,(81,.c (.own 15 (((bT.1).jN.length)+([(⟨jC,(gd x1 bT.2).gF,(((((gd x1 bT.2).cI).bP):Int) == 2)⟩:gJ)].length))))],rX bT++jT bT++[.cells (dQ.cs a0),E3.row ((bT.1).eO),E3.row ((bT.1).bX),.dead,iZ.row ((bT.1).fV),.row 137 3 (((bT.1).jN.length)+([(⟨jC,(gd x1 bT.2).gF,(((((gd x1 bT.2).cI).bP):Int) == 2)⟩:gJ)].length)) fun i j=>bif Nat.blt i ((bT.1).jN.length) then iZ.at ((bT.1).jN) i j else (iZ.at [(⟨jC,(gd x1 bT.2).gF,(((((gd x1 bT.2).cI).bP):Int) == 2)⟩:gJ)]) (i - ((bT.1).jN.length)) j],[],10⟩) 0 1 1 [1,2,3,14,15,16,74,81] [0,1,2,3,4,5,6,7,8,9,10,11,12,13,14,16] rfl (by kernel_rfl) ?_
             refine cY.conv (Conv.ob 15 (iZ.row (((bT.1).jN)++[(⟨jC,(gd x1 bT.2).gF,(((((gd x1 bT.2).cI).bP):Int) == 2)⟩:gJ)])) (El.cH iZ ((bT.1).jN) [(⟨jC,(gd x1 bT.2).gF,(((((gd x1 bT.2).cI).bP):Int) == 2)⟩:gJ)] rfl rfl)) ?_
             refine cY.conv (Conv.sl 81 (.c (.own 15 ((((bT.1).jN)++[(⟨jC,(gd x1 bT.2).gF,(((((gd x1 bT.2).cI).bP):Int) == 2)⟩:gJ)]).length))) (eG.c (eD.own (by first | (simp;done) | (simp;omega) | omega)))) ?_
             refine cY.en1 1 3 [1,2,3,14,15,16] [0,1,2,3,4,5,6,7,8,9,10,11,12,14,15] ?_
             exact Ref.kn [1,2,3,14,15,16] [0,1,2,3,4,5,6,7,8,9,11,12,14,13,10])) (
            .lt _ fun aOM =>
            .ite _ (
             .esc [0,1,2,3,4,5,6,7,8,9,10,12,13,14,15,16] [(cd (cd (bd Tryz.f41) [1,1,0,0,1,1,0,0,1,1,0,1,1,1,1,1,1,1]) [0])] ⟨sI 1 a1::sP 2 0 0 0::sP 3 10 0 0::sP 8 11 0 0::(qQ x1 x2 bT++[sB 84 aOM]),.cells (j6.oc (bT.1) 1 2 3 12 5 13 14 15 9)::(jT bT++(.cells (dQ.cs a0)::(aAt jC x1 bT++kP bT))),[],10⟩ (by
              refine Ref.eR 12 (by kernel_rfl) (by kernel_rfl) ?_
              refine dV.fE (cR:=⟨sI 1 a1::sP 2 0 0 0::sP 3 10 0 0::sP 8 11 0 0::(qQ x1 x2 bT++[sP 88 0 0 0,sP 91 0 0 8]),.cells (j6.oc (bT.1) 1 2 3 12 5 13 14 15 9)::(jT bT++(.cells (dQ.cs a0)::(aAt jC x1 bT++kP bT))),[],10⟩) (fuel':=7) [0,1,2,3] [1,2,3,8,14,15,16,88,91] [0,1,2,3,4,5,6,7,8,9,10,11,12,13,14,15] rfl (by kernel_rfl) (by kernel_rfl) ?_
              refine dV.rG [7,8,9,10] ?_
              refine bQ.fE (cR:=⟨pN a1 x1 x2 bT++[sP 88 0 0 0,(92,.c (.own 14 ((bT.1).fV.length))),(93,.agg [iC jC,iC ((gd x1 bT.2).gF),bC (((((gd x1 bT.2).cI).bP):Int) == 2)])],rX bT++(jT bT++(.cells (dQ.cs a0)::kP bT)),[],10⟩) (fuel':=5) [4,5] [1,2,3,14,15,16,88,92,93] [0,1,2,3,4,5,6,7,8,9,10,12,13,14,15] rfl (by kernel_rfl) (by kernel_rfl) ?_
              refine bQ.nC (cR:=⟨pN a1 x1 x2 bT++[sP 88 0 0 0,(92,.c (.own 14 ((bT.1).fV.length))),(94,.c (.own 15 1))],rX bT++(jT bT++(.cells (dQ.cs a0)::(kP bT++[.row 137 3 1 (hG [[iC jC,iC ((gd x1 bT.2).gF),bC (((((gd x1 bT.2).cI).bP):Int) == 2)]])]))),[],10⟩) (fuel':=4) 6 [1,2,3,14,15,16,88,92,94] [0,1,2,3,4,5,6,7,8,9,10,11,12,13,14,15] rfl (by kernel_rfl) (by kernel_rfl) ?_
              refine bQ.conv (Conv.ob 15 (iZ.row [(⟨jC,(gd x1 bT.2).gF,(((((gd x1 bT.2).cI).bP):Int) == 2)⟩:gJ)]) (El.bZ iZ [(⟨jC,(gd x1 bT.2).gF,(((((gd x1 bT.2).cI).bP):Int) == 2)⟩:gJ)] rfl (by kernel_rfl))) ?_
              refine bQ.conv (Conv.sl 94 (.c (.own 15 ([(⟨jC,(gd x1 bT.2).gF,(((((gd x1 bT.2).cI).bP):Int) == 2)⟩:gJ)].length))) (eG.c (eD.own (by first | (simp;done) | (simp;omega) | omega)))) ?_
              refine bQ.qM [7,8,9,10] rfl (by kernel_rfl) ?_
              refine cY.evC (vs:=[room ((((bT.1).fV.length)+([(⟨jC,(gd x1 bT.2).gF,(((((gd x1 bT.2).cI).bP):Int) == 2)⟩:gJ)].length)) * 24)]) (cR:=⟨pN a1 x1 x2 bT++[sP 88 0 0 0,(95,.c (.own 15 (((bT.1).fV.length)+([(⟨jC,(gd x1 bT.2).gF,(((((gd x1 bT.2).cI).bP):Int) == 2)⟩:gJ)].length))))],rX bT++jT bT++[.cells (dQ.cs a0),E3.row ((bT.1).eO),E3.row ((bT.1).bX),iZ.row ((bT.1).jN),.dead,.row 137 3 (((bT.1).fV.length)+([(⟨jC,(gd x1 bT.2).gF,(((((gd x1 bT.2).cI).bP):Int) == 2)⟩:gJ)].length)) fun i j=>bif Nat.blt i ((bT.1).fV.length) then iZ.at ((bT.1).fV) i j else (iZ.at [(⟨jC,(gd x1 bT.2).gF,(((((gd x1 bT.2).cI).bP):Int) == 2)⟩:gJ)]) (i - ((bT.1).fV.length)) j],[],10⟩) 0 1 1 [1,2,3,14,15,16,88,95] [0,1,2,3,4,5,6,7,8,9,10,11,12,13,14,16] rfl (by kernel_rfl) ?_
              refine cY.conv (Conv.ob 15 (iZ.row (((bT.1).fV)++[(⟨jC,(gd x1 bT.2).gF,(((((gd x1 bT.2).cI).bP):Int) == 2)⟩:gJ)])) (El.cH iZ ((bT.1).fV) [(⟨jC,(gd x1 bT.2).gF,(((((gd x1 bT.2).cI).bP):Int) == 2)⟩:gJ)] rfl rfl)) ?_
              refine cY.conv (Conv.sl 95 (.c (.own 15 ((((bT.1).fV)++[(⟨jC,(gd x1 bT.2).gF,(((((gd x1 bT.2).cI).bP):Int) == 2)⟩:gJ)]).length))) (eG.c (eD.own (by first | (simp;done) | (simp;omega) | omega)))) ?_
              refine cY.en1 1 3 [1,2,3,14,15,16] [0,1,2,3,4,5,6,7,8,9,10,11,12,13,15] ?_
              exact Ref.kn [1,2,3,14,15,16] [0,1,2,3,4,5,6,7,8,9,11,12,13,14,10])) (
             .nil [0,1,2,3,4,5,6,7,8,9,13,14,15,16,10] _))))) fun aMe =>
        .nil [0,1,2,3,4,5,6,7,8,9,10,11,12,13,14] _)
      ·
       refine bQ.v0 (fuel':=4) [0,3,6,9,10] [1,2,3,7,14,15,16,20,21,23,26,30] [0,1,2,3,4,5,6,7,8,9,10,11,12,13,14,15] ?_
       refine bQ.lV (t:=24) (g:=[]) (b:=true) (fuel':=3) 4 [] (default:Int) rfl (by kernel_rfl) (by kernel_rfl) (aI2 K a0 a1 ((gd x1 bT.2).cG)) (fun _=>rfl) (fun jC=>?_)
       refine bQ.v0 (fuel':=2) [11] [1,2,3,7,14,15,16,31] [0,1,2,3,4,5,6,7,8,9,10,11,12,13,14,15] ?_
       refine bQ.cP (fuel':=1) 12 (by kernel_rfl) ?_
       refine cE.kC (cR:=⟨sI 1 a1::sP 2 0 0 0::sP 3 14 0 0::sP 7 15 0 0::sP 8 16 0 0::(qQ x1 x2 bT++[(31,.agg [iC jC,iC ((gd x1 bT.2).gF),bC (((((gd x1 bT.2).cI).bP):Int) == 2)])]),.cells (j6.oc (bT.1) 1 2 3 10 5 11 12 13 9)::(jT bT++kP bT++wL a0 x1 bT++[.cells [iC 0,iC 0,bC false]]),[],10⟩) 12 [1,2,3,7,8,14,15,16,31] [0,1,2,3,4,5,6,7,8,9,10,11,12,13,14,15,16] (by kernel_rfl) (by kernel_rfl) ?_
       refine bQ.qM [13] rfl (by kernel_rfl) ?_
       refine cY.en 0 1 ⟨sI 1 a1::sP 2 0 0 0::sP 3 14 0 0::sP 7 15 0 0::sP 8 16 0 0::qQ x1 x2 bT,.cells (j6.oc (bT.1) 1 2 3 10 5 11 12 13 9)::(jT bT++kP bT++wL a0 x1 bT++aAt jC x1 bT),[],10⟩ [1,2,3,7,8,14,15,16] [0,1,2,3,4,5,6,7,8,9,10,11,12,13,14,15,16] ?_
       refine Ref.ck ⟨aG7 a1++qQ x1 x2 bT,.cells (j6.oc (bT.1) 1 2 3 13 5 14 15 16 9)::(jT bT++wL a0 x1 bT++aAt jC x1 bT++kP bT),[],10⟩ [1,2,3,7,8,14,15,16] [0,1,2,3,4,5,6,7,8,9,14,15,16,10,11,12,13] ?_
       exact hk jC)) fun aRu =>
    .nil [0,1,2,3,4,5,6,7,8,9,10,11,12,13,14] _) (
    .ret [0,1,2,3,4,5,6,7,8,9,10,11,12,13] _)) fun yZ =>
  .mv 1000000 0 1 <|
  .mv 1000000 0 2 <|
  .mv 1000000 0 3 <|
  .mv 1000000 0 5 <|
  .mv 1000000 0 9 <|
  .nil [0,1,2,3,4,5,6,7,8,9,14,15,16,10,17,11,12,13,18] _)
end Go.Proofs.YtdbfbedholdjaaaGreat
