/- No conditions. -/
import Derived.Test.YtdbfbedholdjaaaGreatPLH
import Derived.Test.YtdbfbedholdjaaaGreatPBD
import Derived.Test.YtdbfbedholdjaaaGreatProg
set_option linter.unusedVariables false
set_option linter.unusedSimpArgs false
set_option linter.unusedSectionVars false
namespace Go.Proofs.YtdbfbedholdjaaaGreat
open Go Go.Proofs Go.Dl
variable [dW]
set_option maxRecDepth 100000
set_option maxHeartbeats 4000000
def F81 (K:Nat) (a0:zO) (a1:Bytes):Option ((Int × Err × zO) ⊕ (Int × Err × zO)) :=
 ((bT (aTL K a0)).bind (fun r1=>(bW [room ((r1.kK.length+a1.length) * 1)] (some (.inl ((Int.ofNat a1.length),none,(⟨r1.yA,(r1.kK++a1)⟩:zO)))))))
theorem aUY (K:Nat) (a0:zO) (a1:Bytes):bS Tryz.prog 81 [.c (.ptr 0 0 0),.c (.str a1)] [.cells [.self 121 a0.yA 0,.own 1 a0.kK.length],E5.row a0.kK] (bT (F81 K a0 a1)) (fun r=>.iT [.c (.val (.int .i64 r.1)),.c (aQN r.2.1)]) (fun r=>[.cells [.self 121 r.2.2.yA 0,.own 2 r.2.2.kK.length],.dead,E5.row r.2.2.kK]):=by
 refine bS.it Tryz.f81 (fun r=>⟨[sI 4 r.1,(5,.c (aQN r.2.1))],[.cells [.self 121 r.2.2.yA 0,.own 2 r.2.2.kK.length],.dead,E5.row r.2.2.kK],[],2⟩) ?_
 unfold F81
 exact Ref.pt (
  .call [0,1] (aQP _ _) fun r1 =>
  .ck _ <|
  .ob 2 3 2 (x:=.row 5 1 (r1.kK.length+a1.length) fun i j=>bif Nat.blt i r1.kK.length then E5.at r1.kK i j else (fun i _=>.val (.int .u8 (a1.getD i 0).toNat)) (i - r1.kK.length) j) (y:=(E5.row (r1.kK++a1))) (El.aDd E5 rfl r1.kK a1 rfl) <|
  .sl 2 3 14 (x:=.c (.own 2 (r1.kK.length+a1.length))) (y:=(.c (.own 2 ((r1.kK++a1).length)))) (eA.c (dY.own (by first | (simp;done) | (simp;omega) | omega))) <|
  .sl 3 0 5 (x:=.c (.val .nilIface)) (y:=(.c (aQN none))) (eA.c (aNf)) <|
  .ret [0,1,2] _)
def F36 (K:Nat) (a0:(List fE)):Option ((Bytes) ⊕ (Bytes)) :=
 (bL (bJ ((iter K (fun (u44:Bool × (List UInt8) × Int)=>(bN (decide ((u44.2.2:Int)<(Int.ofNat a0.length))) (fun (x56:Bool)=>(if x56=true then (bL (bJ (bW [cS u44.2.2 a0.length] ((cH true (bT (F83 K ((a0.getD (u44.2.2:Int).toNat default).cQ))) default).bind (fun r62=>((cH true (bT (F84 K ((a0.getD (u44.2.2:Int).toNat default).cQ))) default).bind (fun tP=>((cH true (bT (F82 K r62 (wB tP 10000))) default).bind (fun vC=>((bT (F81 K (⟨u44.1,u44.2.1⟩:zO) vC)).bind (fun r65=>(some (.inr (r65.2.2.yA,r65.2.2.kK))))))))))))) (fun (u61:Bool × (List UInt8))=>(some (.inr (u61.1,u61.2,(IntKind.i64.wrap (u44.2.2+1))))))) else (some (.inl (Sum.inl (u44.1,u44.2.1)))))))) (false,[],0)).map .inl)) (fun (u33:Bool × (List UInt8))=>((bT (F85 K (⟨u33.1,u33.2⟩:zO))).bind (fun r66=>(some (.inl (r66)))))))
theorem nA (K:Nat) (a0:(List fE)):bS Tryz.prog 36 [.c (eN.tree a0)] [] (bT (F36 K a0)) (fun r=>.c (.str r)) (fun r=>[]):=by
 refine bS.it Tryz.f36 (fun r=>⟨[sS 2 r],[],[],0⟩) ?_
 unfold F36
 exact Ref.pt (
  .aEK [] 1 (rg (cd (bd Tryz.f36) [1,0])) ((rg (cd (bd Tryz.f36) [1,0])).toList.drop 0) [(cd (bd Tryz.f36) [1,1])] ⟨[(0,.c (eN.tree a0))],[],[],0⟩ (by
   refine c6.aLT (d:=3) (t:=121) (cl:=[.nil]) 0 1 (by kernel_rfl) (by kernel_rfl) ?_
   exact c6.pt (id:=1) (
    .bk 0 (fun u33=>⟨[sP 3 0 0 0],[.cells [.self 121 u33.1 0,.own 1 u33.2.length],E5.row u33.2],[],0⟩) (
     .adc 2 0 0 1 E5.ty E5.w (E5.at []) <|
     .lp [0,1] (fun u44=>⟨[sP 3 0 0 0,(6,.c (eN.tree a0)),sI 7 (Int.ofNat a0.length),sI 8 u44.2.2],[.cells [.self 121 u44.1 0,.own 1 u44.2.1.length],E5.row u44.2.1],[],0⟩) fun u44 =>
     .lt _ fun x56 =>
     .ite _ (
      .bk 1 (fun u61=>⟨[sP 3 0 0 0,(6,.c (eN.tree a0)),sI 7 (Int.ofNat a0.length),sI 8 u44.2.2],[.cells [.self 121 u61.1 0,.own 1 u61.2.length],E5.row u61.2],[],0⟩) (
       .ck _ <|
       .ex [0,3] <|
       .tx [8] <|
       .ex [1,4] <|
       .fF 2 (default:Bytes) _ [] (aUA K ((gd a0 u44.2.2).cQ)) (fun _=>rfl) fun r62 =>
       .fF 5 (default:Int) _ [] (aF7 K ((gd a0 u44.2.2).cQ)) (fun _=>rfl) fun tP =>
       .ex [6] <|
       .fF 7 (default:Bytes) _ [] (aTN K r62 (wB tP 10000)) (fun _=>rfl) fun vC =>
       .tl [8] <|
       .call [0,1] (aUY _ _ _) fun r65 =>
       .nil [0,3] _) fun u61 =>
      .nil [0,1] _) (
      .ret [0,1] _)) fun u33 =>
    .call [0,1] (aTM _ _) fun r66 =>
    .ret [] _)))
def F39 (K:Nat) (a0:hU):Option ((Bytes) ⊕ (Bytes)) :=
 ((cH true (bT (F36 K a0.cV)) default).bind (fun r1=>((cH true (bT (F86 K r1 ((a0.fG.bP:Int) != 0))) default).bind (fun r2=>(some (.inl (r2)))))))
theorem aOW (K:Nat) (a0:hU):bS Tryz.prog 39 [.agg (kJ.cs a0)] [] (bT (F39 K a0)) (fun r=>.c (.str r)) (fun r=>[]):=by
 refine bS.it Tryz.f39 (fun r=>⟨[sS 2 r],[],[],0⟩) ?_
 unfold F39
 exact Ref.pt (
  .ex [0,3,4] <|
  .tx [] <|
  .ex [1,5,6] <|
  .fF 2 (default:Bytes) _ [] (nA K a0.cV) (fun _=>rfl) fun r1 =>
  .fF 7 (default:Bytes) _ [] (aUE K r1 ((a0.fG.bP:Int) != 0)) (fun _=>rfl) fun r2 =>
  .ex [8] <|
  .ret [] _)
def F44 (K:Nat) (a0:cZ) (a1:dR):Option ((uX) ⊕ (uX)) :=
 (if (decide ((a1.dD:Int)<0))=true then (some (.inl ((⟨(-1),([]:Bytes),([]:Bytes),false,0,[]⟩:uX)))) else (bW [cS a1.c8 a0.bK.length,cS a1.dD ((a0.bK.getD (a1.c8:Int).toNat default).bM).length] (bN ((((a0.bK.getD (a1.c8:Int).toNat default).bM).getD (a1.dD:Int).toNat default).cV) (fun (x2:(List fE))=>(bN ((((a0.bK.getD (a1.c8:Int).toNat default).bM).getD (a1.dD:Int).toNat default).cU) (fun (x3:(List fE))=>(bN (((((((a0.bK.getD (a1.c8:Int).toNat default).bM).getD (a1.dD:Int).toNat default).fG).bP):Int) != 0) (fun (x4:Bool)=>((cH true (bT (F11 K a0 a1.c8)) default).bind (fun r5=>((cH true (bT (F36 K x2)) default).bind (fun r6=>((cH true (bT (F36 K x3)) default).bind (fun r7=>(some (.inl ((⟨r5,r6,r7,x4,0,[]⟩:uX))))))))))))))))))
abbrev aOX (v0:cZ) (v1:dR):List Go.Dl.Obj:=[.cells (dM.cs v0),.cells (dO.cs v1),oX8,kJ.o (gd ((gd v0.bK v1.c8).bM) v1.dD)]
abbrev aFb:List (Nat × D):=[sP 2 0 0 0,sP 3 1 0 0,sP 4 2 0 0]
theorem aU1 (K:Nat) (a0:cZ) (a1:dR):bS Tryz.prog 44 [.agg (dM.cs a0),.agg (dO.cs a1)] [] (bT (F44 K a0 a1)) (fun r=>.agg (E62.cs r)) (fun r=>[.cells (E62.cs r)]):=by
 refine bS.it Tryz.f44 (fun r=>⟨[sP 4 0 0 0],[.cells (E62.cs r)],[],0⟩) ?_
 unfold F44
 exact Ref.pt (
  .ite _ (
   .ok 2 0 2 5 (x:=.nil) (y:=aOY.tree []) (El.cN aOY) <|
   .ret [2] _) (
   .esc [0,1,2] [(cd (bd Tryz.f44) [1,1,0]),(cd (bd Tryz.f44) [1,1,1])] ⟨aFb++[sB 8 (decide ((a1.dD:Int)<0))],[.cells (dM.cs a0),.cells (dO.cs a1),oX8],[],0⟩ (by
    refine Ref.eH 3 (by kernel_rfl) (by kernel_rfl) ?_
    refine dN.eW (cR:=⟨aFb++[sP 10 0 0 0,sP 12 1 0 0,sP 17 1 0 1],[.cells (dM.cs a0),.cells (dO.cs a1),oX8],[],0⟩) (fuel':=10) [0,2,7] [2,3,4,10,12,17] [0,1,2] rfl (by kernel_rfl) (by kernel_rfl) ?_
    refine dN.qB [12] ?_
    refine bO.aBh (⟨aFb++[sP 5 3 0 0],aOX a0 a1,[],0⟩) ((bN ((gd ((gd a0.bK a1.c8).bM) a1.dD).cV) (fun (x2:(List fE))=>(bN ((gd ((gd a0.bK a1.c8).bM) a1.dD).cU) (fun (x3:(List fE))=>(bN (((((gd ((gd a0.bK a1.c8).bM) a1.dD).fG).bP):Int) != 0) (fun (x4:Bool)=>((cH true (bT (F11 K a0 a1.c8)) default).bind (fun r5=>((cH true (bT (F36 K x2)) default).bind (fun r6=>((cH true (bT (F36 K x3)) default).bind (fun r7=>(some (.inl ((⟨r5,r6,r7,x4,0,[]⟩:uX))))))))))))))))) ?_ (fun hk=>?_)
    ·
     exact Ref.pt (
      .ex [1,4,7,10,11] <|
      .tx [15] <|
      .ex [0,2,5,8,12,13] <|
      .lt _ fun x2 =>
      .lt _ fun x3 =>
      .lt _ fun x4 =>
      .fF 3 (default:Int) _ [] (aDU K a0 a1.c8) (fun _=>rfl) fun r5 =>
      .fF 6 (default:Bytes) _ [] (nA K x2) (fun _=>rfl) fun r6 =>
      .fF 9 (default:Bytes) _ [] (nA K x3) (fun _=>rfl) fun r7 =>
      .ex [14] <|
      .tl [15] <|
      .ok 4 0 2 5 (x:=.nil) (y:=aOY.tree []) (El.cN aOY) <|
      .ret [2] _)
    ·
     refine bO.v1 (fuel':=2) [cS a1.c8 a0.bK.length,cS a1.dD ((gd a0.bK a1.c8).bM).length] [1,3,4,5,6,8,9,10] [2,3,4,20] [0,1,2] ?_
     refine bO.cM (fuel':=1) 11 (by kernel_rfl) ?_
     refine cF.iY (cR:=⟨aFb++[sP 5 3 0 0,(20,.agg (kJ.cs (gd ((gd a0.bK a1.c8).bM) a1.dD)))],[.cells (dM.cs a0),.cells (dO.cs a1),oX8,oX5],[],0⟩) 11 [2,3,4,5,20] [0,1,2,3] (by kernel_rfl) (by kernel_rfl) ?_
     refine bO.qP [12] rfl (by kernel_rfl) ?_
     refine c6.en 0 1 ⟨aFb++[sP 5 3 0 0],aOX a0 a1,[],0⟩ [2,3,4,5] [0,1,2,3] ?_
     refine Ref.ck ⟨aFb++[sP 5 3 0 0],aOX a0 a1,[],0⟩ [2,3,4,5] [0,1,2,3] ?_
     exact hk)))
def F17 (K:Nat) (a0:cZ) (a1:Int) (a2:Bytes):Option ((Int) ⊕ (Int)) :=
 ((bT (F50 K a0 a1 3)).bind (fun r1=>(if (!r1)=true then (some (.inl ((-1)))) else (bW [cS a1 a0.bK.length] (bN ((a0.bK.getD (a1:Int).toNat default).cU) (fun (x2:(List fE))=>((bT (F51 K x2 a2)).bind (fun r3=>(if (decide ((r3:Int)<0))=true then (some (.inl ((-1)))) else ((bT (F55 K a0)).bind (fun r4=>(bL (bJ ((iter K (fun (gX:Int × Int)=>(bN (decide ((gX.2:Int)<(Int.ofNat r4.length))) (fun (x60:Bool)=>(if x60=true then (bL (bJ (bW [cS gX.2 r4.length] (bN (decide (((r4.getD (gX.2:Int).toNat default):Int)<a1)) (fun (x66:Bool)=>(if x66=true then (bW [cS (r4.getD (gX.2:Int).toNat default) a0.bK.length] (bN ((a0.bK.getD ((r4.getD (gX.2:Int).toNat default):Int).toNat default).cU) (fun (x67:(List fE))=>((bT (F36 K x67)).bind (fun r68=>(bN (IntKind.i64.wrap (gX.1+(Int.ofNat r68.length))) (fun (x69:Int)=>(some (.inr (x69)))))))))) else (some (.inr (gX.1)))))))) (fun (rY:Int)=>(some (.inr (rY,(IntKind.i64.wrap (gX.2+1))))))) else (some (.inl (Sum.inl (gX.1)))))))) (r3,0)).map .inl)) (fun (u37:Int)=>(some (.inl (u37))))))))))))))))
theorem aJa (K:Nat) (a0:cZ) (a1:Int) (a2:Bytes):bS Tryz.prog 17 [.agg (dM.cs a0),.c (.val (.int .i64 a1)),.c (.str a2)] [] (bT (F17 K a0 a1 a2)) (fun r=>.c (.val (.int .i64 r))) (fun r=>[]):=by
 refine bS.it Tryz.f17 (fun r=>⟨[sI 6 r],[],[],0⟩) ?_
 unfold F17
 exact Ref.pt (
  .call [] (aF6 _ _ _ _) fun r1 =>
  .ite _ (
   .ret [] _) (
   .ck _ <|
   .lt _ fun x2 =>
   .call [] (aOB _ _ _) fun r3 =>
   .ite _ (
    .ret [] _) (
    .call [] (aOx _ _) fun r4 =>
    .bk 0 (fun u37=>⟨[sI 7 u37],[],[],0⟩) (
     .lp [0] (fun gX=>⟨[sI 1 a1,sP 3 0 0 0,sI 7 gX.1,(25,.c (E3.tree r4)),sI 26 (Int.ofNat r4.length),sI 27 gX.2],[.cells (dM.cs a0)],[],0⟩) fun gX =>
     .lt _ fun x60 =>
     .ite _ (
      .bk 1 (fun rY=>⟨[sI 1 a1,sP 3 0 0 0,sI 7 rY,(25,.c (E3.tree r4)),sI 26 (Int.ofNat r4.length),sI 27 gX.2],[.cells (dM.cs a0)],[],0⟩) (
       .ck _ <|
       .lt _ fun x66 =>
       .ite _ (
        .ck _ <|
        .lt _ fun x67 =>
        .call [] (nA _ _) fun r68 =>
        .lt _ fun x69 =>
        .nil [0] _) (
        .nil [0] _)) fun rY =>
      .nil [0] _) (
      .ret [] _)) fun u37 =>
    .ret [] _)))
def F41 (K:Nat) (a0:cZ) (a1:Int) (a2:jN):Option ((jN) ⊕ (jN)) :=
 (bW [cS a1 a0.bK.length] (bN ((a0.bK.getD (a1:Int).toNat default).cU) (fun (x1:(List fE))=>(bN (Int.ofNat ((a0.bK.getD (a1:Int).toNat default).cU).length) (fun (x2:Int)=>(bL (bJ ((iter K (fun (bV:jN × Int)=>(if (decide ((bV.2:Int)<x2))=true then (bL (bJ (bW [cS bV.2 x1.length] ((cH true (bT (F17 K a0 a1 ((x1.getD (bV.2:Int).toNat default).cC))) default).bind (fun iZ=>(bL (bJ (bN (((((x1.getD (bV.2:Int).toNat default).cQ).bP):Int) == 6) (fun (aOZ:Bool)=>(if aOZ=true then (bN (((x1.getD (bV.2:Int).toNat default).cQ).cC) (fun (aJb:Bytes)=>((cH true (bT (F42 K a0 aJb)) default).bind (fun aHf=>((cH true (bT (F11 K a0 aHf)) default).bind (fun wL=>(bW [room ((((bV.1).eS.length)+([wL].length)) * 8)] (some (.inr ((⟨(bV.1).eB,(bV.1).bQ,(bV.1).gW,(((bV.1).eS)++[wL]),(bV.1).fT,(bV.1).gA,(bV.1).bY,(bV.1).kD,(bV.1).gC,(bV.1).kW,(bV.1).fD,(bV.1).fW⟩:jN))))))))))) else (bN (((((x1.getD (bV.2:Int).toNat default).cQ).bP):Int) == 7) (fun (aO0:Bool)=>(if aO0=true then (bN (((x1.getD (bV.2:Int).toNat default).cQ).fLo) (fun (uK:Int)=>(bW [room ((((bV.1).bY.length)+([uK].length)) * 8)] (some (.inr ((⟨(bV.1).eB,(bV.1).bQ,(bV.1).gW,(bV.1).eS,(bV.1).fT,(bV.1).gA,(((bV.1).bY)++[uK]),(bV.1).kD,(bV.1).gC,(bV.1).kW,(bV.1).fD,(bV.1).fW⟩:jN))))))) else (bN ((((x1.getD (bV.2:Int).toNat default).nF):Int) == 1) (fun (aO1:Bool)=>(if aO1=true then (bW [room ((((bV.1).kD.length)+([(⟨iZ,(x1.getD (bV.2:Int).toNat default).gB,(((((x1.getD (bV.2:Int).toNat default).cQ).bP):Int) == 2)⟩:gG)].length)) * 24)] (some (.inr ((⟨(bV.1).eB,(bV.1).bQ,(bV.1).gW,(bV.1).eS,(bV.1).fT,(bV.1).gA,(bV.1).bY,(((bV.1).kD)++[(⟨iZ,(x1.getD (bV.2:Int).toNat default).gB,(((((x1.getD (bV.2:Int).toNat default).cQ).bP):Int) == 2)⟩:gG)]),(bV.1).gC,(bV.1).kW,(bV.1).fD,(bV.1).fW⟩:jN))))) else (bN ((((x1.getD (bV.2:Int).toNat default).nF):Int) == 2) (fun (aO2:Bool)=>(if aO2=true then (bW [room ((((bV.1).gC.length)+([(⟨iZ,(x1.getD (bV.2:Int).toNat default).gB,(((((x1.getD (bV.2:Int).toNat default).cQ).bP):Int) == 2)⟩:gG)].length)) * 24)] (some (.inr ((⟨(bV.1).eB,(bV.1).bQ,(bV.1).gW,(bV.1).eS,(bV.1).fT,(bV.1).gA,(bV.1).bY,(bV.1).kD,(((bV.1).gC)++[(⟨iZ,(x1.getD (bV.2:Int).toNat default).gB,(((((x1.getD (bV.2:Int).toNat default).cQ).bP):Int) == 2)⟩:gG)]),(bV.1).kW,(bV.1).fD,(bV.1).fW⟩:jN))))) else (some (.inr ((bV.1))))))))))))))))) (fun (aMt:jN)=>(some (.inr ((aMt)))))))))) (fun (aRR:jN)=>(some (.inr ((aRR),(IntKind.i64.wrap (bV.2+1))))))) else (some (.inl (Sum.inl ((bV.1))))))) (a2,0)).map .inl)) (fun (zB:jN)=>(some (.inr ((zB)))))))))))
abbrev jT (v0:jN × Int):List Go.Dl.Obj:=[E30.row ((v0.1).eB),uY.row ((v0.1).bQ),E62.row ((v0.1).gW),.dead,E3.row ((v0.1).gA),.dead,.dead,.dead,E85.row ((v0.1).kW)]
abbrev kN (v0:jN × Int):List Go.Dl.Obj:=[E3.row ((v0.1).eS),E3.row ((v0.1).bY),iV.row ((v0.1).kD),iV.row ((v0.1).gC)]
abbrev pM (v0:Int) (v1:(List fE)) (v2:Int) (v3:jN × Int):List (Nat × D):=[sI 1 v0,sP 2 0 0 0,sP 3 10 0 0,(14,.c (eN.tree v1)),sI 15 v2,sI 16 v3.2]
abbrev aO3 (v0:jN):List Go.Dl.Obj:=[.cells (jN.oc (v0) 1 2 3 10 5 11 12 13 9),E30.row ((v0).eB),uY.row ((v0).bQ),E62.row ((v0).gW),.dead,E3.row ((v0).gA),.dead,.dead,.dead,E85.row ((v0).kW),E3.row ((v0).eS),E3.row ((v0).bY),iV.row ((v0).kD),iV.row ((v0).gC)]
abbrev aAx (v0:Int) (v1:(List fE)) (v2:jN × Int):List Go.Dl.Obj:=[.cells [iC v0,iC ((gd v1 v2.2).gB),bC (((((gd v1 v2.2).cQ).bP):Int) == 2)]]
abbrev rZ (v0:jN × Int):List Go.Dl.Obj:=[.cells (jN.oc (v0.1) 1 2 3 11 5 12 13 14 9)]
abbrev qU (v0:(List fE)) (v1:Int) (v2:jN × Int):List (Nat × D):=[(14,.c (eN.tree v0)),sI 15 v1,sI 16 v2.2]
abbrev aHg (v0:Int):List (Nat × D):=[sI 1 v0,sP 2 0 0 0,sP 3 10 0 0,sP 7 11 0 0,sP 8 12 0 0]
abbrev wM (v0:cZ) (v1:(List fE)) (v2:jN × Int):List Go.Dl.Obj:=[.cells (dM.cs v0),eN.o (gd v1 v2.2)]
theorem aU3 (K:Nat) (a0:cZ) (a1:Int) (a2:jN):bS Tryz.prog 41 [.agg (dM.cs a0),.c (.val (.int .i64 a1)),.c (.ptr 0 0 0)] [.cells (jN.oc a2 1 2 3 4 5 6 7 8 9),E30.row a2.eB,uY.row a2.bQ,E62.row a2.gW,E3.row a2.eS,E3.row a2.gA,E3.row a2.bY,iV.row a2.kD,iV.row a2.gC,E85.row a2.kW] (bT (F41 K a0 a1 a2)) (fun r=>.iT []) (fun r=>[.cells (jN.oc r 10 11 12 13 14 15 16 17 18),.dead,.dead,.dead,.dead,.dead,.dead,.dead,.dead,.dead,E30.row r.eB,uY.row r.bQ,E62.row r.gW,E3.row r.eS,E3.row r.gA,E3.row r.bY,iV.row r.kD,iV.row r.gC,E85.row r.kW]):=by
 refine bS.it Tryz.f41 (fun r=>⟨[],[.cells (jN.oc r 10 11 12 13 14 15 16 17 18),.dead,.dead,.dead,.dead,.dead,.dead,.dead,.dead,.dead,E30.row r.eB,uY.row r.bQ,E62.row r.gW,E3.row r.eS,E3.row r.gA,E3.row r.bY,iV.row r.kD,iV.row r.gC,E85.row r.kW],[],10⟩) ?_
 unfold F41
 exact Ref.pt (
  .ck _ <|
  .lt _ fun x1 =>
  .lt _ fun x2 =>
  .bk 0 (fun zB=>⟨[],aO3 zB,[],10⟩) (
   .mv 1 0 4 <|
   .mv 1 0 6 <|
   .mv 1 0 7 <|
   .mv 1 0 8 <|
   .lp [0,1,2,3,4,5,6,7,8,9,11,12,13,14,10] (fun bV=>⟨sI 1 a1::sP 2 0 0 0::sP 3 14 0 0::qU x1 x2 bV,.cells (jN.oc (bV.1) 1 2 3 10 5 11 12 13 9)::(jT bV++kN bV++[.cells (dM.cs a0)]),[],10⟩) fun bV =>
   .ite _ (
    .bk 1 (fun aRR=>⟨sI 1 a1::sP 2 0 0 0::sP 3 14 0 0::qU x1 x2 bV,aO3 aRR++[.cells (dM.cs a0)],[],10⟩) (
     .ck _ <|
     .esc [0,1,2,3,4,5,6,7,8,9,10,11,12,13,14,15] [(cd (bd Tryz.f41) [1,1,0,0,1,1,0,0,1,0]),(cd (bd Tryz.f41) [1,1,0,0,1,1,0,0,1,1])] ⟨sI 1 a1::sP 2 0 0 0::sP 3 14 0 0::sP 7 15 0 0::qU x1 x2 bV,.cells (jN.oc (bV.1) 1 2 3 10 5 11 12 13 9)::(jT bV++kN bV++wM a0 x1 bV),[],10⟩ (by
      refine Ref.eH 4 (by kernel_rfl) (by kernel_rfl) ?_
      refine dN.eW (cR:=⟨sI 1 a1::sP 2 0 0 0::sP 3 14 0 0::sP 7 15 0 0::(qU x1 x2 bV++[sI 21 a1,sP 22 15 0 0,sP 25 15 0 7,sP 28 15 0 1]),.cells (jN.oc (bV.1) 1 2 3 10 5 11 12 13 9)::(jT bV++kN bV++wM a0 x1 bV),[],10⟩) (fuel':=9) [1,2,5,7,8] [1,2,3,7,14,15,16,21,22,25,28] [0,1,2,3,4,5,6,7,8,9,10,11,12,13,14,15] rfl (by kernel_rfl) (by kernel_rfl) ?_
      refine dN.qB [13] ?_
      refine bO.iA (fun (iZ:Int)=>⟨aHg a1++qU x1 x2 bV,.cells (jN.oc (bV.1) 1 2 3 13 5 14 15 16 9)::(jT bV++wM a0 x1 bV++aAx iZ x1 bV++kN bV),[],10⟩) (fun (iZ:Int)=>(bL (bJ (bN (((((gd x1 bV.2).cQ).bP):Int) == 6) (fun (aOZ:Bool)=>(if aOZ=true then (bN (((gd x1 bV.2).cQ).cC) (fun (aJb:Bytes)=>((cH true (bT (F42 K a0 aJb)) default).bind (fun aHf=>((cH true (bT (F11 K a0 aHf)) default).bind (fun wL=>(bW [room ((((bV.1).eS.length)+([wL].length)) * 8)] (some (.inr ((⟨(bV.1).eB,(bV.1).bQ,(bV.1).gW,(((bV.1).eS)++[wL]),(bV.1).fT,(bV.1).gA,(bV.1).bY,(bV.1).kD,(bV.1).gC,(bV.1).kW,(bV.1).fD,(bV.1).fW⟩:jN))))))))))) else (bN (((((gd x1 bV.2).cQ).bP):Int) == 7) (fun (aO0:Bool)=>(if aO0=true then (bN (((gd x1 bV.2).cQ).fLo) (fun (uK:Int)=>(bW [room ((((bV.1).bY.length)+([uK].length)) * 8)] (some (.inr ((⟨(bV.1).eB,(bV.1).bQ,(bV.1).gW,(bV.1).eS,(bV.1).fT,(bV.1).gA,(((bV.1).bY)++[uK]),(bV.1).kD,(bV.1).gC,(bV.1).kW,(bV.1).fD,(bV.1).fW⟩:jN))))))) else (bN ((((gd x1 bV.2).nF):Int) == 1) (fun (aO1:Bool)=>(if aO1=true then (bW [room ((((bV.1).kD.length)+([(⟨iZ,(gd x1 bV.2).gB,(((((gd x1 bV.2).cQ).bP):Int) == 2)⟩:gG)].length)) * 24)] (some (.inr ((⟨(bV.1).eB,(bV.1).bQ,(bV.1).gW,(bV.1).eS,(bV.1).fT,(bV.1).gA,(bV.1).bY,(((bV.1).kD)++[(⟨iZ,(gd x1 bV.2).gB,(((((gd x1 bV.2).cQ).bP):Int) == 2)⟩:gG)]),(bV.1).gC,(bV.1).kW,(bV.1).fD,(bV.1).fW⟩:jN))))) else (bN ((((gd x1 bV.2).nF):Int) == 2) (fun (aO2:Bool)=>(if aO2=true then (bW [room ((((bV.1).gC.length)+([(⟨iZ,(gd x1 bV.2).gB,(((((gd x1 bV.2).cQ).bP):Int) == 2)⟩:gG)].length)) * 24)] (some (.inr ((⟨(bV.1).eB,(bV.1).bQ,(bV.1).gW,(bV.1).eS,(bV.1).fT,(bV.1).gA,(bV.1).bY,(bV.1).kD,(((bV.1).gC)++[(⟨iZ,(gd x1 bV.2).gB,(((((gd x1 bV.2).cQ).bP):Int) == 2)⟩:gG)]),(bV.1).kW,(bV.1).fD,(bV.1).fW⟩:jN))))) else (some (.inr ((bV.1))))))))))))))))) (fun (aMt:jN)=>(some (.inr ((aMt))))))) (fun iZ=>?_) (fun hk=>?_)
      ·
       exact Ref.pt (
        .bk 2 (fun aMt=>⟨sI 1 a1::sP 2 0 0 0::sP 3 14 0 0::qU x1 x2 bV,aO3 aMt++[.cells (dM.cs a0)],[],10⟩) (
         .lt _ fun aOZ =>
         .ite _ (
          .esc [0,1,2,3,4,5,6,7,8,9,10,11,12,13,14,15,16] [(cd (cd (bd Tryz.f41) [1,1,0,0,1,1,0,0,1,1,0,1]) [0])] ⟨aHg a1++qU x1 x2 bV++[sB 32 aOZ],.cells (jN.oc (bV.1) 1 2 3 13 5 14 15 16 9)::(jT bV++wM a0 x1 bV++aAx iZ x1 bV++kN bV),[],10⟩ (by
           refine Ref.eH 6 (by kernel_rfl) (by kernel_rfl) ?_
           refine dN.eW (cR:=⟨pM a1 x1 x2 bV++[sP 37 0 0 0,sP 40 0 0 3,sP 45 11 0 4],.cells (jN.oc (bV.1) 1 2 3 12 5 13 14 15 9)::(jT bV++wM a0 x1 bV++kN bV),[],10⟩) (fuel':=11) [0,1,2,3,7,8] [1,2,3,14,15,16,37,40,45] [0,1,2,3,4,5,6,7,8,9,10,11,13,14,15,16] rfl (by kernel_rfl) (by kernel_rfl) ?_
           refine dN.qB [13,14,15,16] ?_
           refine bO.eW (cR:=⟨pM a1 x1 x2 bV++[sP 37 0 0 0,(41,.c (.own 11 ((bV.1).eS.length))),(42,.agg (dM.cs a0)),(43,.agg (dM.cs a0)),sS 46 (((gd x1 bV.2).cQ).cC)],rZ bV++(jT bV++(.cells (dM.cs a0)::kN bV)),[],10⟩) (fuel':=7) [4,5,6,9] [1,2,3,14,15,16,37,41,42,43,46] [0,1,2,3,4,5,6,7,8,9,10,12,13,14,15] rfl (by kernel_rfl) (by kernel_rfl) ?_
           refine bO.aEH (stf:=fun aJb=>⟨pM a1 x1 x2 bV++[sP 37 0 0 0,(41,.c (.own 11 ((bV.1).eS.length))),(42,.agg (dM.cs a0)),(43,.agg (dM.cs a0)),sS 46 aJb],rZ bV++(jT bV++(.cells (dM.cs a0)::kN bV)),[],10⟩) (by kernel_rfl) (fun aJb=>?_)
           refine bO.lC (t:=47) (g:=[]) (b:=true) (fuel':=6) 10 [] (default:Int) rfl (by kernel_rfl) (by kernel_rfl) (aF8 K a0 aJb) (fun _=>rfl) (fun aHf=>?_)
           refine bO.lC (t:=48) (g:=[]) (b:=true) (fuel':=5) 11 [] (default:Int) rfl (by kernel_rfl) (by kernel_rfl) (aDU K a0 aHf) (fun _=>rfl) (fun wL=>?_)
           refine bO.mX (cR:=⟨pM a1 x1 x2 bV++[sP 37 0 0 0,(41,.c (.own 11 ((bV.1).eS.length))),(49,.c (.own 15 1))],rZ bV++(jT bV++(.cells (dM.cs a0)::(kN bV++[.row 3 1 1 (gY [[iC wL]])]))),[],10⟩) (fuel':=4) 12 [1,2,3,14,15,16,37,41,49] [0,1,2,3,4,5,6,7,8,9,10,11,12,13,14,15] rfl (by kernel_rfl) (by kernel_rfl) ?_
           refine bO.conv (Conv.ob 15 (E3.row [wL]) (El.bZ E3 [wL] rfl (by kernel_rfl))) ?_
           refine bO.conv (Conv.sl 49 (.c (.own 15 ([wL].length))) (eA.c (dY.own (by first | (simp;done) | (simp;omega) | omega)))) ?_
           refine bO.qP [13,14,15,16] rfl (by kernel_rfl) ?_
           refine c6.evC (vs:=[room ((((bV.1).eS.length)+([wL].length)) * 8)]) (cR:=⟨pM a1 x1 x2 bV++[sP 37 0 0 0,(50,.c (.own 15 (((bV.1).eS.length)+([wL].length))))],rZ bV++jT bV++[.cells (dM.cs a0),.dead,E3.row ((bV.1).bY),iV.row ((bV.1).kD),iV.row ((bV.1).gC),.row 3 1 (((bV.1).eS.length)+([wL].length)) fun i j=>bif Nat.blt i ((bV.1).eS.length) then E3.at ((bV.1).eS) i j else (E3.at [wL]) (i - ((bV.1).eS.length)) j],[],10⟩) 0 1 1 [1,2,3,14,15,16,37,50] [0,1,2,3,4,5,6,7,8,9,10,11,12,13,14,16] rfl (by kernel_rfl) ?_
           refine c6.conv (Conv.ob 15 (E3.row (((bV.1).eS)++[wL])) (El.cI E3 ((bV.1).eS) [wL] rfl rfl)) ?_
           refine c6.conv (Conv.sl 50 (.c (.own 15 ((((bV.1).eS)++[wL]).length))) (eA.c (dY.own (by first | (simp;done) | (simp;omega) | omega)))) ?_
           refine c6.en1 1 3 [1,2,3,14,15,16] [0,1,2,3,4,5,6,7,8,9,10,12,13,14,15] ?_
           exact Ref.kn [1,2,3,14,15,16] [0,1,2,3,4,5,6,7,8,9,14,11,12,13,10])) (
          .lt _ fun aO0 =>
          .ite _ (
           .esc [0,1,2,3,4,5,6,7,8,9,10,11,12,13,14,15,16] [(cd (cd (bd Tryz.f41) [1,1,0,0,1,1,0,0,1,1,0,1,1,1]) [0])] ⟨aHg a1++qU x1 x2 bV++[sB 53 aO0],.cells (jN.oc (bV.1) 1 2 3 13 5 14 15 16 9)::(jT bV++wM a0 x1 bV++aAx iZ x1 bV++kN bV),[],10⟩ (by
            refine Ref.eH 8 (by kernel_rfl) (by kernel_rfl) ?_
            refine dN.eW (cR:=⟨pM a1 x1 x2 bV++[sP 58 0 0 0,sP 61 0 0 6,sP 64 11 0 2],.cells (jN.oc (bV.1) 1 2 3 12 5 13 14 15 9)::(jT bV++wM a0 x1 bV++kN bV),[],10⟩) (fuel':=7) [0,1,2,3,5,6] [1,2,3,14,15,16,58,61,64] [0,1,2,3,4,5,6,7,8,9,10,11,13,14,15,16] rfl (by kernel_rfl) (by kernel_rfl) ?_
            refine dN.qB [9,10,11,12] ?_
            refine bO.eW (cR:=⟨pM a1 x1 x2 bV++[sP 58 0 0 0,(62,.c (.own 12 ((bV.1).bY.length))),sI 65 (((gd x1 bV.2).cQ).fLo)],rZ bV++(jT bV++(.cells (dM.cs a0)::kN bV)),[],10⟩) (fuel':=5) [4,7] [1,2,3,14,15,16,58,62,65] [0,1,2,3,4,5,6,7,8,9,10,12,13,14,15] rfl (by kernel_rfl) (by kernel_rfl) ?_
            refine bO.aEH (stf:=fun uK=>⟨pM a1 x1 x2 bV++[sP 58 0 0 0,(62,.c (.own 12 ((bV.1).bY.length))),sI 65 uK],rZ bV++(jT bV++(.cells (dM.cs a0)::kN bV)),[],10⟩) (by kernel_rfl) (fun uK=>?_)
            refine bO.mX (cR:=⟨pM a1 x1 x2 bV++[sP 58 0 0 0,(62,.c (.own 12 ((bV.1).bY.length))),(66,.c (.own 15 1))],rZ bV++(jT bV++(.cells (dM.cs a0)::(kN bV++[.row 3 1 1 (gY [[iC uK]])]))),[],10⟩) (fuel':=4) 8 [1,2,3,14,15,16,58,62,66] [0,1,2,3,4,5,6,7,8,9,10,11,12,13,14,15] rfl (by kernel_rfl) (by kernel_rfl) ?_
            refine bO.conv (Conv.ob 15 (E3.row [uK]) (El.bZ E3 [uK] rfl (by kernel_rfl))) ?_
            refine bO.conv (Conv.sl 66 (.c (.own 15 ([uK].length))) (eA.c (dY.own (by first | (simp;done) | (simp;omega) | omega)))) ?_
            refine bO.qP [9,10,11,12] rfl (by kernel_rfl) ?_
            refine c6.evC (vs:=[room ((((bV.1).bY.length)+([uK].length)) * 8)]) (cR:=⟨pM a1 x1 x2 bV++[sP 58 0 0 0,(67,.c (.own 15 (((bV.1).bY.length)+([uK].length))))],rZ bV++jT bV++[.cells (dM.cs a0),E3.row ((bV.1).eS),.dead,iV.row ((bV.1).kD),iV.row ((bV.1).gC),.row 3 1 (((bV.1).bY.length)+([uK].length)) fun i j=>bif Nat.blt i ((bV.1).bY.length) then E3.at ((bV.1).bY) i j else (E3.at [uK]) (i - ((bV.1).bY.length)) j],[],10⟩) 0 1 1 [1,2,3,14,15,16,58,67] [0,1,2,3,4,5,6,7,8,9,10,11,12,13,14,16] rfl (by kernel_rfl) ?_
            refine c6.conv (Conv.ob 15 (E3.row (((bV.1).bY)++[uK])) (El.cI E3 ((bV.1).bY) [uK] rfl rfl)) ?_
            refine c6.conv (Conv.sl 67 (.c (.own 15 ((((bV.1).bY)++[uK]).length))) (eA.c (dY.own (by first | (simp;done) | (simp;omega) | omega)))) ?_
            refine c6.en1 1 3 [1,2,3,14,15,16] [0,1,2,3,4,5,6,7,8,9,10,11,13,14,15] ?_
            exact Ref.kn [1,2,3,14,15,16] [0,1,2,3,4,5,6,7,8,9,11,14,12,13,10])) (
           .lt _ fun aO1 =>
           .ite _ (
            .esc [0,1,2,3,4,5,6,7,8,9,10,11,12,13,14,15,16] [(cd (cd (bd Tryz.f41) [1,1,0,0,1,1,0,0,1,1,0,1,1,1,1,1]) [0])] ⟨aHg a1++qU x1 x2 bV++[sB 70 aO1],.cells (jN.oc (bV.1) 1 2 3 13 5 14 15 16 9)::(jT bV++wM a0 x1 bV++aAx iZ x1 bV++kN bV),[],10⟩ (by
             refine Ref.eH 10 (by kernel_rfl) (by kernel_rfl) ?_
             refine dN.eW (cR:=⟨sI 1 a1::sP 2 0 0 0::sP 3 10 0 0::sP 8 11 0 0::(qU x1 x2 bV++[sP 74 0 0 0,sP 77 0 0 7]),.cells (jN.oc (bV.1) 1 2 3 12 5 13 14 15 9)::(jT bV++(.cells (dM.cs a0)::(aAx iZ x1 bV++kN bV))),[],10⟩) (fuel':=7) [0,1,2,3] [1,2,3,8,14,15,16,74,77] [0,1,2,3,4,5,6,7,8,9,10,12,13,14,15,16] rfl (by kernel_rfl) (by kernel_rfl) ?_
             refine dN.qB [7,8,9,10] ?_
             refine bO.eW (cR:=⟨pM a1 x1 x2 bV++[sP 74 0 0 0,(78,.c (.own 13 ((bV.1).kD.length))),(79,.agg [iC iZ,iC ((gd x1 bV.2).gB),bC (((((gd x1 bV.2).cQ).bP):Int) == 2)])],rZ bV++(jT bV++(.cells (dM.cs a0)::kN bV)),[],10⟩) (fuel':=5) [4,5] [1,2,3,14,15,16,74,78,79] [0,1,2,3,4,5,6,7,8,9,10,12,13,14,15] rfl (by kernel_rfl) (by kernel_rfl) ?_
             refine bO.mX (cR:=⟨pM a1 x1 x2 bV++[sP 74 0 0 0,(78,.c (.own 13 ((bV.1).kD.length))),(80,.c (.own 15 1))],rZ bV++(jT bV++(.cells (dM.cs a0)::(kN bV++[.row 137 3 1 (gY [[iC iZ,iC ((gd x1 bV.2).gB),bC (((((gd x1 bV.2).cQ).bP):Int) == 2)]])]))),[],10⟩) (fuel':=4) 6 [1,2,3,14,15,16,74,78,80] [0,1,2,3,4,5,6,7,8,9,10,11,12,13,14,15] rfl (by kernel_rfl) (by kernel_rfl) ?_
             refine bO.conv (Conv.ob 15 (iV.row [(⟨iZ,(gd x1 bV.2).gB,(((((gd x1 bV.2).cQ).bP):Int) == 2)⟩:gG)]) (El.bZ iV [(⟨iZ,(gd x1 bV.2).gB,(((((gd x1 bV.2).cQ).bP):Int) == 2)⟩:gG)] rfl (by kernel_rfl))) ?_
             refine bO.conv (Conv.sl 80 (.c (.own 15 ([(⟨iZ,(gd x1 bV.2).gB,(((((gd x1 bV.2).cQ).bP):Int) == 2)⟩:gG)].length))) (eA.c (dY.own (by first | (simp;done) | (simp;omega) | omega)))) ?_
             refine bO.qP [7,8,9,10] rfl (by kernel_rfl) ?_
             refine c6.evC (vs:=[room ((((bV.1).kD.length)+([(⟨iZ,(gd x1 bV.2).gB,(((((gd x1 bV.2).cQ).bP):Int) == 2)⟩:gG)].length)) * 24)]) (cR:=⟨pM a1 x1 x2 bV++[sP 74 0 0 0,(81,.c (.own 15 (((bV.1).kD.length)+([(⟨iZ,(gd x1 bV.2).gB,(((((gd x1 bV.2).cQ).bP):Int) == 2)⟩:gG)].length))))],rZ bV++jT bV++[.cells (dM.cs a0),E3.row ((bV.1).eS),E3.row ((bV.1).bY),.dead,iV.row ((bV.1).gC),.row 137 3 (((bV.1).kD.length)+([(⟨iZ,(gd x1 bV.2).gB,(((((gd x1 bV.2).cQ).bP):Int) == 2)⟩:gG)].length)) fun i j=>bif Nat.blt i ((bV.1).kD.length) then iV.at ((bV.1).kD) i j else (iV.at [(⟨iZ,(gd x1 bV.2).gB,(((((gd x1 bV.2).cQ).bP):Int) == 2)⟩:gG)]) (i - ((bV.1).kD.length)) j],[],10⟩) 0 1 1 [1,2,3,14,15,16,74,81] [0,1,2,3,4,5,6,7,8,9,10,11,12,13,14,16] rfl (by kernel_rfl) ?_
             refine c6.conv (Conv.ob 15 (iV.row (((bV.1).kD)++[(⟨iZ,(gd x1 bV.2).gB,(((((gd x1 bV.2).cQ).bP):Int) == 2)⟩:gG)])) (El.cI iV ((bV.1).kD) [(⟨iZ,(gd x1 bV.2).gB,(((((gd x1 bV.2).cQ).bP):Int) == 2)⟩:gG)] rfl rfl)) ?_
             refine c6.conv (Conv.sl 81 (.c (.own 15 ((((bV.1).kD)++[(⟨iZ,(gd x1 bV.2).gB,(((((gd x1 bV.2).cQ).bP):Int) == 2)⟩:gG)]).length))) (eA.c (dY.own (by first | (simp;done) | (simp;omega) | omega)))) ?_
             refine c6.en1 1 3 [1,2,3,14,15,16] [0,1,2,3,4,5,6,7,8,9,10,11,12,14,15] ?_
             exact Ref.kn [1,2,3,14,15,16] [0,1,2,3,4,5,6,7,8,9,11,12,14,13,10])) (
            .lt _ fun aO2 =>
            .ite _ (
             .esc [0,1,2,3,4,5,6,7,8,9,10,12,13,14,15,16] [(cd (cd (bd Tryz.f41) [1,1,0,0,1,1,0,0,1,1,0,1,1,1,1,1,1,1]) [0])] ⟨sI 1 a1::sP 2 0 0 0::sP 3 10 0 0::sP 8 11 0 0::(qU x1 x2 bV++[sB 84 aO2]),.cells (jN.oc (bV.1) 1 2 3 12 5 13 14 15 9)::(jT bV++(.cells (dM.cs a0)::(aAx iZ x1 bV++kN bV))),[],10⟩ (by
              refine Ref.eH 12 (by kernel_rfl) (by kernel_rfl) ?_
              refine dN.eW (cR:=⟨sI 1 a1::sP 2 0 0 0::sP 3 10 0 0::sP 8 11 0 0::(qU x1 x2 bV++[sP 88 0 0 0,sP 91 0 0 8]),.cells (jN.oc (bV.1) 1 2 3 12 5 13 14 15 9)::(jT bV++(.cells (dM.cs a0)::(aAx iZ x1 bV++kN bV))),[],10⟩) (fuel':=7) [0,1,2,3] [1,2,3,8,14,15,16,88,91] [0,1,2,3,4,5,6,7,8,9,10,11,12,13,14,15] rfl (by kernel_rfl) (by kernel_rfl) ?_
              refine dN.qB [7,8,9,10] ?_
              refine bO.eW (cR:=⟨pM a1 x1 x2 bV++[sP 88 0 0 0,(92,.c (.own 14 ((bV.1).gC.length))),(93,.agg [iC iZ,iC ((gd x1 bV.2).gB),bC (((((gd x1 bV.2).cQ).bP):Int) == 2)])],rZ bV++(jT bV++(.cells (dM.cs a0)::kN bV)),[],10⟩) (fuel':=5) [4,5] [1,2,3,14,15,16,88,92,93] [0,1,2,3,4,5,6,7,8,9,10,12,13,14,15] rfl (by kernel_rfl) (by kernel_rfl) ?_
              refine bO.mX (cR:=⟨pM a1 x1 x2 bV++[sP 88 0 0 0,(92,.c (.own 14 ((bV.1).gC.length))),(94,.c (.own 15 1))],rZ bV++(jT bV++(.cells (dM.cs a0)::(kN bV++[.row 137 3 1 (gY [[iC iZ,iC ((gd x1 bV.2).gB),bC (((((gd x1 bV.2).cQ).bP):Int) == 2)]])]))),[],10⟩) (fuel':=4) 6 [1,2,3,14,15,16,88,92,94] [0,1,2,3,4,5,6,7,8,9,10,11,12,13,14,15] rfl (by kernel_rfl) (by kernel_rfl) ?_
              refine bO.conv (Conv.ob 15 (iV.row [(⟨iZ,(gd x1 bV.2).gB,(((((gd x1 bV.2).cQ).bP):Int) == 2)⟩:gG)]) (El.bZ iV [(⟨iZ,(gd x1 bV.2).gB,(((((gd x1 bV.2).cQ).bP):Int) == 2)⟩:gG)] rfl (by kernel_rfl))) ?_
              refine bO.conv (Conv.sl 94 (.c (.own 15 ([(⟨iZ,(gd x1 bV.2).gB,(((((gd x1 bV.2).cQ).bP):Int) == 2)⟩:gG)].length))) (eA.c (dY.own (by first | (simp;done) | (simp;omega) | omega)))) ?_
              refine bO.qP [7,8,9,10] rfl (by kernel_rfl) ?_
              refine c6.evC (vs:=[room ((((bV.1).gC.length)+([(⟨iZ,(gd x1 bV.2).gB,(((((gd x1 bV.2).cQ).bP):Int) == 2)⟩:gG)].length)) * 24)]) (cR:=⟨pM a1 x1 x2 bV++[sP 88 0 0 0,(95,.c (.own 15 (((bV.1).gC.length)+([(⟨iZ,(gd x1 bV.2).gB,(((((gd x1 bV.2).cQ).bP):Int) == 2)⟩:gG)].length))))],rZ bV++jT bV++[.cells (dM.cs a0),E3.row ((bV.1).eS),E3.row ((bV.1).bY),iV.row ((bV.1).kD),.dead,.row 137 3 (((bV.1).gC.length)+([(⟨iZ,(gd x1 bV.2).gB,(((((gd x1 bV.2).cQ).bP):Int) == 2)⟩:gG)].length)) fun i j=>bif Nat.blt i ((bV.1).gC.length) then iV.at ((bV.1).gC) i j else (iV.at [(⟨iZ,(gd x1 bV.2).gB,(((((gd x1 bV.2).cQ).bP):Int) == 2)⟩:gG)]) (i - ((bV.1).gC.length)) j],[],10⟩) 0 1 1 [1,2,3,14,15,16,88,95] [0,1,2,3,4,5,6,7,8,9,10,11,12,13,14,16] rfl (by kernel_rfl) ?_
              refine c6.conv (Conv.ob 15 (iV.row (((bV.1).gC)++[(⟨iZ,(gd x1 bV.2).gB,(((((gd x1 bV.2).cQ).bP):Int) == 2)⟩:gG)])) (El.cI iV ((bV.1).gC) [(⟨iZ,(gd x1 bV.2).gB,(((((gd x1 bV.2).cQ).bP):Int) == 2)⟩:gG)] rfl rfl)) ?_
              refine c6.conv (Conv.sl 95 (.c (.own 15 ((((bV.1).gC)++[(⟨iZ,(gd x1 bV.2).gB,(((((gd x1 bV.2).cQ).bP):Int) == 2)⟩:gG)]).length))) (eA.c (dY.own (by first | (simp;done) | (simp;omega) | omega)))) ?_
              refine c6.en1 1 3 [1,2,3,14,15,16] [0,1,2,3,4,5,6,7,8,9,10,11,12,13,15] ?_
              exact Ref.kn [1,2,3,14,15,16] [0,1,2,3,4,5,6,7,8,9,11,12,13,14,10])) (
             .nil [0,1,2,3,4,5,6,7,8,9,13,14,15,16,10] _))))) fun aMt =>
        .nil [0,1,2,3,4,5,6,7,8,9,10,11,12,13,14] _)
      ·
       refine bO.v0 (fuel':=4) [0,3,6,9,10] [1,2,3,7,14,15,16,20,21,23,26,30] [0,1,2,3,4,5,6,7,8,9,10,11,12,13,14,15] ?_
       refine bO.lC (t:=24) (g:=[]) (b:=true) (fuel':=3) 4 [] (default:Int) rfl (by kernel_rfl) (by kernel_rfl) (aJa K a0 a1 ((gd x1 bV.2).cC)) (fun _=>rfl) (fun iZ=>?_)
       refine bO.v0 (fuel':=2) [11] [1,2,3,7,14,15,16,31] [0,1,2,3,4,5,6,7,8,9,10,11,12,13,14,15] ?_
       refine bO.cM (fuel':=1) 12 (by kernel_rfl) ?_
       refine cF.iY (cR:=⟨sI 1 a1::sP 2 0 0 0::sP 3 14 0 0::sP 7 15 0 0::sP 8 16 0 0::(qU x1 x2 bV++[(31,.agg [iC iZ,iC ((gd x1 bV.2).gB),bC (((((gd x1 bV.2).cQ).bP):Int) == 2)])]),.cells (jN.oc (bV.1) 1 2 3 10 5 11 12 13 9)::(jT bV++kN bV++wM a0 x1 bV++[.cells [iC 0,iC 0,bC false]]),[],10⟩) 12 [1,2,3,7,8,14,15,16,31] [0,1,2,3,4,5,6,7,8,9,10,11,12,13,14,15,16] (by kernel_rfl) (by kernel_rfl) ?_
       refine bO.qP [13] rfl (by kernel_rfl) ?_
       refine c6.en 0 1 ⟨sI 1 a1::sP 2 0 0 0::sP 3 14 0 0::sP 7 15 0 0::sP 8 16 0 0::qU x1 x2 bV,.cells (jN.oc (bV.1) 1 2 3 10 5 11 12 13 9)::(jT bV++kN bV++wM a0 x1 bV++aAx iZ x1 bV),[],10⟩ [1,2,3,7,8,14,15,16] [0,1,2,3,4,5,6,7,8,9,10,11,12,13,14,15,16] ?_
       refine Ref.ck ⟨aHg a1++qU x1 x2 bV,.cells (jN.oc (bV.1) 1 2 3 13 5 14 15 16 9)::(jT bV++wM a0 x1 bV++aAx iZ x1 bV++kN bV),[],10⟩ [1,2,3,7,8,14,15,16] [0,1,2,3,4,5,6,7,8,9,14,15,16,10,11,12,13] ?_
       exact hk iZ)) fun aRR =>
    .nil [0,1,2,3,4,5,6,7,8,9,10,11,12,13,14] _) (
    .ret [0,1,2,3,4,5,6,7,8,9,10,11,12,13] _)) fun zB =>
  .mv 1000000 0 1 <|
  .mv 1000000 0 2 <|
  .mv 1000000 0 3 <|
  .mv 1000000 0 5 <|
  .mv 1000000 0 9 <|
  .nil [0,1,2,3,4,5,6,7,8,9,14,15,16,10,17,11,12,13,18] _)
end Go.Proofs.YtdbfbedholdjaaaGreat
