/- No conditions. -/
import Derived.Test.YtdbfbedholdjaaaGreatLn
import Derived.Test.YtdbfbedholdjaaaGreatBL
import Derived.Test.YtdbfbedholdjaaaGreatLq
import Derived.Test.YtdbfbedholdjaaaGreatProg
set_option linter.unusedVariables false
set_option linter.unusedSimpArgs false
set_option linter.unusedSectionVars false
namespace Go.Proofs.YtdbfbedholdjaaaGreat
open Go Go.Proofs Go.Dl
variable [eC]
set_option maxRecDepth 100000
set_option maxHeartbeats 4000000
def F40 (K:Nat) (a0:dD) (a1:Int):Option ((S56) ⊕ (S56)) :=
 ((bU (F52 K a0 a1)).bind (fun r1=>((cK true (bU (F36 K r1)) default).bind (fun r2=>((bU (F52 K a0 a1)).bind (fun r3=>((bU (F38 K r3)).bind (fun r4=>((bU (F10 K a0 a1)).bind (fun r6=>(bM (if (decide (((Int.ofNat r6.length):Int) > 1))=true then (bW [cS 1 r6.length] ((cK true (bU (F11 K a0 (r6.getD (1:Int).toNat default))) default).bind (fun r9=>(some (.inr (r9)))))) else (some (.inr ((-1))))) (fun (u8:Int)=>((bU (F49 K a0 a1)).bind (fun jZ=>(bM (bL ((iter K (fun (gZ:(List Int) × (List Bytes) × Int)=>(bO (decide ((gZ.2.2:Int)<(Int.ofNat jZ.length))) (fun (x58:Bool)=>(if x58=true then (bM (bL (bW [cS gZ.2.2 jZ.length] ((bU (F87 K a0 a1 (jZ.getD (gZ.2.2:Int).toNat default))).bind (fun tP=>((cK true (bU (F19 K a0 tP.1)) default).bind (fun vB=>(bW [room ((gZ.1.length+([vB].length)) * 8)] (bW [cS tP.1.dA a0.bK.length,cS tP.1.dH ((a0.bK.getD (tP.1.dA:Int).toNat default).bN).length] ((cK true (bU (F39 K (((a0.bK.getD (tP.1.dA:Int).toNat default).bN).getD (tP.1.dH:Int).toNat default))) default).bind (fun r65=>(bW [room ((gZ.2.1.length+([r65].length)) * 16)] (some (.inr ((gZ.1++[vB]),(gZ.2.1++[r65]))))))))))))))) (fun (u62:(List Int) × (List Bytes))=>(some (.inr (u62.1,u62.2,(IntKind.i64.wrap (gZ.2.2+1))))))) else (some (.inl (Sum.inl (gZ.1,gZ.2.1)))))))) ([],[],0)).map .inl)) (fun (s9:(List Int) × (List Bytes))=>((bU (aMc K a0 a1)).bind (fun r66=>((bU (F89 K r66)).bind (fun mF=>(bW [decide (r66.length=mF.length)] (bM (bL ((iter K (fun (iH:(List nM) × Int)=>(bO (decide ((iH.2:Int)<(Int.ofNat mF.length))) (fun (aRL:Bool)=>(if aRL=true then (bM (bL (bW [cS iH.2 mF.length] ((bU (F22 K a0 (mF.getD ((iH.2:Int).toNat) default))).bind (fun pL=>(bW [cS (mF.getD ((iH.2:Int).toNat) default) a0.bK.length] (bO ((a0.bK.getD ((mF.getD ((iH.2:Int).toNat) default):Int).toNat default).bN) (fun (wT:(List iI))=>(bO (Int.ofNat ((a0.bK.getD ((mF.getD ((iH.2:Int).toNat) default):Int).toNat default).bN).length) (fun (aCh:Int)=>(bM (bL ((iter K (fun (jE:(List Int) × Int)=>(if (decide ((jE.2:Int)<aCh))=true then (bM (bL (bW [cS jE.2 wT.length] (bO ((wT.getD (jE.2:Int).toNat default).cG) (fun (aJm:Bytes)=>((cK true (bU (F90 K a0 a1 aJm)) default).bind (fun wU=>(bW [room ((jE.1.length+([wU].length)) * 8)] (some (.inr ((jE.1++[wU]))))))))))) (fun (aJn:(List Int))=>(some (.inr (aJn,(IntKind.i64.wrap (jE.2+1))))))) else (some (.inl (Sum.inl (jE.1)))))) ([],0)).map .inl)) (fun (uP:(List Int))=>(bW [room ((iH.1.length+([(⟨pL,uP⟩:nM)].length)) * 32)] (some (.inr ((iH.1++[(⟨pL,uP⟩:nM)])))))))))))))))) (fun (aEG:(List nM))=>(some (.inr (aEG,(IntKind.i64.wrap (iH.2+1))))))) else (some (.inl (Sum.inl (iH.1)))))))) ([],0)).map .inl)) (fun (aJo:(List nM))=>(some (.inl ((⟨u8,r2,r4,s9.1,s9.2,aJo⟩:S56)))))))))))))))))))))))))))
abbrev yD (v0:dD) (v1:Int) (v2:Bytes) (v3:(List Int)) (v4:(List Int) × (List Bytes)) (v5:(List nM) × Int):List Go.Dl.Obj:=[.cells (dQ.cs v0),oX2,.cells [iC v1,.str v2,E3.tree v3,.own 3 v4.1.length,.own 4 v4.2.length,.own 5 v5.1.length],E3.row v4.1,E9.row v4.2,aBo.row v5.1]
abbrev iP (v0:Int):List (Nat × D):=[sI 1 v0,sP 2 0 0 0,sP 4 1 0 0,sP 5 2 0 0]
abbrev yE (v0:dD) (v1:Bytes) (v2:(List Int)):List Go.Dl.Obj:=[.cells (dQ.cs v0),oX2,.cells [iC (-1),.str v1,E3.tree v2,.nil,.nil,.nil]]
abbrev yF (v0:List Bytes) (v1:(List Int) × (List Bytes) × Int):List (Nat × D):=[(40,.c (E9.tree v0)),sI 41 (Int.ofNat v0.length),sI 42 v1.2.2]
abbrev aKP (v0:dD) (v1:Int) (v2:Bytes) (v3:(List Int)) (v4:(List Int) × (List Bytes) × Int):List Go.Dl.Obj:=[.cells (dQ.cs v0),oX2,.cells [iC v1,.str v2,E3.tree v3,.own 3 v4.1.length,.own 4 v4.2.1.length,.nil],E3.row v4.1,E9.row v4.2.1]
abbrev aBZ (v0:(List nM) × Int) (v1:(List iI)) (v2:Int) (v3:(List Int) × Int):List (Nat × D):=[sI 86 v0.2,(99,.c (kT.tree v1)),sI 100 v2,sI 101 v3.2]
abbrev aE7 (v0:Int) (v1:(List Int) × Int):List Go.Dl.Obj:=[.cells [iC v0,.own 7 v1.1.length],E3.row v1.1]
theorem aUX (K:Nat) (a0:dD) (a1:Int):bR Tryz.prog 40 [.agg (dQ.cs a0),.c (.val (.int .i64 a1))] [] (bU (F40 K a0 a1)) (fun r=>.agg (E56.cs r)) (fun r=>[.cells (E56.cs r)]):=by
 refine bR.it Tryz.f40 (fun r=>⟨[sP 4 0 0 0],[.cells (E56.cs r)],[],0⟩) ?_
 unfold F40
 exact Ref.pt (
  .esc [0,1] [(cd (bd Tryz.f40) [1,0]),(cd (bd Tryz.f40) [1,1])] ⟨[sI 1 a1,sP 2 0 0 0,sP 4 1 0 0],[.cells (dQ.cs a0),oX2],[],0⟩ (by
   refine Ref.eR 1 (by kernel_rfl) (by kernel_rfl) ?_
   refine dV.fE (cR:=⟨[sI 1 a1,sP 2 0 0 0,sP 4 1 0 0,sI 18 a1,sI 22 a1],[.cells (dQ.cs a0),oX2],[],0⟩) (fuel':=9) [1,5] [1,2,4,18,22] [0,1] rfl (by kernel_rfl) (by kernel_rfl) ?_
   refine dV.rG [2,6,7,10] ?_
   refine bQ.aNo (fun (r2:Bytes) (r4:(List Int))=>⟨iP a1,yE a0 r2 r4,[],0⟩) (fun (r2:Bytes) (r4:(List Int))=>((bU (F10 K a0 a1)).bind (fun r6=>(bM (if (decide ((Int.ofNat r6.length) > 1))=true then (bW [cS 1 r6.length] ((cK true (bU (F11 K a0 (gd r6 1))) default).bind (fun r9=>(some (.inr (r9)))))) else (some (.inr ((-1))))) (fun (u8:Int)=>((bU (F49 K a0 a1)).bind (fun jZ=>(bM (bL ((iter K (fun (gZ:(List Int) × (List Bytes) × Int)=>(bO (decide ((gZ.2.2:Int)<(Int.ofNat jZ.length))) (fun (x58:Bool)=>(if x58=true then (bM (bL (bW [cS gZ.2.2 jZ.length] ((bU (F87 K a0 a1 (gd jZ gZ.2.2))).bind (fun tP=>((cK true (bU (F19 K a0 tP.1)) default).bind (fun vB=>(bW [room ((gZ.1.length+([vB].length)) * 8)] (bW [cS tP.1.dA a0.bK.length,cS tP.1.dH ((gd a0.bK tP.1.dA).bN).length] ((cK true (bU (F39 K (gd ((gd a0.bK tP.1.dA).bN) tP.1.dH))) default).bind (fun r65=>(bW [room ((gZ.2.1.length+([r65].length)) * 16)] (some (.inr ((gZ.1++[vB]),(gZ.2.1++[r65]))))))))))))))) (fun (u62:(List Int) × (List Bytes))=>(some (.inr (u62.1,u62.2,(IntKind.i64.wrap (gZ.2.2+1))))))) else (some (.inl (Sum.inl (gZ.1,gZ.2.1)))))))) ([],[],0)).map .inl)) (fun (s9:(List Int) × (List Bytes))=>((bU (aMc K a0 a1)).bind (fun r66=>((bU (F89 K r66)).bind (fun mF=>(bW [decide (r66.length=mF.length)] (bM (bL ((iter K (fun (iH:(List nM) × Int)=>(bO (decide ((iH.2:Int)<(Int.ofNat mF.length))) (fun (aRL:Bool)=>(if aRL=true then (bM (bL (bW [cS iH.2 mF.length] ((bU (F22 K a0 (mF.getD ((iH.2:Int).toNat) default))).bind (fun pL=>(bW [cS (mF.getD ((iH.2:Int).toNat) default) a0.bK.length] (bO ((a0.bK.getD ((mF.getD ((iH.2:Int).toNat) default):Int).toNat default).bN) (fun (wT:(List iI))=>(bO (Int.ofNat ((a0.bK.getD ((mF.getD ((iH.2:Int).toNat) default):Int).toNat default).bN).length) (fun (aCh:Int)=>(bM (bL ((iter K (fun (jE:(List Int) × Int)=>(if (decide ((jE.2:Int)<aCh))=true then (bM (bL (bW [cS jE.2 wT.length] (bO ((gd wT jE.2).cG) (fun (aJm:Bytes)=>((cK true (bU (F90 K a0 a1 aJm)) default).bind (fun wU=>(bW [room ((jE.1.length+([wU].length)) * 8)] (some (.inr ((jE.1++[wU]))))))))))) (fun (aJn:(List Int))=>(some (.inr (aJn,(IntKind.i64.wrap (jE.2+1))))))) else (some (.inl (Sum.inl (jE.1)))))) ([],0)).map .inl)) (fun (uP:(List Int))=>(bW [room ((iH.1.length+([(⟨pL,uP⟩:nM)].length)) * 32)] (some (.inr ((iH.1++[(⟨pL,uP⟩:nM)])))))))))))))))) (fun (aEG:(List nM))=>(some (.inr (aEG,(IntKind.i64.wrap (iH.2+1))))))) else (some (.inl (Sum.inl (iH.1)))))))) ([],0)).map .inl)) (fun (aJo:(List nM))=>(some (.inl ((⟨u8,r2,r4,s9.1,s9.2,aJo⟩:S56)))))))))))))))))))) (fun r2 r4=>?_) (fun hk=>?_)
   ·
    exact Ref.pt (
     .call [] (aCL _ _ _) fun r6 =>
     .jn (fun u8=>⟨iP a1,[.cells (dQ.cs a0),oX2,.cells [iC u8,.str r2,E3.tree r4,.nil,.nil,.nil]],[],0⟩) (
      .ite _ (
       .mT [1,2] _ <|
       .tx [6] <|
       .ex [0,3] <|
       .gB 4 (default:Int) _ [] (aIY K a0 (gd r6 1)) (fun _=>rfl) fun r9 =>
       .ex [5] <|
       .tl [6] <|
       .nil [0,1,2] _) (
       .nil [0,1,2] _)) fun u8 =>
     .call [] (aTr _ _ _) fun jZ =>
     .bk 0 (fun s9=>⟨iP a1,[.cells (dQ.cs a0),oX2,.cells [iC u8,.str r2,E3.tree r4,.own 3 s9.1.length,.own 4 s9.2.length,.nil],E3.row s9.1,E9.row s9.2],[],0⟩) (
      .adc 5 0 2 3 E3.ty E3.w (E3.at []) <|
      .adc 5 0 2 4 E9.ty E9.w (E9.at []) <|
      .lp [0,1,2,3,4] (fun gZ=>⟨iP a1++yF jZ gZ,aKP a0 u8 r2 r4 gZ,[],0⟩) fun gZ =>
      .lt _ fun x58 =>
      .ite _ (
       .bk 1 (fun u62=>⟨iP a1++yF jZ gZ,[.cells (dQ.cs a0),oX2,.cells [iC u8,.str r2,E3.tree r4,.own 3 u62.1.length,.own 4 u62.2.length,.nil],E3.row u62.1,E9.row u62.2],[],0⟩) (
        .ck _ <|
        .call [] (aOr _ _ _ _) fun tP =>
        .esc [0,1,2,3,4,6] [(cd (bd Tryz.f40) [1,1,1,0,1,0,0,1,1,0,0,1,1,0]),(cd (bd Tryz.f40) [1,1,1,0,1,0,0,1,1,0,0,1,1,1])] ⟨iP a1++(sP 9 5 0 0::yF jZ gZ),aKP a0 u8 r2 r4 gZ++[.cells (dS.cs tP.1)],[],0⟩ (by
         refine Ref.eR 9 (by kernel_rfl) (by kernel_rfl) ?_
         refine dV.fE (cR:=⟨iP a1++(sP 9 5 0 0::(yF jZ gZ++[sP 53 2 0 3])),aKP a0 u8 r2 r4 gZ++[.cells (dS.cs tP.1)],[],0⟩) (fuel':=8) [0] [1,2,4,5,9,40,41,42,53] [0,1,2,3,4,5] rfl (by kernel_rfl) (by kernel_rfl) ?_
         refine dV.rG [6,7,8] ?_
         refine bQ.v0 (fuel':=5) [1,2,3] [1,2,4,5,9,40,41,42,54,55,56] [0,1,2,3,4,5] ?_
         refine bQ.lV (t:=57) (g:=[]) (b:=true) (fuel':=4) 4 [] (default:Int) rfl (by kernel_rfl) (by kernel_rfl) (aIZ K a0 tP.1) (fun _=>rfl) (fun vB=>?_)
         refine bQ.nC (cR:=⟨iP a1++(sP 9 5 0 0::(yF jZ gZ++[(54,.c (.own 3 gZ.1.length)),(58,.c (.own 6 1))])),aKP a0 u8 r2 r4 gZ++[.cells (dS.cs tP.1),.row 3 1 1 (hG [[iC vB]])],[],0⟩) (fuel':=3) 5 [1,2,4,5,9,40,41,42,54,58] [0,1,2,3,4,5,6] rfl (by kernel_rfl) (by kernel_rfl) ?_
         refine bQ.conv (Conv.ob 6 (E3.row [vB]) (El.bZ E3 [vB] rfl (by kernel_rfl))) ?_
         refine bQ.conv (Conv.sl 58 (.c (.own 6 ([vB].length))) (eG.c (eD.own (by first | (simp;done) | (simp;omega) | omega)))) ?_
         refine bQ.qM [6,7,8] rfl (by kernel_rfl) ?_
         refine cY.evC (vs:=[room ((gZ.1.length+([vB].length)) * 8)]) (cR:=⟨iP a1++(sP 9 5 0 0::(yF jZ gZ++[(59,.c (.own 6 (gZ.1.length+([vB].length))))])),[.cells (dQ.cs a0),oX2,.cells [iC u8,.str r2,E3.tree r4,.own 3 gZ.1.length,.own 4 gZ.2.1.length,.nil],.dead,E9.row gZ.2.1,.cells (dS.cs tP.1),.row 3 1 (gZ.1.length+([vB].length)) fun i j=>bif Nat.blt i gZ.1.length then E3.at gZ.1 i j else (E3.at [vB]) (i - gZ.1.length) j],[],0⟩) 0 1 1 [1,2,4,5,9,40,41,42,59] [0,1,2,3,4,5,7] rfl (by kernel_rfl) ?_
         refine cY.conv (Conv.ob 6 (E3.row (gZ.1++[vB])) (El.cH E3 gZ.1 [vB] rfl rfl)) ?_
         refine cY.conv (Conv.sl 59 (.c (.own 6 ((gZ.1++[vB]).length))) (eG.c (eD.own (by first | (simp;done) | (simp;omega) | omega)))) ?_
         refine cY.en 1 2 ⟨iP a1++(sP 9 4 0 0::yF jZ gZ),[.cells (dQ.cs a0),oX2,.cells [iC u8,.str r2,E3.tree r4,.own 5 ((gZ.1++[vB]).length),.own 3 gZ.2.1.length,.nil],E9.row gZ.2.1,.cells (dS.cs tP.1),E3.row (gZ.1++[vB])],[],0⟩ [1,2,4,5,9,40,41,42] [0,1,2,4,5,6] ?_
         refine Ref.eR 10 (by kernel_rfl) (by kernel_rfl) ?_
         refine dV.fE (cR:=⟨iP a1++yF jZ gZ++[sP 61 2 0 4,sP 63 0 0 0,sP 65 4 0 0,sP 70 4 0 1],[.cells (dQ.cs a0),oX2,.cells [iC u8,.str r2,E3.tree r4,.own 5 ((gZ.1++[vB]).length),.own 3 gZ.2.1.length,.nil],E9.row gZ.2.1,.cells (dS.cs tP.1),E3.row (gZ.1++[vB])],[],0⟩) (fuel':=14) [0,2,4,9] [1,2,4,5,40,41,42,61,63,65,70] [0,1,2,3,4,5] rfl (by kernel_rfl) (by kernel_rfl) ?_
         refine dV.rG [15,16,17] ?_
         refine bQ.v1 (fuel':=5) [cS tP.1.dA a0.bK.length,cS tP.1.dH ((gd a0.bK tP.1.dA).bN).length] [1,3,5,6,7,8,10,11,12] [1,2,4,5,40,41,42,62,73] [0,1,2,3,5] ?_
         refine bQ.lV (t:=74) (g:=[]) (b:=true) (fuel':=4) 13 [] (default:Bytes) rfl (by kernel_rfl) (by kernel_rfl) (aOG K (gd ((gd a0.bK tP.1.dA).bN) tP.1.dH)) (fun _=>rfl) (fun r65=>?_)
         refine bQ.nC (cR:=⟨iP a1++yF jZ gZ++[(62,.c (.own 3 gZ.2.1.length)),(75,.c (.own 5 1))],[.cells (dQ.cs a0),oX2,.cells [iC u8,.str r2,E3.tree r4,.own 4 ((gZ.1++[vB]).length),.own 3 gZ.2.1.length,.nil],E9.row gZ.2.1,E3.row (gZ.1++[vB]),.row 9 1 1 (hG [[.str r65]])],[],0⟩) (fuel':=3) 14 [1,2,4,5,40,41,42,62,75] [0,1,2,3,4,5] rfl (by kernel_rfl) (by kernel_rfl) ?_
         refine bQ.conv (Conv.ob 5 (E9.row [r65]) (El.bZ E9 [r65] rfl (by kernel_rfl))) ?_
         refine bQ.conv (Conv.sl 75 (.c (.own 5 ([r65].length))) (eG.c (eD.own (by first | (simp;done) | (simp;omega) | omega)))) ?_
         refine bQ.qM [15,16,17] rfl (by kernel_rfl) ?_
         refine cY.evC (vs:=[room ((gZ.2.1.length+([r65].length)) * 16)]) (cR:=⟨iP a1++yF jZ gZ++[(76,.c (.own 5 (gZ.2.1.length+([r65].length))))],[.cells (dQ.cs a0),oX2,.cells [iC u8,.str r2,E3.tree r4,.own 4 ((gZ.1++[vB]).length),.own 3 gZ.2.1.length,.nil],.dead,E3.row (gZ.1++[vB]),.row 9 1 (gZ.2.1.length+([r65].length)) fun i j=>bif Nat.blt i gZ.2.1.length then E9.at gZ.2.1 i j else (E9.at [r65]) (i - gZ.2.1.length) j],[],0⟩) 0 1 1 [1,2,4,5,40,41,42,76] [0,1,2,3,4,6] rfl (by kernel_rfl) ?_
         refine cY.conv (Conv.ob 5 (E9.row (gZ.2.1++[r65])) (El.cH E9 gZ.2.1 [r65] rfl rfl)) ?_
         refine cY.conv (Conv.sl 76 (.c (.own 5 ((gZ.2.1++[r65]).length))) (eG.c (eD.own (by first | (simp;done) | (simp;omega) | omega)))) ?_
         refine cY.en1 1 2 [1,2,4,5,40,41,42] [0,1,2,4,5] ?_
         exact Ref.n0)) fun u62 =>
       .nil [0,1,2,3,4] _) (
       .ret [0,1,2,3,4] _)) fun s9 =>
     .call [] (aRl _ _ _) fun r66 =>
     .call [5] (aTv _ _) fun mF =>
     .aEC [0,1,2,3,4,5] 13 (rg (cd (bd Tryz.f40) [1,1,1,1,1,0])) ((rg (cd (bd Tryz.f40) [1,1,1,1,1,0])).toList.drop 2) [(cd (bd Tryz.f40) [1,1,1,1,1,1])] ⟨iP a1++[(11,.c (.own 5 r66.length)),(82,.c (.own 5 r66.length)),(83,.iV [])],[.cells (dQ.cs a0),oX2,.cells [iC u8,.str r2,E3.tree r4,.own 3 s9.1.length,.own 4 s9.2.length,.nil],E3.row s9.1,E9.row s9.2,E3.row mF],[],0⟩ (by
      refine cY.aV6 (decide (r66.length=mF.length)) (fun hl1=>?_)
      exact cY.pt (id:=13) (
       .sl 13 0 11 (x:=.c (.own 5 r66.length)) (y:=(.c (.own 5 mF.length))) (eG.c (eD.own (of_decide_eq_true hl1))) <|
       .sl 13 0 82 (x:=.c (.own 5 r66.length)) (y:=(.c (.own 5 mF.length))) (eG.c (eD.own (of_decide_eq_true hl1))) <|
       .bk 2 (fun aJo=>⟨[sP 4 0 0 0,sP 5 1 0 0],[oX2,.cells [iC u8,.str r2,E3.tree r4,.own 2 s9.1.length,.own 3 s9.2.length,.own 4 aJo.length],E3.row s9.1,E9.row s9.2,aBo.row aJo],[],0⟩) (
        .adc 14 0 2 5 aBo.ty aBo.w (aBo.at []) <|
        .lp [0,1,2,3,4,6,5] (fun iH=>⟨iP a1++[(84,.c (.own 6 mF.length)),sI 85 (Int.ofNat mF.length),sI 86 iH.2],yD a0 u8 r2 r4 s9 iH++[E3.row mF],[],0⟩) fun iH =>
        .lt _ fun aRL =>
        .ite _ (
         .bk 3 (fun aEG=>⟨iP a1++[(84,.c (.own 6 mF.length)),sI 85 (Int.ofNat mF.length),sI 86 iH.2],[.cells (dQ.cs a0),oX2,.cells [iC u8,.str r2,E3.tree r4,.own 3 s9.1.length,.own 4 s9.2.length,.own 5 aEG.length],E3.row s9.1,E9.row s9.2,aBo.row aEG,E3.row mF],[],0⟩) (
          .ck _ <|
          .call [] (aUn _ _ _) fun pL =>
          .ck _ <|
          .lt _ fun wT =>
          .lt _ fun aCh =>
          .bk 4 (fun uP=>⟨iP a1++[sP 14 6 0 0,(84,.c (.own 8 mF.length)),sI 85 (Int.ofNat mF.length),sI 86 iH.2],yD a0 u8 r2 r4 s9 iH++[.cells [iC pL,.own 7 uP.length],E3.row uP,E3.row mF],[],0⟩) (
           .adc 18 0 7 1 E3.ty E3.w (E3.at []) <|
           .lp [0,1,2,3,4,5,7,8,6] (fun jE=>⟨iP a1++(sP 14 6 0 0::(84,.c (.own 8 mF.length))::sI 85 (Int.ofNat mF.length)::aBZ iH wT aCh jE),yD a0 u8 r2 r4 s9 iH++aE7 pL jE++[E3.row mF],[],0⟩) fun jE =>
           .ite _ (
            .bk 5 (fun aJn=>⟨iP a1++(sP 14 6 0 0::(84,.c (.own 8 mF.length))::sI 85 (Int.ofNat mF.length)::aBZ iH wT aCh jE),yD a0 u8 r2 r4 s9 iH++[.cells [iC pL,.own 7 aJn.length],E3.row aJn,E3.row mF],[],0⟩) (
             .ck _ <|
             .esc [0,1,2,3,4,5,6,7,8,9] [(cd (bd Tryz.f40) [1,1,1,1,1,1,0,1,0,0,1,1,0,0,1,1,0,1,0,0,1,1,0,0,1])] ⟨iP a1++(sP 14 6 0 0::sP 16 9 0 0::(84,.c (.own 8 mF.length))::sI 85 (Int.ofNat mF.length)::aBZ iH wT aCh jE),yD a0 u8 r2 r4 s9 iH++aE7 pL jE++[E3.row mF,kT.o (gd wT jE.2)],[],0⟩ (by
              refine Ref.eR 21 (by kernel_rfl) (by kernel_rfl) ?_
              refine dV.fE (cR:=⟨iP a1++(sP 14 6 0 0::(84,.c (.own 8 mF.length))::sI 85 (Int.ofNat mF.length)::(aBZ iH wT aCh jE++[sP 105 6 0 1,sI 108 a1,sP 109 9 0 0])),yD a0 u8 r2 r4 s9 iH++aE7 pL jE++[E3.row mF,kT.o (gd wT jE.2)],[],0⟩) (fuel':=8) [0,3,4] [1,2,4,5,14,84,85,86,99,100,101,105,108,109] [0,1,2,3,4,5,6,7,8,9] rfl (by kernel_rfl) (by kernel_rfl) ?_
              refine dV.rG [8,9,10] ?_
              refine bQ.fE (cR:=⟨iP a1++(sP 14 6 0 0::(84,.c (.own 8 mF.length))::sI 85 (Int.ofNat mF.length)::(aBZ iH wT aCh jE++[(106,.c (.own 7 jE.1.length)),(107,.agg (dQ.cs a0)),sI 108 a1,sS 110 ((gd wT jE.2).cG)])),yD a0 u8 r2 r4 s9 iH++aE7 pL jE++[E3.row mF],[],0⟩) (fuel':=5) [1,2,5] [1,2,4,5,14,84,85,86,99,100,101,106,107,108,110] [0,1,2,3,4,5,6,7,8] rfl (by kernel_rfl) (by kernel_rfl) ?_
              refine bQ.aGG (stf:=fun aJm=>⟨iP a1++(sP 14 6 0 0::(84,.c (.own 8 mF.length))::sI 85 (Int.ofNat mF.length)::(aBZ iH wT aCh jE++[(106,.c (.own 7 jE.1.length)),(107,.agg (dQ.cs a0)),sI 108 a1,sS 110 aJm])),yD a0 u8 r2 r4 s9 iH++aE7 pL jE++[E3.row mF],[],0⟩) (by kernel_rfl) (fun aJm=>?_)
              refine bQ.lV (t:=111) (g:=[]) (b:=true) (fuel':=4) 6 [] (default:Int) rfl (by kernel_rfl) (by kernel_rfl) (aUu K a0 a1 aJm) (fun _=>rfl) (fun wU=>?_)
              refine bQ.nC (cR:=⟨iP a1++(sP 14 6 0 0::(84,.c (.own 8 mF.length))::sI 85 (Int.ofNat mF.length)::(aBZ iH wT aCh jE++[(106,.c (.own 7 jE.1.length)),(112,.c (.own 9 1))])),yD a0 u8 r2 r4 s9 iH++aE7 pL jE++[E3.row mF,.row 3 1 1 (hG [[iC wU]])],[],0⟩) (fuel':=3) 7 [1,2,4,5,14,84,85,86,99,100,101,106,112] [0,1,2,3,4,5,6,7,8,9] rfl (by kernel_rfl) (by kernel_rfl) ?_
              refine bQ.conv (Conv.ob 9 (E3.row [wU]) (El.bZ E3 [wU] rfl (by kernel_rfl))) ?_
              refine bQ.conv (Conv.sl 112 (.c (.own 9 ([wU].length))) (eG.c (eD.own (by first | (simp;done) | (simp;omega) | omega)))) ?_
              refine bQ.qM [8,9,10] rfl (by kernel_rfl) ?_
              refine cY.evC (vs:=[room ((jE.1.length+([wU].length)) * 8)]) (cR:=⟨iP a1++(sP 14 6 0 0::(84,.c (.own 8 mF.length))::sI 85 (Int.ofNat mF.length)::(aBZ iH wT aCh jE++[(113,.c (.own 9 (jE.1.length+([wU].length))))])),yD a0 u8 r2 r4 s9 iH++[.cells [iC pL,.own 7 jE.1.length],.dead,E3.row mF,.row 3 1 (jE.1.length+([wU].length)) fun i j=>bif Nat.blt i jE.1.length then E3.at jE.1 i j else (E3.at [wU]) (i - jE.1.length) j],[],0⟩) 0 1 1 [1,2,4,5,14,84,85,86,99,100,101,113] [0,1,2,3,4,5,6,7,8,10] rfl (by kernel_rfl) ?_
              refine cY.conv (Conv.ob 9 (E3.row (jE.1++[wU])) (El.cH E3 jE.1 [wU] rfl rfl)) ?_
              refine cY.conv (Conv.sl 113 (.c (.own 9 ((jE.1++[wU]).length))) (eG.c (eD.own (by first | (simp;done) | (simp;omega) | omega)))) ?_
              refine cY.en1 1 2 [1,2,4,5,14,84,85,86,99,100,101] [0,1,2,3,4,5,6,8,9] ?_
              exact Ref.kn [1,2,4,5,14,84,85,86,99,100,101] [0,1,2,3,4,5,6,8,7])) fun aJn =>
            .nil [0,1,2,3,4,5,6,7,8] _) (
            .ret [0,1,2,3,4,5,6,7,8] _)) fun uP =>
          .fz 23 4 7 <|
          .ob 23 3 9 (x:=.row 135 2 1 (hG [[iC pL,E3.tree uP]])) (y:=(aBo.row [(⟨pL,uP⟩:nM)])) (El.bZ aBo [(⟨pL,uP⟩:nM)] rfl (by kernel_rfl)) <|
          .sl 23 3 119 (x:=.c (.own 9 1)) (y:=(.c (.own 9 ([(⟨pL,uP⟩:nM)].length)))) (eG.c (eD.own (by first | (simp;done) | (simp;omega) | omega))) <|
          .ck _ <|
          .ob 23 2 10 (x:=.row 135 2 (iH.1.length+([(⟨pL,uP⟩:nM)].length)) fun i j=>bif Nat.blt i iH.1.length then aBo.at iH.1 i j else (aBo.at [(⟨pL,uP⟩:nM)]) (i - iH.1.length) j) (y:=(aBo.row (iH.1++[(⟨pL,uP⟩:nM)]))) (El.cH aBo iH.1 [(⟨pL,uP⟩:nM)] rfl rfl) <|
          .sl 23 2 120 (x:=.c (.own 10 (iH.1.length+([(⟨pL,uP⟩:nM)].length)))) (y:=(.c (.own 10 ((iH.1++[(⟨pL,uP⟩:nM)]).length)))) (eG.c (eD.own (by first | (simp;done) | (simp;omega) | omega))) <|
          .nil [0,1,2,3,4,10,8] _) fun aEG =>
         .nil [0,1,2,3,4,5,6] _) (
         .ret [1,2,3,4,5] _)) fun aJo =>
       .fz 25 0 2 <|
       .fz 25 0 3 <|
       .fz 25 0 4 <|
       .ret [0] _)))
   ·
    refine bQ.v0 (fuel':=8) [0] [1,2,4,17,18,22] [0,1] ?_
    refine bQ.aSM (fuel':=7) 2 4 9 (by kernel_rfl) ?_ ?_ ?_
    ·
     refine cE.cF (t:=19) 2 [] rfl (by kernel_rfl) (oT K a0 a1) (fun r1=>?_)
     refine bQ.v0 (fuel':=6) [4] [1,2,4,19,21,22] [0,1] ?_
     refine bQ.lV (t:=20) (g:=[]) (b:=true) (fuel':=5) 3 [] (default:Bytes) rfl (by kernel_rfl) (by kernel_rfl) (nF K r1) (fun _=>rfl) (fun r2=>?_)
     refine bQ.lW (fuel':=4) 6 9 (by kernel_rfl) ?_ ?_
     ·
      refine cE.cF (t:=23) 6 [] rfl (by kernel_rfl) (oT K a0 a1) (fun r3=>?_)
      refine bQ.lW (fuel':=3) 7 9 (by kernel_rfl) ?_ ?_
      ·
       refine cE.cF (t:=24) 7 [] rfl (by kernel_rfl) (uG K r3) (fun r4=>?_)
       refine bQ.v0 (fuel':=2) [8] [1,2,4,25] [0,1] ?_
       refine bQ.cP (fuel':=1) 9 (by kernel_rfl) ?_
       refine cE.a0 9 [1,2,4,5,25] [0,1,2] ?_
       refine bQ.cP (fuel':=0) 10 (by kernel_rfl) ?_
       refine cE.w0 10 [1,2,4,5] [0,1,2] ?_
       refine bQ.done (by kernel_rfl) ?_
       refine Ref.ck ⟨iP a1,yE a0 r2 r4,[],0⟩ [1,2,4,5] [0,1,2] ?_
       exact hk r2 r4
      ·
       refine cE.a0 9 [1,2,4,5,20,23] [0,1,2] ?_
       refine bQ.cP (fuel':=2) 7 (by kernel_rfl) ?_
       refine cE.cF (t:=24) 7 [] rfl (by kernel_rfl) (uG K r3) (fun r4=>?_)
       refine bQ.v0 (fuel':=1) [8] [1,2,4,5,25] [0,1,2] ?_
       refine bQ.cP (fuel':=0) 10 (by kernel_rfl) ?_
       refine cE.w0 10 [1,2,4,5] [0,1,2] ?_
       refine bQ.done (by kernel_rfl) ?_
       refine Ref.ck ⟨iP a1,yE a0 r2 r4,[],0⟩ [1,2,4,5] [0,1,2] ?_
       exact hk r2 r4
     ·
      refine cE.a0 9 [1,2,4,5,20,21,22] [0,1,2] ?_
      refine bQ.cP (fuel':=3) 6 (by kernel_rfl) ?_
      refine cE.cF (t:=23) 6 [] rfl (by kernel_rfl) (oT K a0 a1) (fun r3=>?_)
      refine bQ.cP (fuel':=2) 7 (by kernel_rfl) ?_
      refine cE.cF (t:=24) 7 [] rfl (by kernel_rfl) (uG K r3) (fun r4=>?_)
      refine bQ.v0 (fuel':=1) [8] [1,2,4,5,25] [0,1,2] ?_
      refine bQ.cP (fuel':=0) 10 (by kernel_rfl) ?_
      refine cE.w0 10 [1,2,4,5] [0,1,2] ?_
      refine bQ.done (by kernel_rfl) ?_
      refine Ref.ck ⟨iP a1,yE a0 r2 r4,[],0⟩ [1,2,4,5] [0,1,2] ?_
      exact hk r2 r4
    ·
     refine cE.a0 4 [1,2,4,17,18,21,22] [0,1] ?_
     refine bQ.lW (fuel':=6) 2 9 (by kernel_rfl) ?_ ?_
     ·
      refine cE.cF (t:=19) 2 [] rfl (by kernel_rfl) (oT K a0 a1) (fun r1=>?_)
      refine bQ.lV (t:=20) (g:=[]) (b:=true) (fuel':=5) 3 [] (default:Bytes) rfl (by kernel_rfl) (by kernel_rfl) (nF K r1) (fun _=>rfl) (fun r2=>?_)
      refine bQ.lW (fuel':=4) 6 9 (by kernel_rfl) ?_ ?_
      ·
       refine cE.cF (t:=23) 6 [] rfl (by kernel_rfl) (oT K a0 a1) (fun r3=>?_)
       refine bQ.lW (fuel':=3) 7 9 (by kernel_rfl) ?_ ?_
       ·
        refine cE.cF (t:=24) 7 [] rfl (by kernel_rfl) (uG K r3) (fun r4=>?_)
        refine bQ.v0 (fuel':=2) [8] [1,2,4,25] [0,1] ?_
        refine bQ.cP (fuel':=1) 9 (by kernel_rfl) ?_
        refine cE.a0 9 [1,2,4,5,25] [0,1,2] ?_
        refine bQ.cP (fuel':=0) 10 (by kernel_rfl) ?_
        refine cE.w0 10 [1,2,4,5] [0,1,2] ?_
        refine bQ.done (by kernel_rfl) ?_
        refine Ref.ck ⟨iP a1,yE a0 r2 r4,[],0⟩ [1,2,4,5] [0,1,2] ?_
        exact hk r2 r4
       ·
        refine cE.a0 9 [1,2,4,5,20,23] [0,1,2] ?_
        refine bQ.cP (fuel':=2) 7 (by kernel_rfl) ?_
        refine cE.cF (t:=24) 7 [] rfl (by kernel_rfl) (uG K r3) (fun r4=>?_)
        refine bQ.v0 (fuel':=1) [8] [1,2,4,5,25] [0,1,2] ?_
        refine bQ.cP (fuel':=0) 10 (by kernel_rfl) ?_
        refine cE.w0 10 [1,2,4,5] [0,1,2] ?_
        refine bQ.done (by kernel_rfl) ?_
        refine Ref.ck ⟨iP a1,yE a0 r2 r4,[],0⟩ [1,2,4,5] [0,1,2] ?_
        exact hk r2 r4
      ·
       refine cE.a0 9 [1,2,4,5,20,21,22] [0,1,2] ?_
       refine bQ.cP (fuel':=3) 6 (by kernel_rfl) ?_
       refine cE.cF (t:=23) 6 [] rfl (by kernel_rfl) (oT K a0 a1) (fun r3=>?_)
       refine bQ.cP (fuel':=2) 7 (by kernel_rfl) ?_
       refine cE.cF (t:=24) 7 [] rfl (by kernel_rfl) (uG K r3) (fun r4=>?_)
       refine bQ.v0 (fuel':=1) [8] [1,2,4,5,25] [0,1,2] ?_
       refine bQ.cP (fuel':=0) 10 (by kernel_rfl) ?_
       refine cE.w0 10 [1,2,4,5] [0,1,2] ?_
       refine bQ.done (by kernel_rfl) ?_
       refine Ref.ck ⟨iP a1,yE a0 r2 r4,[],0⟩ [1,2,4,5] [0,1,2] ?_
       exact hk r2 r4
     ·
      refine cE.a0 9 [1,2,4,5,17,18,21,22] [0,1,2] ?_
      refine bQ.cP (fuel':=5) 2 (by kernel_rfl) ?_
      refine cE.cF (t:=19) 2 [] rfl (by kernel_rfl) (oT K a0 a1) (fun r1=>?_)
      refine bQ.lV (t:=20) (g:=[]) (b:=true) (fuel':=4) 3 [] (default:Bytes) rfl (by kernel_rfl) (by kernel_rfl) (nF K r1) (fun _=>rfl) (fun r2=>?_)
      refine bQ.cP (fuel':=3) 6 (by kernel_rfl) ?_
      refine cE.cF (t:=23) 6 [] rfl (by kernel_rfl) (oT K a0 a1) (fun r3=>?_)
      refine bQ.cP (fuel':=2) 7 (by kernel_rfl) ?_
      refine cE.cF (t:=24) 7 [] rfl (by kernel_rfl) (uG K r3) (fun r4=>?_)
      refine bQ.v0 (fuel':=1) [8] [1,2,4,5,25] [0,1,2] ?_
      refine bQ.cP (fuel':=0) 10 (by kernel_rfl) ?_
      refine cE.w0 10 [1,2,4,5] [0,1,2] ?_
      refine bQ.done (by kernel_rfl) ?_
      refine Ref.ck ⟨iP a1,yE a0 r2 r4,[],0⟩ [1,2,4,5] [0,1,2] ?_
      exact hk r2 r4
    ·
     refine cE.a0 9 [1,2,4,5,17,18,22] [0,1,2] ?_
     refine bQ.lW (fuel':=6) 2 4 (by kernel_rfl) ?_ ?_
     ·
      refine cE.cF (t:=19) 2 [] rfl (by kernel_rfl) (oT K a0 a1) (fun r1=>?_)
      refine bQ.v0 (fuel':=5) [4] [1,2,4,5,19,21,22] [0,1,2] ?_
      refine bQ.lV (t:=20) (g:=[]) (b:=true) (fuel':=4) 3 [] (default:Bytes) rfl (by kernel_rfl) (by kernel_rfl) (nF K r1) (fun _=>rfl) (fun r2=>?_)
      refine bQ.cP (fuel':=3) 6 (by kernel_rfl) ?_
      refine cE.cF (t:=23) 6 [] rfl (by kernel_rfl) (oT K a0 a1) (fun r3=>?_)
      refine bQ.cP (fuel':=2) 7 (by kernel_rfl) ?_
      refine cE.cF (t:=24) 7 [] rfl (by kernel_rfl) (uG K r3) (fun r4=>?_)
      refine bQ.v0 (fuel':=1) [8] [1,2,4,5,25] [0,1,2] ?_
      refine bQ.cP (fuel':=0) 10 (by kernel_rfl) ?_
      refine cE.w0 10 [1,2,4,5] [0,1,2] ?_
      refine bQ.done (by kernel_rfl) ?_
      refine Ref.ck ⟨iP a1,yE a0 r2 r4,[],0⟩ [1,2,4,5] [0,1,2] ?_
      exact hk r2 r4
     ·
      refine cE.a0 4 [1,2,4,5,17,18,21,22] [0,1,2] ?_
      refine bQ.cP (fuel':=5) 2 (by kernel_rfl) ?_
      refine cE.cF (t:=19) 2 [] rfl (by kernel_rfl) (oT K a0 a1) (fun r1=>?_)
      refine bQ.lV (t:=20) (g:=[]) (b:=true) (fuel':=4) 3 [] (default:Bytes) rfl (by kernel_rfl) (by kernel_rfl) (nF K r1) (fun _=>rfl) (fun r2=>?_)
      refine bQ.cP (fuel':=3) 6 (by kernel_rfl) ?_
      refine cE.cF (t:=23) 6 [] rfl (by kernel_rfl) (oT K a0 a1) (fun r3=>?_)
      refine bQ.cP (fuel':=2) 7 (by kernel_rfl) ?_
      refine cE.cF (t:=24) 7 [] rfl (by kernel_rfl) (uG K r3) (fun r4=>?_)
      refine bQ.v0 (fuel':=1) [8] [1,2,4,5,25] [0,1,2] ?_
      refine bQ.cP (fuel':=0) 10 (by kernel_rfl) ?_
      refine cE.w0 10 [1,2,4,5] [0,1,2] ?_
      refine bQ.done (by kernel_rfl) ?_
      refine Ref.ck ⟨iP a1,yE a0 r2 r4,[],0⟩ [1,2,4,5] [0,1,2] ?_
      exact hk r2 r4))
def F9 (K:Nat) (a0:dD):Option ((j6) ⊕ (j6)) :=
 ((bU (F37 K a0)).bind (fun r1=>((cK true (bU (F36 K r1)) default).bind (fun r2=>((bU (F37 K a0)).bind (fun r3=>((bU (aRj K r3)).bind (fun r4=>(bM (bL ((iter K (fun (bY:(List (List Bytes)) × (List S56) × (List uW) × (List Int) × Bytes × (List Int) × (List Int) × (List gJ) × (List gJ) × (List yG) × Int × Int × Int)=>(bO (decide ((bY.2.2.2.2.2.2.2.2.2.2.2.2:Int)<(Int.ofNat a0.bK.length))) (fun (aRM:Bool)=>(if aRM=true then (bM (bL (bW [cS bY.2.2.2.2.2.2.2.2.2.2.2.2 a0.bK.length] (bO ((a0.bK.getD (bY.2.2.2.2.2.2.2.2.2.2.2.2:Int).toNat default).bP) (fun (aCi:Int)=>(bM (bL (if ((aCi:Int) == 1)=true then (bO ((a0.bK.getD (bY.2.2.2.2.2.2.2.2.2.2.2.2:Int).toNat default).bN) (fun (aHy:(List iI))=>(bO (Int.ofNat ((a0.bK.getD (bY.2.2.2.2.2.2.2.2.2.2.2.2:Int).toNat default).bN).length) (fun (aMr:Int)=>(bM (bL ((iter K (fun (nH:(List Bytes) × Int)=>(if (decide ((nH.2:Int)<aMr))=true then (bM (bL (bW [cS nH.2 aHy.length] ((bU (F39 K (aHy.getD (nH.2:Int).toNat default))).bind (fun xS=>(bW [room ((nH.1.length+([xS].length)) * 16)] (some (.inr ((nH.1++[xS]))))))))) (fun (aJp:(List Bytes))=>(some (.inr (aJp,(IntKind.i64.wrap (nH.2+1))))))) else (some (.inl (Sum.inl (nH.1)))))) ([],0)).map .inl)) (fun (uQ:(List Bytes))=>(bW [room ((bY.1.length+([uQ].length)) * 24)] (some (.inr ((⟨(bY.1++[uQ]),bY.2.1,bY.2.2.1,bY.2.2.2.1,bY.2.2.2.2.1,bY.2.2.2.2.2.1,bY.2.2.2.2.2.2.1,bY.2.2.2.2.2.2.2.1,bY.2.2.2.2.2.2.2.2.1,bY.2.2.2.2.2.2.2.2.2.1,bY.2.2.2.2.2.2.2.2.2.2.1,bY.2.2.2.2.2.2.2.2.2.2.2.1⟩:j6))))))))))) else (if ((aCi:Int) == 2)=true then ((bU (F40 K a0 bY.2.2.2.2.2.2.2.2.2.2.2.2)).bind (fun p5=>(bW [room ((bY.2.1.length+([p5].length)) * 120)] (some (.inr ((⟨bY.1,(bY.2.1++[p5]),bY.2.2.1,bY.2.2.2.1,bY.2.2.2.2.1,bY.2.2.2.2.2.1,bY.2.2.2.2.2.2.1,bY.2.2.2.2.2.2.2.1,bY.2.2.2.2.2.2.2.2.1,bY.2.2.2.2.2.2.2.2.2.1,bY.2.2.2.2.2.2.2.2.2.2.1,bY.2.2.2.2.2.2.2.2.2.2.2.1⟩:j6))))))) else (if ((aCi:Int) == 3)=true then ((bU (F41 K a0 bY.2.2.2.2.2.2.2.2.2.2.2.2 (⟨bY.1,bY.2.1,bY.2.2.1,bY.2.2.2.1,bY.2.2.2.2.1,bY.2.2.2.2.2.1,bY.2.2.2.2.2.2.1,bY.2.2.2.2.2.2.2.1,bY.2.2.2.2.2.2.2.2.1,bY.2.2.2.2.2.2.2.2.2.1,bY.2.2.2.2.2.2.2.2.2.2.1,bY.2.2.2.2.2.2.2.2.2.2.2.1⟩:j6))).bind (fun aRN=>(some (.inr (aRN))))) else (if ((aCi:Int) == 4)=true then (bO ((a0.bK.getD (bY.2.2.2.2.2.2.2.2.2.2.2.2:Int).toNat default).lE) (fun (aRO:Bytes)=>((bU (F42 K a0 aRO)).bind (fun aEK=>(bO ((a0.bK.getD (bY.2.2.2.2.2.2.2.2.2.2.2.2:Int).toNat default).wH) (fun (s6:Int)=>(bO ((a0.bK.getD (bY.2.2.2.2.2.2.2.2.2.2.2.2:Int).toNat default).uE) (fun (tR:Int)=>((cK true (bU (F19 K a0 (⟨aEK,(-1)⟩:dX))) default).bind (fun vE=>(bW [room ((bY.2.2.2.2.2.2.2.2.2.1.length+([(⟨vE,s6,tR⟩:yG)].length)) * 24)] (some (.inr ((⟨bY.1,bY.2.1,bY.2.2.1,bY.2.2.2.1,bY.2.2.2.2.1,bY.2.2.2.2.2.1,bY.2.2.2.2.2.2.1,bY.2.2.2.2.2.2.2.1,bY.2.2.2.2.2.2.2.2.1,(bY.2.2.2.2.2.2.2.2.2.1++[(⟨vE,s6,tR⟩:yG)]),bY.2.2.2.2.2.2.2.2.2.2.1,bY.2.2.2.2.2.2.2.2.2.2.2.1⟩:j6))))))))))))))) else (some (.inr ((⟨bY.1,bY.2.1,bY.2.2.1,bY.2.2.2.1,bY.2.2.2.2.1,bY.2.2.2.2.2.1,bY.2.2.2.2.2.2.1,bY.2.2.2.2.2.2.2.1,bY.2.2.2.2.2.2.2.2.1,bY.2.2.2.2.2.2.2.2.2.1,bY.2.2.2.2.2.2.2.2.2.2.1,bY.2.2.2.2.2.2.2.2.2.2.2.1⟩:j6))))))))) (fun (aMs:j6)=>(some (.inr ((aMs)))))))))) (fun (nN:j6)=>(bO (IntKind.i64.wrap (bY.2.2.2.2.2.2.2.2.2.2.2.2+1)) (fun (aRP:Int)=>(some (.inr ((nN).dZ,(nN).dW,(nN).fO,(nN).eO,(nN).fM,(nN).fY,(nN).bX,(nN).jN,(nN).fV,(nN).kJ,(nN).fD,(nN).fW,aRP))))))) else (some (.inl (Sum.inl (bY.1,bY.2.1,bY.2.2.1,bY.2.2.2.1,bY.2.2.2.2.1,bY.2.2.2.2.2.1,bY.2.2.2.2.2.2.1,bY.2.2.2.2.2.2.2.1,bY.2.2.2.2.2.2.2.2.1,bY.2.2.2.2.2.2.2.2.2.1,bY.2.2.2.2.2.2.2.2.2.2.1,bY.2.2.2.2.2.2.2.2.2.2.2.1)))))))) ([],[],[],[],r2,r4,[],[],[],[],0,0,0)).map .inl)) (fun (eQ:(List (List Bytes)) × (List S56) × (List uW) × (List Int) × Bytes × (List Int) × (List Int) × (List gJ) × (List gJ) × (List yG) × Int × Int)=>((bU (F43 K a0)).bind (fun qW=>(bM (bL ((iter K (fun (iF:(List uW) × Int)=>(bO (decide ((iF.2:Int)<(Int.ofNat qW.length))) (fun (aRQ:Bool)=>(if aRQ=true then (bM (bL (bW [cS iF.2 qW.length] ((bU (F44 K a0 (qW.getD (iF.2:Int).toNat default))).bind (fun p6=>(bW [room ((iF.1.length+([p6].length)) * 80)] (some (.inr ((iF.1++[p6]))))))))) (fun (aJq:(List uW))=>(some (.inr (aJq,(IntKind.i64.wrap (iF.2+1))))))) else (some (.inl (Sum.inl (iF.1)))))))) (eQ.2.2.1,0)).map .inl)) (fun (uF:(List uW))=>(some (.inl ((⟨eQ.1,eQ.2.1,uF,eQ.2.2.2.1,eQ.2.2.2.2.1,eQ.2.2.2.2.2.1,eQ.2.2.2.2.2.2.1,eQ.2.2.2.2.2.2.2.1,eQ.2.2.2.2.2.2.2.2.1,eQ.2.2.2.2.2.2.2.2.2.1,eQ.2.2.2.2.2.2.2.2.2.2.1,eQ.2.2.2.2.2.2.2.2.2.2.2⟩:j6))))))))))))))))))
abbrev wV (v0:dD) (v1:(List (List Bytes)) × (List S56) × (List uW) × (List Int) × Bytes × (List Int) × (List Int) × (List gJ) × (List gJ) × (List yG) × Int × Int × Int):List Go.Dl.Obj:=[.cells (dQ.cs v0),oX0,.cells [.own 3 v1.1.length,.own 4 v1.2.1.length,.own 5 v1.2.2.1.length,.own 6 v1.2.2.2.1.length,.str v1.2.2.2.2.1,.own 7 v1.2.2.2.2.2.1.length,.own 8 v1.2.2.2.2.2.2.1.length,.own 9 v1.2.2.2.2.2.2.2.1.length,.own 10 v1.2.2.2.2.2.2.2.2.1.length,.own 11 v1.2.2.2.2.2.2.2.2.2.1.length,iC v1.2.2.2.2.2.2.2.2.2.2.1,iC v1.2.2.2.2.2.2.2.2.2.2.2.1],E30.row v1.1,E56.row v1.2.1,E62.row v1.2.2.1,E3.row v1.2.2.2.1,E3.row v1.2.2.2.2.2.1,E3.row v1.2.2.2.2.2.2.1,iZ.row v1.2.2.2.2.2.2.2.1,iZ.row v1.2.2.2.2.2.2.2.2.1]
abbrev aMt (v0:dD) (v1:(List (List Bytes)) × (List S56) × (List uW) × (List Int) × Bytes × (List Int) × (List Int) × (List gJ) × (List gJ) × (List yG) × Int × Int) (v2:(List uW) × Int):List Go.Dl.Obj:=[.cells (dQ.cs v0),oX0,.cells [.own 3 v1.1.length,.own 4 v1.2.1.length,.own 5 v2.1.length,.own 6 v1.2.2.2.1.length,.str v1.2.2.2.2.1,.own 7 v1.2.2.2.2.2.1.length,.own 8 v1.2.2.2.2.2.2.1.length,.own 9 v1.2.2.2.2.2.2.2.1.length,.own 10 v1.2.2.2.2.2.2.2.2.1.length,.own 11 v1.2.2.2.2.2.2.2.2.2.1.length,iC v1.2.2.2.2.2.2.2.2.2.2.1,iC v1.2.2.2.2.2.2.2.2.2.2.2],E30.row v1.1,E56.row v1.2.1,E62.row v2.1,E3.row v1.2.2.2.1,E3.row v1.2.2.2.2.2.1,E3.row v1.2.2.2.2.2.2.1,iZ.row v1.2.2.2.2.2.2.2.1,iZ.row v1.2.2.2.2.2.2.2.2.1,E85.row v1.2.2.2.2.2.2.2.2.2.1]
abbrev xT (v0:dD) (v1:(List (List Bytes)) × (List S56) × (List uW) × (List Int) × Bytes × (List Int) × (List Int) × (List gJ) × (List gJ) × (List yG) × Int × Int × Int):List (Nat × D):=[sP 1 0 0 0,sP 2 1 0 0,sP 3 2 0 0,(20,.c (iY.tree v0.bK)),sI 21 (Int.ofNat v0.bK.length),sI 22 v1.2.2.2.2.2.2.2.2.2.2.2.2]
abbrev aEL (v0:dD) (v1:Bytes) (v2:(List Int)):List Go.Dl.Obj:=[.cells (dQ.cs v0),oX0,.cells [.nil,.nil,.nil,.nil,.str v1,.own 3 v2.length,.nil,.nil,.nil,.nil,iC 0,iC 0],E3.row v2]
abbrev n6:List (Nat × D):=[sP 1 0 0 0,sP 2 1 0 0,sP 3 2 0 0]
abbrev aMu (v0:(List (List Bytes)) × (List S56) × (List uW) × (List Int) × Bytes × (List Int) × (List Int) × (List gJ) × (List gJ) × (List yG) × Int × Int):List Go.Dl.Obj:=[E3.row v0.2.2.2.1,E3.row v0.2.2.2.2.2.1,E3.row v0.2.2.2.2.2.2.1,iZ.row v0.2.2.2.2.2.2.2.1,iZ.row v0.2.2.2.2.2.2.2.2.1,E85.row v0.2.2.2.2.2.2.2.2.2.1]
abbrev aXY (v0:dD) (v1:(List (List Bytes)) × (List S56) × (List uW) × (List Int) × Bytes × (List Int) × (List Int) × (List gJ) × (List gJ) × (List yG) × Int × Int × Int) (v2:S56):List Go.Dl.Obj:=[.cells (dQ.cs v0),oX0,.cells [.own 3 v1.1.length,.own 4 ((v1.2.1++[v2]).length),.own 5 v1.2.2.1.length,.own 6 v1.2.2.2.1.length,.str v1.2.2.2.2.1,.own 7 v1.2.2.2.2.2.1.length,.own 8 v1.2.2.2.2.2.2.1.length,.own 9 v1.2.2.2.2.2.2.2.1.length,.own 10 v1.2.2.2.2.2.2.2.2.1.length,.own 11 v1.2.2.2.2.2.2.2.2.2.1.length,iC v1.2.2.2.2.2.2.2.2.2.2.1,iC v1.2.2.2.2.2.2.2.2.2.2.2.1],E30.row v1.1,E56.row (v1.2.1++[v2]),E62.row v1.2.2.1,E3.row v1.2.2.2.1,E3.row v1.2.2.2.2.2.1,E3.row v1.2.2.2.2.2.2.1,iZ.row v1.2.2.2.2.2.2.2.1,iZ.row v1.2.2.2.2.2.2.2.2.1,E85.row v1.2.2.2.2.2.2.2.2.2.1]
abbrev aEM (v0:(List dX)) (v1:(List uW) × Int):List (Nat × D):=[(87,.c (dS.tree v0)),sI 88 (Int.ofNat v0.length),sI 89 v1.2]
abbrev aMv (v0:dD):List (Nat × D):=[(20,.c (iY.tree v0.bK)),sI 21 (Int.ofNat v0.bK.length)]
abbrev aXZ (v0:dD) (v1:j6):List Go.Dl.Obj:=[.cells (dQ.cs v0),oX0,.cells (j6.oc (v1) 3 4 5 6 7 8 9 10 11),E30.row ((v1).dZ),E56.row ((v1).dW),E62.row ((v1).fO),E3.row ((v1).eO),E3.row ((v1).fY),E3.row ((v1).bX),iZ.row ((v1).jN),iZ.row ((v1).fV),E85.row ((v1).kJ)]
abbrev aS8 (v0:dD) (v1:(List (List Bytes)) × (List S56) × (List uW) × (List Int) × Bytes × (List Int) × (List Int) × (List gJ) × (List gJ) × (List yG) × Int × Int) (v2:(List uW) × Int) (v3:uW):List Go.Dl.Obj:=[.cells (dQ.cs v0),oX0,.cells [.own 3 v1.1.length,.own 4 v1.2.1.length,.own 5 ((v2.1++[v3]).length),.own 6 v1.2.2.2.1.length,.str v1.2.2.2.2.1,.own 7 v1.2.2.2.2.2.1.length,.own 8 v1.2.2.2.2.2.2.1.length,.own 9 v1.2.2.2.2.2.2.2.1.length,.own 10 v1.2.2.2.2.2.2.2.2.1.length,.own 11 v1.2.2.2.2.2.2.2.2.2.1.length,iC v1.2.2.2.2.2.2.2.2.2.2.1,iC v1.2.2.2.2.2.2.2.2.2.2.2],E30.row v1.1,E56.row v1.2.1,E62.row (v2.1++[v3])]
abbrev oK (v0:(List (List Bytes)) × (List S56) × (List uW) × (List Int) × Bytes × (List Int) × (List Int) × (List gJ) × (List gJ) × (List yG) × Int × Int × Int):List Go.Dl.Obj:=[E85.row v0.2.2.2.2.2.2.2.2.2.1]
theorem aS9 (K:Nat) (a0:dD):bR Tryz.prog 9 [.agg (dQ.cs a0)] [] (bU (F9 K a0)) (fun r=>.agg (E49.cs r)) (fun r=>[.cells (E49.cs r)]):=by
 refine bR.it Tryz.f9 (fun r=>⟨[sP 2 0 0 0],[.cells (E49.cs r)],[],0⟩) ?_
 unfold F9
 exact Ref.pt (
  .esc [0,1] [(cd (bd Tryz.f9) [1,0]),(cd (bd Tryz.f9) [1,1])] ⟨[sP 1 0 0 0,sP 2 1 0 0],[.cells (dQ.cs a0),oX0],[],0⟩ (by
   refine Ref.eR 1 (by kernel_rfl) (by kernel_rfl) ?_
   refine dV.rG [1,4,5,8] ?_
   refine bQ.aNo (fun (r2:Bytes) (r4:(List Int))=>⟨n6,aEL a0 r2 r4,[],0⟩) (fun (r2:Bytes) (r4:(List Int))=>(bM (bL ((iter K (fun (bY:(List (List Bytes)) × (List S56) × (List uW) × (List Int) × Bytes × (List Int) × (List Int) × (List gJ) × (List gJ) × (List yG) × Int × Int × Int)=>(bO (decide ((bY.2.2.2.2.2.2.2.2.2.2.2.2:Int)<(Int.ofNat a0.bK.length))) (fun (aRM:Bool)=>(if aRM=true then (bM (bL (bW [cS bY.2.2.2.2.2.2.2.2.2.2.2.2 a0.bK.length] (bO ((gd a0.bK bY.2.2.2.2.2.2.2.2.2.2.2.2).bP) (fun (aCi:Int)=>(bM (bL (if ((aCi:Int) == 1)=true then (bO ((gd a0.bK bY.2.2.2.2.2.2.2.2.2.2.2.2).bN) (fun (aHy:(List iI))=>(bO (Int.ofNat ((gd a0.bK bY.2.2.2.2.2.2.2.2.2.2.2.2).bN).length) (fun (aMr:Int)=>(bM (bL ((iter K (fun (nH:(List Bytes) × Int)=>(if (decide ((nH.2:Int)<aMr))=true then (bM (bL (bW [cS nH.2 aHy.length] ((bU (F39 K (gd aHy nH.2))).bind (fun xS=>(bW [room ((nH.1.length+([xS].length)) * 16)] (some (.inr ((nH.1++[xS]))))))))) (fun (aJp:(List Bytes))=>(some (.inr (aJp,(IntKind.i64.wrap (nH.2+1))))))) else (some (.inl (Sum.inl (nH.1)))))) ([],0)).map .inl)) (fun (uQ:(List Bytes))=>(bW [room ((bY.1.length+([uQ].length)) * 24)] (some (.inr ((⟨(bY.1++[uQ]),bY.2.1,bY.2.2.1,bY.2.2.2.1,bY.2.2.2.2.1,bY.2.2.2.2.2.1,bY.2.2.2.2.2.2.1,bY.2.2.2.2.2.2.2.1,bY.2.2.2.2.2.2.2.2.1,bY.2.2.2.2.2.2.2.2.2.1,bY.2.2.2.2.2.2.2.2.2.2.1,bY.2.2.2.2.2.2.2.2.2.2.2.1⟩:j6))))))))))) else (if ((aCi:Int) == 2)=true then ((bU (F40 K a0 bY.2.2.2.2.2.2.2.2.2.2.2.2)).bind (fun p5=>(bW [room ((bY.2.1.length+([p5].length)) * 120)] (some (.inr ((⟨bY.1,(bY.2.1++[p5]),bY.2.2.1,bY.2.2.2.1,bY.2.2.2.2.1,bY.2.2.2.2.2.1,bY.2.2.2.2.2.2.1,bY.2.2.2.2.2.2.2.1,bY.2.2.2.2.2.2.2.2.1,bY.2.2.2.2.2.2.2.2.2.1,bY.2.2.2.2.2.2.2.2.2.2.1,bY.2.2.2.2.2.2.2.2.2.2.2.1⟩:j6))))))) else (if ((aCi:Int) == 3)=true then ((bU (F41 K a0 bY.2.2.2.2.2.2.2.2.2.2.2.2 (⟨bY.1,bY.2.1,bY.2.2.1,bY.2.2.2.1,bY.2.2.2.2.1,bY.2.2.2.2.2.1,bY.2.2.2.2.2.2.1,bY.2.2.2.2.2.2.2.1,bY.2.2.2.2.2.2.2.2.1,bY.2.2.2.2.2.2.2.2.2.1,bY.2.2.2.2.2.2.2.2.2.2.1,bY.2.2.2.2.2.2.2.2.2.2.2.1⟩:j6))).bind (fun aRN=>(some (.inr (aRN))))) else (if ((aCi:Int) == 4)=true then (bO ((gd a0.bK bY.2.2.2.2.2.2.2.2.2.2.2.2).lE) (fun (aRO:Bytes)=>((bU (F42 K a0 aRO)).bind (fun aEK=>(bO ((gd a0.bK bY.2.2.2.2.2.2.2.2.2.2.2.2).wH) (fun (s6:Int)=>(bO ((gd a0.bK bY.2.2.2.2.2.2.2.2.2.2.2.2).uE) (fun (tR:Int)=>((cK true (bU (F19 K a0 (⟨aEK,(-1)⟩:dX))) default).bind (fun vE=>(bW [room ((bY.2.2.2.2.2.2.2.2.2.1.length+([(⟨vE,s6,tR⟩:yG)].length)) * 24)] (some (.inr ((⟨bY.1,bY.2.1,bY.2.2.1,bY.2.2.2.1,bY.2.2.2.2.1,bY.2.2.2.2.2.1,bY.2.2.2.2.2.2.1,bY.2.2.2.2.2.2.2.1,bY.2.2.2.2.2.2.2.2.1,(bY.2.2.2.2.2.2.2.2.2.1++[(⟨vE,s6,tR⟩:yG)]),bY.2.2.2.2.2.2.2.2.2.2.1,bY.2.2.2.2.2.2.2.2.2.2.2.1⟩:j6))))))))))))))) else (some (.inr ((⟨bY.1,bY.2.1,bY.2.2.1,bY.2.2.2.1,bY.2.2.2.2.1,bY.2.2.2.2.2.1,bY.2.2.2.2.2.2.1,bY.2.2.2.2.2.2.2.1,bY.2.2.2.2.2.2.2.2.1,bY.2.2.2.2.2.2.2.2.2.1,bY.2.2.2.2.2.2.2.2.2.2.1,bY.2.2.2.2.2.2.2.2.2.2.2.1⟩:j6))))))))) (fun (aMs:j6)=>(some (.inr ((aMs)))))))))) (fun (nN:j6)=>(bO (IntKind.i64.wrap (bY.2.2.2.2.2.2.2.2.2.2.2.2+1)) (fun (aRP:Int)=>(some (.inr ((nN).dZ,(nN).dW,(nN).fO,(nN).eO,(nN).fM,(nN).fY,(nN).bX,(nN).jN,(nN).fV,(nN).kJ,(nN).fD,(nN).fW,aRP))))))) else (some (.inl (Sum.inl (bY.1,bY.2.1,bY.2.2.1,bY.2.2.2.1,bY.2.2.2.2.1,bY.2.2.2.2.2.1,bY.2.2.2.2.2.2.1,bY.2.2.2.2.2.2.2.1,bY.2.2.2.2.2.2.2.2.1,bY.2.2.2.2.2.2.2.2.2.1,bY.2.2.2.2.2.2.2.2.2.2.1,bY.2.2.2.2.2.2.2.2.2.2.2.1)))))))) ([],[],[],[],r2,r4,[],[],[],[],0,0,0)).map .inl)) (fun (eQ:(List (List Bytes)) × (List S56) × (List uW) × (List Int) × Bytes × (List Int) × (List Int) × (List gJ) × (List gJ) × (List yG) × Int × Int)=>((bU (F43 K a0)).bind (fun qW=>(bM (bL ((iter K (fun (iF:(List uW) × Int)=>(bO (decide ((iF.2:Int)<(Int.ofNat qW.length))) (fun (aRQ:Bool)=>(if aRQ=true then (bM (bL (bW [cS iF.2 qW.length] ((bU (F44 K a0 (gd qW iF.2))).bind (fun p6=>(bW [room ((iF.1.length+([p6].length)) * 80)] (some (.inr ((iF.1++[p6]))))))))) (fun (aJq:(List uW))=>(some (.inr (aJq,(IntKind.i64.wrap (iF.2+1))))))) else (some (.inl (Sum.inl (iF.1)))))))) (eQ.2.2.1,0)).map .inl)) (fun (uF:(List uW))=>(some (.inl ((⟨eQ.1,eQ.2.1,uF,eQ.2.2.2.1,eQ.2.2.2.2.1,eQ.2.2.2.2.2.1,eQ.2.2.2.2.2.2.1,eQ.2.2.2.2.2.2.2.1,eQ.2.2.2.2.2.2.2.2.1,eQ.2.2.2.2.2.2.2.2.2.1,eQ.2.2.2.2.2.2.2.2.2.2.1,eQ.2.2.2.2.2.2.2.2.2.2.2⟩:j6))))))))))) (fun r2 r4=>?_) (fun hk=>?_)
   ·
    exact Ref.pt (
     .bk 0 (fun eQ=>⟨n6,.cells (dQ.cs a0)::oX0::.cells [.own 3 eQ.1.length,.own 4 eQ.2.1.length,.own 5 eQ.2.2.1.length,.own 6 eQ.2.2.2.1.length,.str eQ.2.2.2.2.1,.own 7 eQ.2.2.2.2.2.1.length,.own 8 eQ.2.2.2.2.2.2.1.length,.own 9 eQ.2.2.2.2.2.2.2.1.length,.own 10 eQ.2.2.2.2.2.2.2.2.1.length,.own 11 eQ.2.2.2.2.2.2.2.2.2.1.length,iC eQ.2.2.2.2.2.2.2.2.2.2.1,iC eQ.2.2.2.2.2.2.2.2.2.2.2]::E30.row eQ.1::E56.row eQ.2.1::E62.row eQ.2.2.1::aMu eQ,[],0⟩) (
      .adc 2 0 2 0 E30.ty E30.w (E30.at []) <|
      .adc 2 0 2 1 E56.ty E56.w (E56.at []) <|
      .adc 2 0 2 2 E62.ty E62.w (E62.at []) <|
      .adc 2 0 2 3 E3.ty E3.w (E3.at []) <|
      .adc 2 0 2 6 E3.ty E3.w (E3.at []) <|
      .adc 2 0 2 7 iZ.ty iZ.w (iZ.at []) <|
      .adc 2 0 2 8 iZ.ty iZ.w (iZ.at []) <|
      .adc 2 0 2 9 E85.ty E85.w (E85.at []) <|
      .lp [0,1,2,4,5,6,7,3,8,9,10,11] (fun bY=>⟨xT a0 bY,wV a0 bY++oK bY,[],0⟩) fun bY =>
      .lt _ fun aRM =>
      .ite _ (
       .bk 1 (fun nN=>⟨xT a0 bY,aXZ a0 nN,[],0⟩) (
        .ck _ <|
        .lt _ fun aCi =>
        .bk 2 (fun aMs=>⟨xT a0 bY,aXZ a0 aMs,[],0⟩) (
         .ite _ (
          .lt _ fun aHy =>
          .lt _ fun aMr =>
          .bk 3 (fun uQ=>⟨n6++((6,.c (.own 12 uQ.length))::(aMv a0++[sI 22 bY.2.2.2.2.2.2.2.2.2.2.2.2])),wV a0 bY++oK bY++[E9.row uQ],[],0⟩) (
           .ad 8 0 6 E9.ty E9.w (E9.at []) <|
           .lp [0,1,2,3,4,5,6,7,8,9,10,11,13] (fun nH=>⟨n6++((6,.c (.own 12 nH.1.length))::(aMv a0++[sI 22 bY.2.2.2.2.2.2.2.2.2.2.2.2,(32,.c (kT.tree aHy)),sI 33 aMr,sI 34 nH.2])),wV a0 bY++oK bY++[E9.row nH.1],[],0⟩) fun nH =>
           .ite _ (
            .bk 4 (fun aJp=>⟨n6++((6,.c (.own 12 aJp.length))::(aMv a0++[sI 22 bY.2.2.2.2.2.2.2.2.2.2.2.2,(32,.c (kT.tree aHy)),sI 33 aMr,sI 34 nH.2])),wV a0 bY++oK bY++[E9.row aJp],[],0⟩) (
             .ck _ <|
             .call [] (aOG _ _) fun xS =>
             .ob 11 2 14 (x:=.row 9 1 1 (hG [[.str xS]])) (y:=(E9.row [xS])) (El.bZ E9 [xS] rfl (by kernel_rfl)) <|
             .sl 11 2 41 (x:=.c (.own 14 1)) (y:=(.c (.own 14 ([xS].length)))) (eG.c (eD.own (by first | (simp;done) | (simp;omega) | omega))) <|
             .ck _ <|
             .ob 11 1 15 (x:=.row 9 1 (nH.1.length+([xS].length)) fun i j=>bif Nat.blt i nH.1.length then E9.at nH.1 i j else (E9.at [xS]) (i - nH.1.length) j) (y:=(E9.row (nH.1++[xS]))) (El.cH E9 nH.1 [xS] rfl rfl) <|
             .sl 11 1 42 (x:=.c (.own 15 (nH.1.length+([xS].length)))) (y:=(.c (.own 15 ((nH.1++[xS]).length)))) (eG.c (eD.own (by first | (simp;done) | (simp;omega) | omega))) <|
             .nil [0,1,2,3,4,5,6,7,8,9,10,11,15] _) fun aJp =>
            .nil [0,1,2,3,4,5,6,7,8,9,10,11,12] _) (
            .ret [0,1,2,3,4,5,6,7,8,9,10,11,12] _)) fun uQ =>
          .fz 13 4 12 <|
          .ob 13 3 13 (x:=.row 30 1 1 (hG [[E9.tree uQ]])) (y:=(E30.row [uQ])) (El.bZ E30 [uQ] rfl (by kernel_rfl)) <|
          .sl 13 3 47 (x:=.c (.own 13 1)) (y:=(.c (.own 13 ([uQ].length)))) (eG.c (eD.own (by first | (simp;done) | (simp;omega) | omega))) <|
          .ck _ <|
          .ob 13 2 14 (x:=.row 30 1 (bY.1.length+([uQ].length)) fun i j=>bif Nat.blt i bY.1.length then E30.at bY.1 i j else (E30.at [uQ]) (i - bY.1.length) j) (y:=(E30.row (bY.1++[uQ]))) (El.cH E30 bY.1 [uQ] rfl rfl) <|
          .sl 13 2 48 (x:=.c (.own 14 (bY.1.length+([uQ].length)))) (y:=(.c (.own 14 ((bY.1++[uQ]).length)))) (eG.c (eD.own (by first | (simp;done) | (simp;omega) | omega))) <|
          .nil [0,1,2,14,4,5,6,7,8,9,10,11] _) (
          .ite _ (
           .esc [0,1,2,3,4,5,6,7,8,9,10,11,12] [(cd (cd (bd Tryz.f9) [1,1,0,1,0,0,1,1,0,0,1,1,0,1,1,1]) [0])] ⟨n6++(sI 4 bY.2.2.2.2.2.2.2.2.2.2.2.2::sP 5 12 0 0::(aMv a0++[sI 22 bY.2.2.2.2.2.2.2.2.2.2.2.2,sI 28 aCi,sB 50 ((aCi:Int) == 2)])),wV a0 bY++oK bY++[iY.o (gd a0.bK bY.2.2.2.2.2.2.2.2.2.2.2.2)],[],0⟩ (by
            refine Ref.eR 15 (by kernel_rfl) (by kernel_rfl) ?_
            refine dV.fE (cR:=⟨xT a0 bY++[sP 52 2 0 1,sI 55 bY.2.2.2.2.2.2.2.2.2.2.2.2],wV a0 bY++oK bY,[],0⟩) (fuel':=7) [0,3] [1,2,3,20,21,22,52,55] [0,1,2,3,4,5,6,7,8,9,10,11] rfl (by kernel_rfl) (by kernel_rfl) ?_
            refine dV.rG [4,6,8] ?_
            refine bQ.iD (fun (p5:S56)=>⟨xT a0 bY,aXY a0 bY p5,[],0⟩) (fun (p5:S56)=>(some (.inr ((⟨bY.1,(bY.2.1++[p5]),bY.2.2.1,bY.2.2.2.1,bY.2.2.2.2.1,bY.2.2.2.2.2.1,bY.2.2.2.2.2.2.1,bY.2.2.2.2.2.2.2.1,bY.2.2.2.2.2.2.2.2.1,bY.2.2.2.2.2.2.2.2.2.1,bY.2.2.2.2.2.2.2.2.2.2.1,bY.2.2.2.2.2.2.2.2.2.2.2.1⟩:j6))))) (fun p5=>?_) (fun hk=>?_)
            ·
             exact Ref.pt (
              .nil [0,1,2,3,4,5,6,7,8,9,10,11] _)
            ·
             refine bQ.fE (cR:=⟨xT a0 bY++[sP 52 2 0 1,(54,.agg (dQ.cs a0)),sI 55 bY.2.2.2.2.2.2.2.2.2.2.2.2],wV a0 bY++oK bY,[],0⟩) (fuel':=6) [2] [1,2,3,20,21,22,52,54,55] [0,1,2,3,4,5,6,7,8,9,10,11] rfl (by kernel_rfl) (by kernel_rfl) ?_
             refine bQ.iT (fuel':=5) [[],[(1,53)]] [(1,53)] [1,2,3,20,21,22,52,54,55] [0,1,2,3,4,5,6,7,8,9,10,11] ⟨xT a0 bY++[sP 52 2 0 1,(53,.c (.own 4 bY.2.1.length)),(54,.agg (dQ.cs a0)),sI 55 bY.2.2.2.2.2.2.2.2.2.2.2.2],wV a0 bY++oK bY,[],0⟩ ?_
             refine cQ.cP (fuel':=4) 4 ?_
             refine dP.cF (t:=56) 4 [] rfl (by kernel_rfl) (aUX K a0 bY.2.2.2.2.2.2.2.2.2.2.2.2) (fun p5=>?_)
             refine cQ.cP (fuel':=3) 5 ?_
             refine dP.kC (cR:=⟨xT a0 bY++[sP 52 2 0 1,(53,.c (.own 4 bY.2.1.length)),(57,.c (.own 12 1))],wV a0 bY++oK bY++[.row 56 6 1 (hG [(E56.cs p5)])],[],0⟩) 5 [1,2,3,20,21,22,52,53,57] [0,1,2,3,4,5,6,7,8,9,10,11,13] (by kernel_rfl) (by kernel_rfl) ?_
             refine cQ.conv (jR.obj 12 (E56.row [p5]) (El.bZ E56 [p5] rfl (by kernel_rfl)) (by kernel_rfl)) ?_
             refine cQ.conv (jR.slot 57 (.c (.own 12 ([p5].length))) (eG.c (eD.own (by first | (simp;done) | (simp;omega) | omega))) (by kernel_rfl)) ?_
             refine cQ.close ?_
             refine bQ.cP (fuel':=2) 6 (by kernel_rfl) ?_
             refine cE.writes (vs:=[room ((bY.2.1.length+([p5].length)) * 120)]) (cR:=⟨xT a0 bY++[(58,.c (.own 12 (bY.2.1.length+([p5].length))))],.cells (dQ.cs a0)::oX0::.cells [.own 3 bY.1.length,.own 4 bY.2.1.length,.own 5 bY.2.2.1.length,.own 6 bY.2.2.2.1.length,.str bY.2.2.2.2.1,.own 7 bY.2.2.2.2.2.1.length,.own 8 bY.2.2.2.2.2.2.1.length,.own 9 bY.2.2.2.2.2.2.2.1.length,.own 10 bY.2.2.2.2.2.2.2.2.1.length,.own 11 bY.2.2.2.2.2.2.2.2.2.1.length,iC bY.2.2.2.2.2.2.2.2.2.2.1,iC bY.2.2.2.2.2.2.2.2.2.2.2.1]::E30.row bY.1::.dead::E62.row bY.2.2.1::E3.row bY.2.2.2.1::E3.row bY.2.2.2.2.2.1::E3.row bY.2.2.2.2.2.2.1::iZ.row bY.2.2.2.2.2.2.2.1::iZ.row bY.2.2.2.2.2.2.2.2.1::(oK bY++[.row 56 6 (bY.2.1.length+([p5].length)) fun i j=>bif Nat.blt i bY.2.1.length then E56.at bY.2.1 i j else (E56.at [p5]) (i - bY.2.1.length) j]),[],0⟩) 6 [1,2,3,20,21,22,58] [0,1,2,3,4,5,6,7,8,9,10,11,13] (by kernel_rfl) (by kernel_rfl) ?_
             refine bQ.conv (Conv.ob 12 (E56.row (bY.2.1++[p5])) (El.cH E56 bY.2.1 [p5] rfl rfl)) ?_
             refine bQ.conv (Conv.sl 58 (.c (.own 12 ((bY.2.1++[p5]).length))) (eG.c (eD.own (by first | (simp;done) | (simp;omega) | omega)))) ?_
             refine bQ.v0 (fuel':=1) [7] [1,2,3,20,21,22,58,59] [0,1,2,3,4,5,6,7,8,9,10,11,12] ?_
             refine bQ.cP (fuel':=0) 8 (by kernel_rfl) ?_
             refine cE.w0 8 [1,2,3,20,21,22] [0,1,2,3,5,6,7,8,9,10,11,12] ?_
             refine bQ.done (by kernel_rfl) ?_
             refine Ref.ck ⟨xT a0 bY,aXY a0 bY p5,[],0⟩ [1,2,3,20,21,22] [0,1,2,3,11,4,5,6,7,8,9,10] ?_
             exact hk p5)) (
           .ite _ (
            .call [2,3,4,5,6,7,8,9,10,11] (aUM _ _ _ _) fun aRN =>
            .nil [0,1,2,13,14,15,16,17,18,19,20,21] _) (
            .ite _ (
             .lt _ fun aRO =>
             .call [] (aF0 _ _ _) fun aEK =>
             .esc [0,1,2,3,4,5,6,7,8,9,10,11,12,13] [(cd (bd Tryz.f9) [1,1,0,1,0,0,1,1,0,0,1,1,0,1,1,1,1,1,1,1,0,1])] ⟨n6++(sP 5 12 0 0::sP 9 13 0 0::(aMv a0++[sI 22 bY.2.2.2.2.2.2.2.2.2.2.2.2])),wV a0 bY++oK bY++[iY.o (gd a0.bK bY.2.2.2.2.2.2.2.2.2.2.2.2),.cells [iC aEK,iC (-1)]],[],0⟩ (by
              refine Ref.eR 20 (by kernel_rfl) (by kernel_rfl) ?_
              refine dV.fE (cR:=⟨n6++(sP 9 13 0 0::(aMv a0++[sI 22 bY.2.2.2.2.2.2.2.2.2.2.2.2,sP 72 2 0 9,sP 77 12 0 9,sP 79 12 0 10])),wV a0 bY++oK bY++[iY.o (gd a0.bK bY.2.2.2.2.2.2.2.2.2.2.2.2),.cells [iC aEK,iC (-1)]],[],0⟩) (fuel':=11) [0,5,7] [1,2,3,9,20,21,22,72,77,79] [0,1,2,3,4,5,6,7,8,9,10,11,12,13] rfl (by kernel_rfl) (by kernel_rfl) ?_
              refine dV.rG [11,12,13] ?_
              refine bQ.fE (cR:=⟨xT a0 bY++[(73,.c (.own 11 bY.2.2.2.2.2.2.2.2.2.1.length)),(74,.agg (dQ.cs a0)),(75,.agg [iC aEK,iC (-1)]),sI 78 ((gd a0.bK bY.2.2.2.2.2.2.2.2.2.2.2.2).wH),sI 80 ((gd a0.bK bY.2.2.2.2.2.2.2.2.2.2.2.2).uE)],wV a0 bY++oK bY,[],0⟩) (fuel':=6) [1,2,3,6,8] [1,2,3,20,21,22,73,74,75,78,80] [0,1,2,3,4,5,6,7,8,9,10,11] rfl (by kernel_rfl) (by kernel_rfl) ?_
              refine bQ.aGG (stf:=fun s6=>⟨xT a0 bY++[(73,.c (.own 11 bY.2.2.2.2.2.2.2.2.2.1.length)),(74,.agg (dQ.cs a0)),(75,.agg [iC aEK,iC (-1)]),sI 78 s6,sI 80 ((gd a0.bK bY.2.2.2.2.2.2.2.2.2.2.2.2).uE)],wV a0 bY++oK bY,[],0⟩) (by kernel_rfl) (fun s6=>?_)
              refine bQ.aGG (stf:=fun tR=>⟨xT a0 bY++[(73,.c (.own 11 bY.2.2.2.2.2.2.2.2.2.1.length)),(74,.agg (dQ.cs a0)),(75,.agg [iC aEK,iC (-1)]),sI 78 s6,sI 80 tR],wV a0 bY++oK bY,[],0⟩) (by kernel_rfl) (fun tR=>?_)
              refine bQ.lV (t:=76) (g:=[]) (b:=true) (fuel':=5) 4 [] (default:Int) rfl (by kernel_rfl) (by kernel_rfl) (aIZ K a0 (⟨aEK,(-1)⟩:dX)) (fun _=>rfl) (fun vE=>?_)
              refine bQ.fE (cR:=⟨xT a0 bY++[(73,.c (.own 11 bY.2.2.2.2.2.2.2.2.2.1.length)),(81,.agg [iC vE,iC s6,iC tR])],wV a0 bY++oK bY,[],0⟩) (fuel':=4) [9] [1,2,3,20,21,22,73,81] [0,1,2,3,4,5,6,7,8,9,10,11] rfl (by kernel_rfl) (by kernel_rfl) ?_
              refine bQ.nC (cR:=⟨xT a0 bY++[(73,.c (.own 11 bY.2.2.2.2.2.2.2.2.2.1.length)),(82,.c (.own 12 1))],wV a0 bY++oK bY++[.row 85 3 1 (hG [[iC vE,iC s6,iC tR]])],[],0⟩) (fuel':=3) 10 [1,2,3,20,21,22,73,82] [0,1,2,3,4,5,6,7,8,9,10,11,12] rfl (by kernel_rfl) (by kernel_rfl) ?_
              refine bQ.conv (Conv.ob 12 (E85.row [(⟨vE,s6,tR⟩:yG)]) (El.bZ E85 [(⟨vE,s6,tR⟩:yG)] rfl (by kernel_rfl))) ?_
              refine bQ.conv (Conv.sl 82 (.c (.own 12 ([(⟨vE,s6,tR⟩:yG)].length))) (eG.c (eD.own (by first | (simp;done) | (simp;omega) | omega)))) ?_
              refine bQ.qM [11,12,13] rfl (by kernel_rfl) ?_
              refine cY.evC (vs:=[room ((bY.2.2.2.2.2.2.2.2.2.1.length+([(⟨vE,s6,tR⟩:yG)].length)) * 24)]) (cR:=⟨xT a0 bY++[(83,.c (.own 12 (bY.2.2.2.2.2.2.2.2.2.1.length+([(⟨vE,s6,tR⟩:yG)].length))))],wV a0 bY++[.dead,.row 85 3 (bY.2.2.2.2.2.2.2.2.2.1.length+([(⟨vE,s6,tR⟩:yG)].length)) fun i j=>bif Nat.blt i bY.2.2.2.2.2.2.2.2.2.1.length then E85.at bY.2.2.2.2.2.2.2.2.2.1 i j else (E85.at [(⟨vE,s6,tR⟩:yG)]) (i - bY.2.2.2.2.2.2.2.2.2.1.length) j],[],0⟩) 0 1 1 [1,2,3,20,21,22,83] [0,1,2,3,4,5,6,7,8,9,10,11,13] rfl (by kernel_rfl) ?_
              refine cY.conv (Conv.ob 12 (E85.row (bY.2.2.2.2.2.2.2.2.2.1++[(⟨vE,s6,tR⟩:yG)])) (El.cH E85 bY.2.2.2.2.2.2.2.2.2.1 [(⟨vE,s6,tR⟩:yG)] rfl rfl)) ?_
              refine cY.conv (Conv.sl 83 (.c (.own 12 ((bY.2.2.2.2.2.2.2.2.2.1++[(⟨vE,s6,tR⟩:yG)]).length))) (eG.c (eD.own (by first | (simp;done) | (simp;omega) | omega)))) ?_
              refine cY.en1 1 2 [1,2,3,20,21,22] [0,1,2,3,4,5,6,7,8,9,10,12] ?_
              exact Ref.n0)) (
             .nil [0,1,2,3,4,5,6,7,8,9,10,11] _))))) fun aMs =>
        .nil [0,1,2,3,4,5,6,7,8,9,10,11] _) fun nN =>
       .lt _ fun aRP =>
       .nil [0,1,2,3,4,5,6,7,8,9,10,11] _) (
       .ret [0,1,2,3,4,5,6,7,8,9,10,11] _)) fun eQ =>
     .call [] (aOh _ _) fun qW =>
     .bk 5 (fun uF=>⟨[sP 2 0 0 0,sP 3 1 0 0],oX0::.cells [.own 2 eQ.1.length,.own 3 eQ.2.1.length,.own 4 uF.length,.own 5 eQ.2.2.2.1.length,.str eQ.2.2.2.2.1,.own 6 eQ.2.2.2.2.2.1.length,.own 7 eQ.2.2.2.2.2.2.1.length,.own 8 eQ.2.2.2.2.2.2.2.1.length,.own 9 eQ.2.2.2.2.2.2.2.2.1.length,.own 10 eQ.2.2.2.2.2.2.2.2.2.1.length,iC eQ.2.2.2.2.2.2.2.2.2.2.1,iC eQ.2.2.2.2.2.2.2.2.2.2.2]::E30.row eQ.1::E56.row eQ.2.1::E62.row uF::aMu eQ,[],0⟩) (
      .lp [0,1,2,3,4,5,6,7,8,9,10,11] (fun iF=>⟨n6++aEM qW iF,aMt a0 eQ iF,[],0⟩) fun iF =>
      .lt _ fun aRQ =>
      .ite _ (
       .bk 6 (fun aJq=>⟨n6++aEM qW iF,.cells (dQ.cs a0)::oX0::.cells [.own 3 eQ.1.length,.own 4 eQ.2.1.length,.own 5 aJq.length,.own 6 eQ.2.2.2.1.length,.str eQ.2.2.2.2.1,.own 7 eQ.2.2.2.2.2.1.length,.own 8 eQ.2.2.2.2.2.2.1.length,.own 9 eQ.2.2.2.2.2.2.2.1.length,.own 10 eQ.2.2.2.2.2.2.2.2.1.length,.own 11 eQ.2.2.2.2.2.2.2.2.2.1.length,iC eQ.2.2.2.2.2.2.2.2.2.2.1,iC eQ.2.2.2.2.2.2.2.2.2.2.2]::E30.row eQ.1::E56.row eQ.2.1::E62.row aJq::aMu eQ,[],0⟩) (
        .ck _ <|
        .esc [0,1,2,3,4,5,6,7,8,9,10,11,12] [(cd (bd Tryz.f9) [1,1,1,0,1,0,0,1,1,0,0,1])] ⟨n6++(sP 11 12 0 0::aEM qW iF),aMt a0 eQ iF++[.cells (dS.cs (gd qW iF.2))],[],0⟩ (by
         refine Ref.eR 25 (by kernel_rfl) (by kernel_rfl) ?_
         refine dV.fE (cR:=⟨n6++(sP 11 12 0 0::(aEM qW iF++[sP 93 2 0 2])),aMt a0 eQ iF++[.cells (dS.cs (gd qW iF.2))],[],0⟩) (fuel':=8) [0] [1,2,3,11,87,88,89,93] [0,1,2,3,4,5,6,7,8,9,10,11,12] rfl (by kernel_rfl) (by kernel_rfl) ?_
         refine dV.rG [4,6,8] ?_
         refine bQ.iD (fun (p6:uW)=>⟨n6++aEM qW iF,aS8 a0 eQ iF p6++aMu eQ,[],0⟩) (fun (p6:uW)=>(some (.inr ((iF.1++[p6]))))) (fun p6=>?_) (fun hk=>?_)
         ·
          exact Ref.pt (
           .nil [0,1,2,3,4,5,6,7,8,9,10,11] _)
         ·
          refine bQ.fE (cR:=⟨n6++aEM qW iF++[sP 93 2 0 2,(95,.agg (dQ.cs a0)),(96,.agg (dS.cs (gd qW iF.2)))],aMt a0 eQ iF,[],0⟩) (fuel':=6) [2,3] [1,2,3,87,88,89,93,95,96] [0,1,2,3,4,5,6,7,8,9,10,11] rfl (by kernel_rfl) (by kernel_rfl) ?_
          refine bQ.iT (fuel':=5) [[],[(1,94)]] [(1,94)] [1,2,3,87,88,89,93,95,96] [0,1,2,3,4,5,6,7,8,9,10,11] ⟨n6++aEM qW iF++[sP 93 2 0 2,(94,.c (.own 5 iF.1.length)),(95,.agg (dQ.cs a0)),(96,.agg (dS.cs (gd qW iF.2)))],aMt a0 eQ iF,[],0⟩ ?_
          refine cQ.cP (fuel':=4) 4 ?_
          refine dP.cF (t:=97) 4 [] rfl (by kernel_rfl) (aUK K a0 (gd qW iF.2)) (fun p6=>?_)
          refine cQ.cP (fuel':=3) 5 ?_
          refine dP.kC (cR:=⟨n6++aEM qW iF++[sP 93 2 0 2,(94,.c (.own 5 iF.1.length)),(98,.c (.own 12 1))],aMt a0 eQ iF++[.row 62 6 1 (hG [(E62.cs p6)])],[],0⟩) 5 [1,2,3,87,88,89,93,94,98] [0,1,2,3,4,5,6,7,8,9,10,11,13] (by kernel_rfl) (by kernel_rfl) ?_
          refine cQ.conv (jR.obj 12 (E62.row [p6]) (El.bZ E62 [p6] rfl (by kernel_rfl)) (by kernel_rfl)) ?_
          refine cQ.conv (jR.slot 98 (.c (.own 12 ([p6].length))) (eG.c (eD.own (by first | (simp;done) | (simp;omega) | omega))) (by kernel_rfl)) ?_
          refine cQ.close ?_
          refine bQ.cP (fuel':=2) 6 (by kernel_rfl) ?_
          refine cE.writes (vs:=[room ((iF.1.length+([p6].length)) * 80)]) (cR:=⟨n6++aEM qW iF++[(99,.c (.own 12 (iF.1.length+([p6].length))))],.cells (dQ.cs a0)::oX0::.cells [.own 3 eQ.1.length,.own 4 eQ.2.1.length,.own 5 iF.1.length,.own 6 eQ.2.2.2.1.length,.str eQ.2.2.2.2.1,.own 7 eQ.2.2.2.2.2.1.length,.own 8 eQ.2.2.2.2.2.2.1.length,.own 9 eQ.2.2.2.2.2.2.2.1.length,.own 10 eQ.2.2.2.2.2.2.2.2.1.length,.own 11 eQ.2.2.2.2.2.2.2.2.2.1.length,iC eQ.2.2.2.2.2.2.2.2.2.2.1,iC eQ.2.2.2.2.2.2.2.2.2.2.2]::E30.row eQ.1::E56.row eQ.2.1::.dead::(aMu eQ++[.row 62 6 (iF.1.length+([p6].length)) fun i j=>bif Nat.blt i iF.1.length then E62.at iF.1 i j else (E62.at [p6]) (i - iF.1.length) j]),[],0⟩) 6 [1,2,3,87,88,89,99] [0,1,2,3,4,5,6,7,8,9,10,11,13] (by kernel_rfl) (by kernel_rfl) ?_
          refine bQ.conv (Conv.ob 12 (E62.row (iF.1++[p6])) (El.cH E62 iF.1 [p6] rfl rfl)) ?_
          refine bQ.conv (Conv.sl 99 (.c (.own 12 ((iF.1++[p6]).length))) (eG.c (eD.own (by first | (simp;done) | (simp;omega) | omega)))) ?_
          refine bQ.v0 (fuel':=1) [7] [1,2,3,87,88,89,99,100] [0,1,2,3,4,5,6,7,8,9,10,11,12] ?_
          refine bQ.cP (fuel':=0) 8 (by kernel_rfl) ?_
          refine cE.w0 8 [1,2,3,87,88,89] [0,1,2,3,4,6,7,8,9,10,11,12] ?_
          refine bQ.done (by kernel_rfl) ?_
          refine Ref.ck ⟨n6++aEM qW iF,aS8 a0 eQ iF p6++aMu eQ,[],0⟩ [1,2,3,87,88,89] [0,1,2,3,4,11,5,6,7,8,9,10] ?_
          exact hk p6)) fun aJq =>
       .nil [0,1,2,3,4,5,6,7,8,9,10,11] _) (
       .ret [1,2,3,4,5,6,7,8,9,10,11] _)) fun uF =>
     .fz 27 0 2 <|
     .fz 27 0 3 <|
     .fz 27 0 4 <|
     .fz 27 0 5 <|
     .fz 27 0 6 <|
     .fz 27 0 7 <|
     .fz 27 0 8 <|
     .fz 27 0 9 <|
     .fz 27 0 10 <|
     .ret [0] _)
   ·
    refine bQ.v0 (fuel':=8) [0] [1,2,12] [0,1] ?_
    refine bQ.aSM (fuel':=7) 1 3 7 (by kernel_rfl) ?_ ?_ ?_
    ·
     refine cE.cF (t:=13) 1 [] rfl (by kernel_rfl) (pJ K a0) (fun r1=>?_)
     refine bQ.v0 (fuel':=6) [3] [1,2,13,15] [0,1] ?_
     refine bQ.lV (t:=14) (g:=[]) (b:=true) (fuel':=5) 2 [] (default:Bytes) rfl (by kernel_rfl) (by kernel_rfl) (nF K r1) (fun _=>rfl) (fun r2=>?_)
     refine bQ.lW (fuel':=4) 4 7 (by kernel_rfl) ?_ ?_
     ·
      refine cE.cF (t:=16) 4 [] rfl (by kernel_rfl) (pJ K a0) (fun r3=>?_)
      refine bQ.lW (fuel':=3) 5 7 (by kernel_rfl) ?_ ?_
      ·
       refine cE.cF (t:=17) 5 [] rfl (by kernel_rfl) (pY K r3) (fun r4=>?_)
       refine bQ.v0 (fuel':=2) [6] [1,2,18] [0,1,2] ?_
       refine bQ.cP (fuel':=1) 7 (by kernel_rfl) ?_
       refine cE.a0 7 [1,2,3,18] [0,1,2,3] ?_
       refine bQ.cP (fuel':=0) 8 (by kernel_rfl) ?_
       refine cE.w0 8 [1,2,3] [0,1,2,3] ?_
       refine bQ.done (by kernel_rfl) ?_
       refine Ref.ck ⟨n6,aEL a0 r2 r4,[],0⟩ [1,2,3] [0,1,3,2] ?_
       exact hk r2 r4
      ·
       refine cE.a0 7 [1,2,3,14,16] [0,1,2] ?_
       refine bQ.cP (fuel':=2) 5 (by kernel_rfl) ?_
       refine cE.cF (t:=17) 5 [] rfl (by kernel_rfl) (pY K r3) (fun r4=>?_)
       refine bQ.v0 (fuel':=1) [6] [1,2,3,18] [0,1,2,3] ?_
       refine bQ.cP (fuel':=0) 8 (by kernel_rfl) ?_
       refine cE.w0 8 [1,2,3] [0,1,2,3] ?_
       refine bQ.done (by kernel_rfl) ?_
       refine Ref.ck ⟨n6,aEL a0 r2 r4,[],0⟩ [1,2,3] [0,1,2,3] ?_
       exact hk r2 r4
     ·
      refine cE.a0 7 [1,2,3,14,15] [0,1,2] ?_
      refine bQ.cP (fuel':=3) 4 (by kernel_rfl) ?_
      refine cE.cF (t:=16) 4 [] rfl (by kernel_rfl) (pJ K a0) (fun r3=>?_)
      refine bQ.cP (fuel':=2) 5 (by kernel_rfl) ?_
      refine cE.cF (t:=17) 5 [] rfl (by kernel_rfl) (pY K r3) (fun r4=>?_)
      refine bQ.v0 (fuel':=1) [6] [1,2,3,18] [0,1,2,3] ?_
      refine bQ.cP (fuel':=0) 8 (by kernel_rfl) ?_
      refine cE.w0 8 [1,2,3] [0,1,2,3] ?_
      refine bQ.done (by kernel_rfl) ?_
      refine Ref.ck ⟨n6,aEL a0 r2 r4,[],0⟩ [1,2,3] [0,1,2,3] ?_
      exact hk r2 r4
    ·
     refine cE.a0 3 [1,2,12,15] [0,1] ?_
     refine bQ.lW (fuel':=6) 1 7 (by kernel_rfl) ?_ ?_
     ·
      refine cE.cF (t:=13) 1 [] rfl (by kernel_rfl) (pJ K a0) (fun r1=>?_)
      refine bQ.lV (t:=14) (g:=[]) (b:=true) (fuel':=5) 2 [] (default:Bytes) rfl (by kernel_rfl) (by kernel_rfl) (nF K r1) (fun _=>rfl) (fun r2=>?_)
      refine bQ.lW (fuel':=4) 4 7 (by kernel_rfl) ?_ ?_
      ·
       refine cE.cF (t:=16) 4 [] rfl (by kernel_rfl) (pJ K a0) (fun r3=>?_)
       refine bQ.lW (fuel':=3) 5 7 (by kernel_rfl) ?_ ?_
       ·
        refine cE.cF (t:=17) 5 [] rfl (by kernel_rfl) (pY K r3) (fun r4=>?_)
        refine bQ.v0 (fuel':=2) [6] [1,2,18] [0,1,2] ?_
        refine bQ.cP (fuel':=1) 7 (by kernel_rfl) ?_
        refine cE.a0 7 [1,2,3,18] [0,1,2,3] ?_
        refine bQ.cP (fuel':=0) 8 (by kernel_rfl) ?_
        refine cE.w0 8 [1,2,3] [0,1,2,3] ?_
        refine bQ.done (by kernel_rfl) ?_
        refine Ref.ck ⟨n6,aEL a0 r2 r4,[],0⟩ [1,2,3] [0,1,3,2] ?_
        exact hk r2 r4
       ·
        refine cE.a0 7 [1,2,3,14,16] [0,1,2] ?_
        refine bQ.cP (fuel':=2) 5 (by kernel_rfl) ?_
        refine cE.cF (t:=17) 5 [] rfl (by kernel_rfl) (pY K r3) (fun r4=>?_)
        refine bQ.v0 (fuel':=1) [6] [1,2,3,18] [0,1,2,3] ?_
        refine bQ.cP (fuel':=0) 8 (by kernel_rfl) ?_
        refine cE.w0 8 [1,2,3] [0,1,2,3] ?_
        refine bQ.done (by kernel_rfl) ?_
        refine Ref.ck ⟨n6,aEL a0 r2 r4,[],0⟩ [1,2,3] [0,1,2,3] ?_
        exact hk r2 r4
      ·
       refine cE.a0 7 [1,2,3,14,15] [0,1,2] ?_
       refine bQ.cP (fuel':=3) 4 (by kernel_rfl) ?_
       refine cE.cF (t:=16) 4 [] rfl (by kernel_rfl) (pJ K a0) (fun r3=>?_)
       refine bQ.cP (fuel':=2) 5 (by kernel_rfl) ?_
       refine cE.cF (t:=17) 5 [] rfl (by kernel_rfl) (pY K r3) (fun r4=>?_)
       refine bQ.v0 (fuel':=1) [6] [1,2,3,18] [0,1,2,3] ?_
       refine bQ.cP (fuel':=0) 8 (by kernel_rfl) ?_
       refine cE.w0 8 [1,2,3] [0,1,2,3] ?_
       refine bQ.done (by kernel_rfl) ?_
       refine Ref.ck ⟨n6,aEL a0 r2 r4,[],0⟩ [1,2,3] [0,1,2,3] ?_
       exact hk r2 r4
     ·
      refine cE.a0 7 [1,2,3,12,15] [0,1,2] ?_
      refine bQ.cP (fuel':=5) 1 (by kernel_rfl) ?_
      refine cE.cF (t:=13) 1 [] rfl (by kernel_rfl) (pJ K a0) (fun r1=>?_)
      refine bQ.lV (t:=14) (g:=[]) (b:=true) (fuel':=4) 2 [] (default:Bytes) rfl (by kernel_rfl) (by kernel_rfl) (nF K r1) (fun _=>rfl) (fun r2=>?_)
      refine bQ.cP (fuel':=3) 4 (by kernel_rfl) ?_
      refine cE.cF (t:=16) 4 [] rfl (by kernel_rfl) (pJ K a0) (fun r3=>?_)
      refine bQ.cP (fuel':=2) 5 (by kernel_rfl) ?_
      refine cE.cF (t:=17) 5 [] rfl (by kernel_rfl) (pY K r3) (fun r4=>?_)
      refine bQ.v0 (fuel':=1) [6] [1,2,3,18] [0,1,2,3] ?_
      refine bQ.cP (fuel':=0) 8 (by kernel_rfl) ?_
      refine cE.w0 8 [1,2,3] [0,1,2,3] ?_
      refine bQ.done (by kernel_rfl) ?_
      refine Ref.ck ⟨n6,aEL a0 r2 r4,[],0⟩ [1,2,3] [0,1,2,3] ?_
      exact hk r2 r4
    ·
     refine cE.a0 7 [1,2,3,12] [0,1,2] ?_
     refine bQ.lW (fuel':=6) 1 3 (by kernel_rfl) ?_ ?_
     ·
      refine cE.cF (t:=13) 1 [] rfl (by kernel_rfl) (pJ K a0) (fun r1=>?_)
      refine bQ.v0 (fuel':=5) [3] [1,2,3,13,15] [0,1,2] ?_
      refine bQ.lV (t:=14) (g:=[]) (b:=true) (fuel':=4) 2 [] (default:Bytes) rfl (by kernel_rfl) (by kernel_rfl) (nF K r1) (fun _=>rfl) (fun r2=>?_)
      refine bQ.cP (fuel':=3) 4 (by kernel_rfl) ?_
      refine cE.cF (t:=16) 4 [] rfl (by kernel_rfl) (pJ K a0) (fun r3=>?_)
      refine bQ.cP (fuel':=2) 5 (by kernel_rfl) ?_
      refine cE.cF (t:=17) 5 [] rfl (by kernel_rfl) (pY K r3) (fun r4=>?_)
      refine bQ.v0 (fuel':=1) [6] [1,2,3,18] [0,1,2,3] ?_
      refine bQ.cP (fuel':=0) 8 (by kernel_rfl) ?_
      refine cE.w0 8 [1,2,3] [0,1,2,3] ?_
      refine bQ.done (by kernel_rfl) ?_
      refine Ref.ck ⟨n6,aEL a0 r2 r4,[],0⟩ [1,2,3] [0,1,2,3] ?_
      exact hk r2 r4
     ·
      refine cE.a0 3 [1,2,3,12,15] [0,1,2] ?_
      refine bQ.cP (fuel':=5) 1 (by kernel_rfl) ?_
      refine cE.cF (t:=13) 1 [] rfl (by kernel_rfl) (pJ K a0) (fun r1=>?_)
      refine bQ.lV (t:=14) (g:=[]) (b:=true) (fuel':=4) 2 [] (default:Bytes) rfl (by kernel_rfl) (by kernel_rfl) (nF K r1) (fun _=>rfl) (fun r2=>?_)
      refine bQ.cP (fuel':=3) 4 (by kernel_rfl) ?_
      refine cE.cF (t:=16) 4 [] rfl (by kernel_rfl) (pJ K a0) (fun r3=>?_)
      refine bQ.cP (fuel':=2) 5 (by kernel_rfl) ?_
      refine cE.cF (t:=17) 5 [] rfl (by kernel_rfl) (pY K r3) (fun r4=>?_)
      refine bQ.v0 (fuel':=1) [6] [1,2,3,18] [0,1,2,3] ?_
      refine bQ.cP (fuel':=0) 8 (by kernel_rfl) ?_
      refine cE.w0 8 [1,2,3] [0,1,2,3] ?_
      refine bQ.done (by kernel_rfl) ?_
      refine Ref.ck ⟨n6,aEL a0 r2 r4,[],0⟩ [1,2,3] [0,1,2,3] ?_
      exact hk r2 r4))
end Go.Proofs.YtdbfbedholdjaaaGreat
