/- No conditions. -/
import Derived.Test.YtdbfbedholdjaaaGreatPLn
import Derived.Test.YtdbfbedholdjaaaGreatPBL
import Derived.Test.YtdbfbedholdjaaaGreatPLq
import Derived.Test.YtdbfbedholdjaaaGreatProg
set_option linter.unusedVariables false
set_option linter.unusedSimpArgs false
set_option linter.unusedSectionVars false
namespace Go.Proofs.YtdbfbedholdjaaaGreat
open Go Go.Proofs Go.Dl
variable [dW]
set_option maxRecDepth 100000
set_option maxHeartbeats 4000000
def F40 (K:Nat) (a0:cZ) (a1:Int):Option ((S56) ⊕ (S56)) :=
 ((bT (F52 K a0 a1)).bind (fun r1=>((cH true (bT (F36 K r1)) default).bind (fun r2=>((bT (F52 K a0 a1)).bind (fun r3=>((bT (F38 K r3)).bind (fun r4=>((bT (F10 K a0 a1)).bind (fun r6=>(bL (if (decide (((Int.ofNat r6.length):Int) > 1))=true then (bW [cS 1 r6.length] ((cH true (bT (F11 K a0 (r6.getD (1:Int).toNat default))) default).bind (fun r9=>(some (.inr (r9)))))) else (some (.inr ((-1))))) (fun (u8:Int)=>((bT (F49 K a0 a1)).bind (fun jY=>(bL (bJ ((iter K (fun (gX:(List Int) × (List Bytes) × Int)=>(bN (decide ((gX.2.2:Int)<(Int.ofNat jY.length))) (fun (x58:Bool)=>(if x58=true then (bL (bJ (bW [cS gX.2.2 jY.length] ((bT (F87 K a0 a1 (jY.getD (gX.2.2:Int).toNat default))).bind (fun tP=>((cH true (bT (F19 K a0 tP.1)) default).bind (fun vC=>(bW [room ((gX.1.length+([vC].length)) * 8)] (bW [cS tP.1.c8 a0.bK.length,cS tP.1.dD ((a0.bK.getD (tP.1.c8:Int).toNat default).bM).length] ((cH true (bT (F39 K (((a0.bK.getD (tP.1.c8:Int).toNat default).bM).getD (tP.1.dD:Int).toNat default))) default).bind (fun r65=>(bW [room ((gX.2.1.length+([r65].length)) * 16)] (some (.inr ((gX.1++[vC]),(gX.2.1++[r65]))))))))))))))) (fun (u62:(List Int) × (List Bytes))=>(some (.inr (u62.1,u62.2,(IntKind.i64.wrap (gX.2.2+1))))))) else (some (.inl (Sum.inl (gX.1,gX.2.1)))))))) ([],[],0)).map .inl)) (fun (tA:(List Int) × (List Bytes))=>((bT (aMr K a0 a1)).bind (fun r66=>((bT (F89 K r66)).bind (fun l9=>(bW [decide (r66.length=l9.length)] (bL (bJ ((iter K (fun (iG:(List nH) × Int)=>(bN (decide ((iG.2:Int)<(Int.ofNat l9.length))) (fun (aR8:Bool)=>(if aR8=true then (bL (bJ (bW [cS iG.2 l9.length] ((bT (F22 K a0 (l9.getD ((iG.2:Int).toNat) default))).bind (fun pK=>(bW [cS (l9.getD ((iG.2:Int).toNat) default) a0.bK.length] (bN ((a0.bK.getD ((l9.getD ((iG.2:Int).toNat) default):Int).toNat default).bM) (fun (wU:(List hU))=>(bN (Int.ofNat ((a0.bK.getD ((l9.getD ((iG.2:Int).toNat) default):Int).toNat default).bM).length) (fun (aCn:Int)=>(bL (bJ ((iter K (fun (jB:(List Int) × Int)=>(if (decide ((jB.2:Int)<aCn))=true then (bL (bJ (bW [cS jB.2 wU.length] (bN ((wU.getD (jB.2:Int).toNat default).cC) (fun (aJu:Bytes)=>((cH true (bT (F90 K a0 a1 aJu)) default).bind (fun wV=>(bW [room ((jB.1.length+([wV].length)) * 8)] (some (.inr ((jB.1++[wV]))))))))))) (fun (aJv:(List Int))=>(some (.inr (aJv,(IntKind.i64.wrap (jB.2+1))))))) else (some (.inl (Sum.inl (jB.1)))))) ([],0)).map .inl)) (fun (uQ:(List Int))=>(bW [room ((iG.1.length+([(⟨pK,uQ⟩:nH)].length)) * 32)] (some (.inr ((iG.1++[(⟨pK,uQ⟩:nH)])))))))))))))))) (fun (aEO:(List nH))=>(some (.inr (aEO,(IntKind.i64.wrap (iG.2+1))))))) else (some (.inl (Sum.inl (iG.1)))))))) ([],0)).map .inl)) (fun (aJw:(List nH))=>(some (.inl ((⟨u8,r2,r4,tA.1,tA.2,aJw⟩:S56)))))))))))))))))))))))))))
abbrev yH (v0:cZ) (v1:Int) (v2:Bytes) (v3:(List Int)) (v4:(List Int) × (List Bytes)) (v5:(List nH) × Int):List Go.Dl.Obj:=[.cells (dM.cs v0),oX2,.cells [iC v1,.str v2,E3.tree v3,.own 3 v4.1.length,.own 4 v4.2.length,.own 5 v5.1.length],E3.row v4.1,E9.row v4.2,aBp.row v5.1]
abbrev iN (v0:Int):List (Nat × D):=[sI 1 v0,sP 2 0 0 0,sP 4 1 0 0,sP 5 2 0 0]
abbrev yI (v0:cZ) (v1:Bytes) (v2:(List Int)):List Go.Dl.Obj:=[.cells (dM.cs v0),oX2,.cells [iC (-1),.str v1,E3.tree v2,.nil,.nil,.nil]]
abbrev yJ (v0:List Bytes) (v1:(List Int) × (List Bytes) × Int):List (Nat × D):=[(40,.c (E9.tree v0)),sI 41 (Int.ofNat v0.length),sI 42 v1.2.2]
abbrev aK0 (v0:cZ) (v1:Int) (v2:Bytes) (v3:(List Int)) (v4:(List Int) × (List Bytes) × Int):List Go.Dl.Obj:=[.cells (dM.cs v0),oX2,.cells [iC v1,.str v2,E3.tree v3,.own 3 v4.1.length,.own 4 v4.2.1.length,.nil],E3.row v4.1,E9.row v4.2.1]
abbrev aB0 (v0:(List nH) × Int) (v1:(List hU)) (v2:Int) (v3:(List Int) × Int):List (Nat × D):=[sI 86 v0.2,(99,.c (kJ.tree v1)),sI 100 v2,sI 101 v3.2]
abbrev aFd (v0:Int) (v1:(List Int) × Int):List Go.Dl.Obj:=[.cells [iC v0,.own 7 v1.1.length],E3.row v1.1]
theorem aVg (K:Nat) (a0:cZ) (a1:Int):bS Tryz.prog 40 [.agg (dM.cs a0),.c (.val (.int .i64 a1))] [] (bT (F40 K a0 a1)) (fun r=>.agg (uY.cs r)) (fun r=>[.cells (uY.cs r)]):=by
 refine bS.it Tryz.f40 (fun r=>⟨[sP 4 0 0 0],[.cells (uY.cs r)],[],0⟩) ?_
 unfold F40
 exact Ref.pt (
  .esc [0,1] [(cd (bd Tryz.f40) [1,0]),(cd (bd Tryz.f40) [1,1])] ⟨[sI 1 a1,sP 2 0 0 0,sP 4 1 0 0],[.cells (dM.cs a0),oX2],[],0⟩ (by
   refine Ref.eH 1 (by kernel_rfl) (by kernel_rfl) ?_
   refine dN.eW (cR:=⟨[sI 1 a1,sP 2 0 0 0,sP 4 1 0 0,sI 18 a1,sI 22 a1],[.cells (dM.cs a0),oX2],[],0⟩) (fuel':=9) [1,5] [1,2,4,18,22] [0,1] rfl (by kernel_rfl) (by kernel_rfl) ?_
   refine dN.qB [2,6,7,10] ?_
   refine bO.aNE (fun (r2:Bytes) (r4:(List Int))=>⟨iN a1,yI a0 r2 r4,[],0⟩) (fun (r2:Bytes) (r4:(List Int))=>((bT (F10 K a0 a1)).bind (fun r6=>(bL (if (decide ((Int.ofNat r6.length) > 1))=true then (bW [cS 1 r6.length] ((cH true (bT (F11 K a0 (gd r6 1))) default).bind (fun r9=>(some (.inr (r9)))))) else (some (.inr ((-1))))) (fun (u8:Int)=>((bT (F49 K a0 a1)).bind (fun jY=>(bL (bJ ((iter K (fun (gX:(List Int) × (List Bytes) × Int)=>(bN (decide ((gX.2.2:Int)<(Int.ofNat jY.length))) (fun (x58:Bool)=>(if x58=true then (bL (bJ (bW [cS gX.2.2 jY.length] ((bT (F87 K a0 a1 (gd jY gX.2.2))).bind (fun tP=>((cH true (bT (F19 K a0 tP.1)) default).bind (fun vC=>(bW [room ((gX.1.length+([vC].length)) * 8)] (bW [cS tP.1.c8 a0.bK.length,cS tP.1.dD ((gd a0.bK tP.1.c8).bM).length] ((cH true (bT (F39 K (gd ((gd a0.bK tP.1.c8).bM) tP.1.dD))) default).bind (fun r65=>(bW [room ((gX.2.1.length+([r65].length)) * 16)] (some (.inr ((gX.1++[vC]),(gX.2.1++[r65]))))))))))))))) (fun (u62:(List Int) × (List Bytes))=>(some (.inr (u62.1,u62.2,(IntKind.i64.wrap (gX.2.2+1))))))) else (some (.inl (Sum.inl (gX.1,gX.2.1)))))))) ([],[],0)).map .inl)) (fun (tA:(List Int) × (List Bytes))=>((bT (aMr K a0 a1)).bind (fun r66=>((bT (F89 K r66)).bind (fun l9=>(bW [decide (r66.length=l9.length)] (bL (bJ ((iter K (fun (iG:(List nH) × Int)=>(bN (decide ((iG.2:Int)<(Int.ofNat l9.length))) (fun (aR8:Bool)=>(if aR8=true then (bL (bJ (bW [cS iG.2 l9.length] ((bT (F22 K a0 (l9.getD ((iG.2:Int).toNat) default))).bind (fun pK=>(bW [cS (l9.getD ((iG.2:Int).toNat) default) a0.bK.length] (bN ((a0.bK.getD ((l9.getD ((iG.2:Int).toNat) default):Int).toNat default).bM) (fun (wU:(List hU))=>(bN (Int.ofNat ((a0.bK.getD ((l9.getD ((iG.2:Int).toNat) default):Int).toNat default).bM).length) (fun (aCn:Int)=>(bL (bJ ((iter K (fun (jB:(List Int) × Int)=>(if (decide ((jB.2:Int)<aCn))=true then (bL (bJ (bW [cS jB.2 wU.length] (bN ((gd wU jB.2).cC) (fun (aJu:Bytes)=>((cH true (bT (F90 K a0 a1 aJu)) default).bind (fun wV=>(bW [room ((jB.1.length+([wV].length)) * 8)] (some (.inr ((jB.1++[wV]))))))))))) (fun (aJv:(List Int))=>(some (.inr (aJv,(IntKind.i64.wrap (jB.2+1))))))) else (some (.inl (Sum.inl (jB.1)))))) ([],0)).map .inl)) (fun (uQ:(List Int))=>(bW [room ((iG.1.length+([(⟨pK,uQ⟩:nH)].length)) * 32)] (some (.inr ((iG.1++[(⟨pK,uQ⟩:nH)])))))))))))))))) (fun (aEO:(List nH))=>(some (.inr (aEO,(IntKind.i64.wrap (iG.2+1))))))) else (some (.inl (Sum.inl (iG.1)))))))) ([],0)).map .inl)) (fun (aJw:(List nH))=>(some (.inl ((⟨u8,r2,r4,tA.1,tA.2,aJw⟩:S56)))))))))))))))))))) (fun r2 r4=>?_) (fun hk=>?_)
   ·
    exact Ref.pt (
     .call [] (aA1 _ _ _) fun r6 =>
     .jn (fun u8=>⟨iN a1,[.cells (dM.cs a0),oX2,.cells [iC u8,.str r2,E3.tree r4,.nil,.nil,.nil]],[],0⟩) (
      .ite _ (
       .lT [1,2] _ <|
       .tx [6] <|
       .ex [0,3] <|
       .fF 4 (default:Int) _ [] (aDU K a0 (gd r6 1)) (fun _=>rfl) fun r9 =>
       .ex [5] <|
       .tl [6] <|
       .nil [0,1,2] _) (
       .nil [0,1,2] _)) fun u8 =>
     .call [] (aNe _ _ _) fun jY =>
     .bk 0 (fun tA=>⟨iN a1,[.cells (dM.cs a0),oX2,.cells [iC u8,.str r2,E3.tree r4,.own 3 tA.1.length,.own 4 tA.2.length,.nil],E3.row tA.1,E9.row tA.2],[],0⟩) (
      .adc 5 0 2 3 E3.ty E3.w (E3.at []) <|
      .adc 5 0 2 4 E9.ty E9.w (E9.at []) <|
      .lp [0,1,2,3,4] (fun gX=>⟨iN a1++yJ jY gX,aK0 a0 u8 r2 r4 gX,[],0⟩) fun gX =>
      .lt _ fun x58 =>
      .ite _ (
       .bk 1 (fun u62=>⟨iN a1++yJ jY gX,[.cells (dM.cs a0),oX2,.cells [iC u8,.str r2,E3.tree r4,.own 3 u62.1.length,.own 4 u62.2.length,.nil],E3.row u62.1,E9.row u62.2],[],0⟩) (
        .ck _ <|
        .call [] (aOH _ _ _ _) fun tP =>
        .esc [0,1,2,3,4,6] [(cd (bd Tryz.f40) [1,1,1,0,1,0,0,1,1,0,0,1,1,0]),(cd (bd Tryz.f40) [1,1,1,0,1,0,0,1,1,0,0,1,1,1])] ⟨iN a1++(sP 9 5 0 0::yJ jY gX),aK0 a0 u8 r2 r4 gX++[.cells (dO.cs tP.1)],[],0⟩ (by
         refine Ref.eH 9 (by kernel_rfl) (by kernel_rfl) ?_
         refine dN.eW (cR:=⟨iN a1++(sP 9 5 0 0::(yJ jY gX++[sP 53 2 0 3])),aK0 a0 u8 r2 r4 gX++[.cells (dO.cs tP.1)],[],0⟩) (fuel':=8) [0] [1,2,4,5,9,40,41,42,53] [0,1,2,3,4,5] rfl (by kernel_rfl) (by kernel_rfl) ?_
         refine dN.qB [6,7,8] ?_
         refine bO.v0 (fuel':=5) [1,2,3] [1,2,4,5,9,40,41,42,54,55,56] [0,1,2,3,4,5] ?_
         refine bO.lC (t:=57) (g:=[]) (b:=true) (fuel':=4) 4 [] (default:Int) rfl (by kernel_rfl) (by kernel_rfl) (aI7 K a0 tP.1) (fun _=>rfl) (fun vC=>?_)
         refine bO.mX (cR:=⟨iN a1++(sP 9 5 0 0::(yJ jY gX++[(54,.c (.own 3 gX.1.length)),(58,.c (.own 6 1))])),aK0 a0 u8 r2 r4 gX++[.cells (dO.cs tP.1),.row 3 1 1 (gY [[iC vC]])],[],0⟩) (fuel':=3) 5 [1,2,4,5,9,40,41,42,54,58] [0,1,2,3,4,5,6] rfl (by kernel_rfl) (by kernel_rfl) ?_
         refine bO.conv (Conv.ob 6 (E3.row [vC]) (El.bZ E3 [vC] rfl (by kernel_rfl))) ?_
         refine bO.conv (Conv.sl 58 (.c (.own 6 ([vC].length))) (eA.c (dY.own (by first | (simp;done) | (simp;omega) | omega)))) ?_
         refine bO.qP [6,7,8] rfl (by kernel_rfl) ?_
         refine c6.evC (vs:=[room ((gX.1.length+([vC].length)) * 8)]) (cR:=⟨iN a1++(sP 9 5 0 0::(yJ jY gX++[(59,.c (.own 6 (gX.1.length+([vC].length))))])),[.cells (dM.cs a0),oX2,.cells [iC u8,.str r2,E3.tree r4,.own 3 gX.1.length,.own 4 gX.2.1.length,.nil],.dead,E9.row gX.2.1,.cells (dO.cs tP.1),.row 3 1 (gX.1.length+([vC].length)) fun i j=>bif Nat.blt i gX.1.length then E3.at gX.1 i j else (E3.at [vC]) (i - gX.1.length) j],[],0⟩) 0 1 1 [1,2,4,5,9,40,41,42,59] [0,1,2,3,4,5,7] rfl (by kernel_rfl) ?_
         refine c6.conv (Conv.ob 6 (E3.row (gX.1++[vC])) (El.cI E3 gX.1 [vC] rfl rfl)) ?_
         refine c6.conv (Conv.sl 59 (.c (.own 6 ((gX.1++[vC]).length))) (eA.c (dY.own (by first | (simp;done) | (simp;omega) | omega)))) ?_
         refine c6.en 1 2 ⟨iN a1++(sP 9 4 0 0::yJ jY gX),[.cells (dM.cs a0),oX2,.cells [iC u8,.str r2,E3.tree r4,.own 5 ((gX.1++[vC]).length),.own 3 gX.2.1.length,.nil],E9.row gX.2.1,.cells (dO.cs tP.1),E3.row (gX.1++[vC])],[],0⟩ [1,2,4,5,9,40,41,42] [0,1,2,4,5,6] ?_
         refine Ref.eH 10 (by kernel_rfl) (by kernel_rfl) ?_
         refine dN.eW (cR:=⟨iN a1++yJ jY gX++[sP 61 2 0 4,sP 63 0 0 0,sP 65 4 0 0,sP 70 4 0 1],[.cells (dM.cs a0),oX2,.cells [iC u8,.str r2,E3.tree r4,.own 5 ((gX.1++[vC]).length),.own 3 gX.2.1.length,.nil],E9.row gX.2.1,.cells (dO.cs tP.1),E3.row (gX.1++[vC])],[],0⟩) (fuel':=14) [0,2,4,9] [1,2,4,5,40,41,42,61,63,65,70] [0,1,2,3,4,5] rfl (by kernel_rfl) (by kernel_rfl) ?_
         refine dN.qB [15,16,17] ?_
         refine bO.v1 (fuel':=5) [cS tP.1.c8 a0.bK.length,cS tP.1.dD ((gd a0.bK tP.1.c8).bM).length] [1,3,5,6,7,8,10,11,12] [1,2,4,5,40,41,42,62,73] [0,1,2,3,5] ?_
         refine bO.lC (t:=74) (g:=[]) (b:=true) (fuel':=4) 13 [] (default:Bytes) rfl (by kernel_rfl) (by kernel_rfl) (aOW K (gd ((gd a0.bK tP.1.c8).bM) tP.1.dD)) (fun _=>rfl) (fun r65=>?_)
         refine bO.mX (cR:=⟨iN a1++yJ jY gX++[(62,.c (.own 3 gX.2.1.length)),(75,.c (.own 5 1))],[.cells (dM.cs a0),oX2,.cells [iC u8,.str r2,E3.tree r4,.own 4 ((gX.1++[vC]).length),.own 3 gX.2.1.length,.nil],E9.row gX.2.1,E3.row (gX.1++[vC]),.row 9 1 1 (gY [[.str r65]])],[],0⟩) (fuel':=3) 14 [1,2,4,5,40,41,42,62,75] [0,1,2,3,4,5] rfl (by kernel_rfl) (by kernel_rfl) ?_
         refine bO.conv (Conv.ob 5 (E9.row [r65]) (El.bZ E9 [r65] rfl (by kernel_rfl))) ?_
         refine bO.conv (Conv.sl 75 (.c (.own 5 ([r65].length))) (eA.c (dY.own (by first | (simp;done) | (simp;omega) | omega)))) ?_
         refine bO.qP [15,16,17] rfl (by kernel_rfl) ?_
         refine c6.evC (vs:=[room ((gX.2.1.length+([r65].length)) * 16)]) (cR:=⟨iN a1++yJ jY gX++[(76,.c (.own 5 (gX.2.1.length+([r65].length))))],[.cells (dM.cs a0),oX2,.cells [iC u8,.str r2,E3.tree r4,.own 4 ((gX.1++[vC]).length),.own 3 gX.2.1.length,.nil],.dead,E3.row (gX.1++[vC]),.row 9 1 (gX.2.1.length+([r65].length)) fun i j=>bif Nat.blt i gX.2.1.length then E9.at gX.2.1 i j else (E9.at [r65]) (i - gX.2.1.length) j],[],0⟩) 0 1 1 [1,2,4,5,40,41,42,76] [0,1,2,3,4,6] rfl (by kernel_rfl) ?_
         refine c6.conv (Conv.ob 5 (E9.row (gX.2.1++[r65])) (El.cI E9 gX.2.1 [r65] rfl rfl)) ?_
         refine c6.conv (Conv.sl 76 (.c (.own 5 ((gX.2.1++[r65]).length))) (eA.c (dY.own (by first | (simp;done) | (simp;omega) | omega)))) ?_
         refine c6.en1 1 2 [1,2,4,5,40,41,42] [0,1,2,4,5] ?_
         exact Ref.n0)) fun u62 =>
       .nil [0,1,2,3,4] _) (
       .ret [0,1,2,3,4] _)) fun tA =>
     .call [] (aRI _ _ _) fun r66 =>
     .call [5] (aTO _ _) fun l9 =>
     .aEK [0,1,2,3,4,5] 13 (rg (cd (bd Tryz.f40) [1,1,1,1,1,0])) ((rg (cd (bd Tryz.f40) [1,1,1,1,1,0])).toList.drop 2) [(cd (bd Tryz.f40) [1,1,1,1,1,1])] ⟨iN a1++[(11,.c (.own 5 r66.length)),(82,.c (.own 5 r66.length)),(83,.iT [])],[.cells (dM.cs a0),oX2,.cells [iC u8,.str r2,E3.tree r4,.own 3 tA.1.length,.own 4 tA.2.length,.nil],E3.row tA.1,E9.row tA.2,E3.row l9],[],0⟩ (by
      refine c6.aWv (decide (r66.length=l9.length)) (fun hl1=>?_)
      exact c6.pt (id:=13) (
       .sl 13 0 11 (x:=.c (.own 5 r66.length)) (y:=(.c (.own 5 l9.length))) (eA.c (dY.own (of_decide_eq_true hl1))) <|
       .sl 13 0 82 (x:=.c (.own 5 r66.length)) (y:=(.c (.own 5 l9.length))) (eA.c (dY.own (of_decide_eq_true hl1))) <|
       .bk 2 (fun aJw=>⟨[sP 4 0 0 0,sP 5 1 0 0],[oX2,.cells [iC u8,.str r2,E3.tree r4,.own 2 tA.1.length,.own 3 tA.2.length,.own 4 aJw.length],E3.row tA.1,E9.row tA.2,aBp.row aJw],[],0⟩) (
        .adc 14 0 2 5 aBp.ty aBp.w (aBp.at []) <|
        .lp [0,1,2,3,4,6,5] (fun iG=>⟨iN a1++[(84,.c (.own 6 l9.length)),sI 85 (Int.ofNat l9.length),sI 86 iG.2],yH a0 u8 r2 r4 tA iG++[E3.row l9],[],0⟩) fun iG =>
        .lt _ fun aR8 =>
        .ite _ (
         .bk 3 (fun aEO=>⟨iN a1++[(84,.c (.own 6 l9.length)),sI 85 (Int.ofNat l9.length),sI 86 iG.2],[.cells (dM.cs a0),oX2,.cells [iC u8,.str r2,E3.tree r4,.own 3 tA.1.length,.own 4 tA.2.length,.own 5 aEO.length],E3.row tA.1,E9.row tA.2,aBp.row aEO,E3.row l9],[],0⟩) (
          .ck _ <|
          .call [] (aUF _ _ _) fun pK =>
          .ck _ <|
          .lt _ fun wU =>
          .lt _ fun aCn =>
          .bk 4 (fun uQ=>⟨iN a1++[sP 14 6 0 0,(84,.c (.own 8 l9.length)),sI 85 (Int.ofNat l9.length),sI 86 iG.2],yH a0 u8 r2 r4 tA iG++[.cells [iC pK,.own 7 uQ.length],E3.row uQ,E3.row l9],[],0⟩) (
           .adc 18 0 7 1 E3.ty E3.w (E3.at []) <|
           .lp [0,1,2,3,4,5,7,8,6] (fun jB=>⟨iN a1++(sP 14 6 0 0::(84,.c (.own 8 l9.length))::sI 85 (Int.ofNat l9.length)::aB0 iG wU aCn jB),yH a0 u8 r2 r4 tA iG++aFd pK jB++[E3.row l9],[],0⟩) fun jB =>
           .ite _ (
            .bk 5 (fun aJv=>⟨iN a1++(sP 14 6 0 0::(84,.c (.own 8 l9.length))::sI 85 (Int.ofNat l9.length)::aB0 iG wU aCn jB),yH a0 u8 r2 r4 tA iG++[.cells [iC pK,.own 7 aJv.length],E3.row aJv,E3.row l9],[],0⟩) (
             .ck _ <|
             .esc [0,1,2,3,4,5,6,7,8,9] [(cd (bd Tryz.f40) [1,1,1,1,1,1,0,1,0,0,1,1,0,0,1,1,0,1,0,0,1,1,0,0,1])] ⟨iN a1++(sP 14 6 0 0::sP 16 9 0 0::(84,.c (.own 8 l9.length))::sI 85 (Int.ofNat l9.length)::aB0 iG wU aCn jB),yH a0 u8 r2 r4 tA iG++aFd pK jB++[E3.row l9,kJ.o (gd wU jB.2)],[],0⟩ (by
              refine Ref.eH 21 (by kernel_rfl) (by kernel_rfl) ?_
              refine dN.eW (cR:=⟨iN a1++(sP 14 6 0 0::(84,.c (.own 8 l9.length))::sI 85 (Int.ofNat l9.length)::(aB0 iG wU aCn jB++[sP 105 6 0 1,sI 108 a1,sP 109 9 0 0])),yH a0 u8 r2 r4 tA iG++aFd pK jB++[E3.row l9,kJ.o (gd wU jB.2)],[],0⟩) (fuel':=8) [0,3,4] [1,2,4,5,14,84,85,86,99,100,101,105,108,109] [0,1,2,3,4,5,6,7,8,9] rfl (by kernel_rfl) (by kernel_rfl) ?_
              refine dN.qB [8,9,10] ?_
              refine bO.eW (cR:=⟨iN a1++(sP 14 6 0 0::(84,.c (.own 8 l9.length))::sI 85 (Int.ofNat l9.length)::(aB0 iG wU aCn jB++[(106,.c (.own 7 jB.1.length)),(107,.agg (dM.cs a0)),sI 108 a1,sS 110 ((gd wU jB.2).cC)])),yH a0 u8 r2 r4 tA iG++aFd pK jB++[E3.row l9],[],0⟩) (fuel':=5) [1,2,5] [1,2,4,5,14,84,85,86,99,100,101,106,107,108,110] [0,1,2,3,4,5,6,7,8] rfl (by kernel_rfl) (by kernel_rfl) ?_
              refine bO.aEH (stf:=fun aJu=>⟨iN a1++(sP 14 6 0 0::(84,.c (.own 8 l9.length))::sI 85 (Int.ofNat l9.length)::(aB0 iG wU aCn jB++[(106,.c (.own 7 jB.1.length)),(107,.agg (dM.cs a0)),sI 108 a1,sS 110 aJu])),yH a0 u8 r2 r4 tA iG++aFd pK jB++[E3.row l9],[],0⟩) (by kernel_rfl) (fun aJu=>?_)
              refine bO.lC (t:=111) (g:=[]) (b:=true) (fuel':=4) 6 [] (default:Int) rfl (by kernel_rfl) (by kernel_rfl) (aUL K a0 a1 aJu) (fun _=>rfl) (fun wV=>?_)
              refine bO.mX (cR:=⟨iN a1++(sP 14 6 0 0::(84,.c (.own 8 l9.length))::sI 85 (Int.ofNat l9.length)::(aB0 iG wU aCn jB++[(106,.c (.own 7 jB.1.length)),(112,.c (.own 9 1))])),yH a0 u8 r2 r4 tA iG++aFd pK jB++[E3.row l9,.row 3 1 1 (gY [[iC wV]])],[],0⟩) (fuel':=3) 7 [1,2,4,5,14,84,85,86,99,100,101,106,112] [0,1,2,3,4,5,6,7,8,9] rfl (by kernel_rfl) (by kernel_rfl) ?_
              refine bO.conv (Conv.ob 9 (E3.row [wV]) (El.bZ E3 [wV] rfl (by kernel_rfl))) ?_
              refine bO.conv (Conv.sl 112 (.c (.own 9 ([wV].length))) (eA.c (dY.own (by first | (simp;done) | (simp;omega) | omega)))) ?_
              refine bO.qP [8,9,10] rfl (by kernel_rfl) ?_
              refine c6.evC (vs:=[room ((jB.1.length+([wV].length)) * 8)]) (cR:=⟨iN a1++(sP 14 6 0 0::(84,.c (.own 8 l9.length))::sI 85 (Int.ofNat l9.length)::(aB0 iG wU aCn jB++[(113,.c (.own 9 (jB.1.length+([wV].length))))])),yH a0 u8 r2 r4 tA iG++[.cells [iC pK,.own 7 jB.1.length],.dead,E3.row l9,.row 3 1 (jB.1.length+([wV].length)) fun i j=>bif Nat.blt i jB.1.length then E3.at jB.1 i j else (E3.at [wV]) (i - jB.1.length) j],[],0⟩) 0 1 1 [1,2,4,5,14,84,85,86,99,100,101,113] [0,1,2,3,4,5,6,7,8,10] rfl (by kernel_rfl) ?_
              refine c6.conv (Conv.ob 9 (E3.row (jB.1++[wV])) (El.cI E3 jB.1 [wV] rfl rfl)) ?_
              refine c6.conv (Conv.sl 113 (.c (.own 9 ((jB.1++[wV]).length))) (eA.c (dY.own (by first | (simp;done) | (simp;omega) | omega)))) ?_
              refine c6.en1 1 2 [1,2,4,5,14,84,85,86,99,100,101] [0,1,2,3,4,5,6,8,9] ?_
              exact Ref.kn [1,2,4,5,14,84,85,86,99,100,101] [0,1,2,3,4,5,6,8,7])) fun aJv =>
            .nil [0,1,2,3,4,5,6,7,8] _) (
            .ret [0,1,2,3,4,5,6,7,8] _)) fun uQ =>
          .fz 23 4 7 <|
          .ob 23 3 9 (x:=.row 135 2 1 (gY [[iC pK,E3.tree uQ]])) (y:=(aBp.row [(⟨pK,uQ⟩:nH)])) (El.bZ aBp [(⟨pK,uQ⟩:nH)] rfl (by kernel_rfl)) <|
          .sl 23 3 119 (x:=.c (.own 9 1)) (y:=(.c (.own 9 ([(⟨pK,uQ⟩:nH)].length)))) (eA.c (dY.own (by first | (simp;done) | (simp;omega) | omega))) <|
          .ck _ <|
          .ob 23 2 10 (x:=.row 135 2 (iG.1.length+([(⟨pK,uQ⟩:nH)].length)) fun i j=>bif Nat.blt i iG.1.length then aBp.at iG.1 i j else (aBp.at [(⟨pK,uQ⟩:nH)]) (i - iG.1.length) j) (y:=(aBp.row (iG.1++[(⟨pK,uQ⟩:nH)]))) (El.cI aBp iG.1 [(⟨pK,uQ⟩:nH)] rfl rfl) <|
          .sl 23 2 120 (x:=.c (.own 10 (iG.1.length+([(⟨pK,uQ⟩:nH)].length)))) (y:=(.c (.own 10 ((iG.1++[(⟨pK,uQ⟩:nH)]).length)))) (eA.c (dY.own (by first | (simp;done) | (simp;omega) | omega))) <|
          .nil [0,1,2,3,4,10,8] _) fun aEO =>
         .nil [0,1,2,3,4,5,6] _) (
         .ret [1,2,3,4,5] _)) fun aJw =>
       .fz 25 0 2 <|
       .fz 25 0 3 <|
       .fz 25 0 4 <|
       .ret [0] _)))
   ·
    refine bO.v0 (fuel':=8) [0] [1,2,4,17,18,22] [0,1] ?_
    refine bO.aS5 (fuel':=7) 2 4 9 (by kernel_rfl) ?_ ?_ ?_
    ·
     refine cF.cG (t:=19) 2 [] rfl (by kernel_rfl) (nL K a0 a1) (fun r1=>?_)
     refine bO.v0 (fuel':=6) [4] [1,2,4,19,21,22] [0,1] ?_
     refine bO.lC (t:=20) (g:=[]) (b:=true) (fuel':=5) 3 [] (default:Bytes) rfl (by kernel_rfl) (by kernel_rfl) (nA K r1) (fun _=>rfl) (fun r2=>?_)
     refine bO.kV (fuel':=4) 6 9 (by kernel_rfl) ?_ ?_
     ·
      refine cF.cG (t:=23) 6 [] rfl (by kernel_rfl) (nL K a0 a1) (fun r3=>?_)
      refine bO.kV (fuel':=3) 7 9 (by kernel_rfl) ?_ ?_
      ·
       refine cF.cG (t:=24) 7 [] rfl (by kernel_rfl) (uH K r3) (fun r4=>?_)
       refine bO.v0 (fuel':=2) [8] [1,2,4,25] [0,1] ?_
       refine bO.cM (fuel':=1) 9 (by kernel_rfl) ?_
       refine cF.a0 9 [1,2,4,5,25] [0,1,2] ?_
       refine bO.cM (fuel':=0) 10 (by kernel_rfl) ?_
       refine cF.w0 10 [1,2,4,5] [0,1,2] ?_
       refine bO.done (by kernel_rfl) ?_
       refine Ref.ck ⟨iN a1,yI a0 r2 r4,[],0⟩ [1,2,4,5] [0,1,2] ?_
       exact hk r2 r4
      ·
       refine cF.a0 9 [1,2,4,5,20,23] [0,1,2] ?_
       refine bO.cM (fuel':=2) 7 (by kernel_rfl) ?_
       refine cF.cG (t:=24) 7 [] rfl (by kernel_rfl) (uH K r3) (fun r4=>?_)
       refine bO.v0 (fuel':=1) [8] [1,2,4,5,25] [0,1,2] ?_
       refine bO.cM (fuel':=0) 10 (by kernel_rfl) ?_
       refine cF.w0 10 [1,2,4,5] [0,1,2] ?_
       refine bO.done (by kernel_rfl) ?_
       refine Ref.ck ⟨iN a1,yI a0 r2 r4,[],0⟩ [1,2,4,5] [0,1,2] ?_
       exact hk r2 r4
     ·
      refine cF.a0 9 [1,2,4,5,20,21,22] [0,1,2] ?_
      refine bO.cM (fuel':=3) 6 (by kernel_rfl) ?_
      refine cF.cG (t:=23) 6 [] rfl (by kernel_rfl) (nL K a0 a1) (fun r3=>?_)
      refine bO.cM (fuel':=2) 7 (by kernel_rfl) ?_
      refine cF.cG (t:=24) 7 [] rfl (by kernel_rfl) (uH K r3) (fun r4=>?_)
      refine bO.v0 (fuel':=1) [8] [1,2,4,5,25] [0,1,2] ?_
      refine bO.cM (fuel':=0) 10 (by kernel_rfl) ?_
      refine cF.w0 10 [1,2,4,5] [0,1,2] ?_
      refine bO.done (by kernel_rfl) ?_
      refine Ref.ck ⟨iN a1,yI a0 r2 r4,[],0⟩ [1,2,4,5] [0,1,2] ?_
      exact hk r2 r4
    ·
     refine cF.a0 4 [1,2,4,17,18,21,22] [0,1] ?_
     refine bO.kV (fuel':=6) 2 9 (by kernel_rfl) ?_ ?_
     ·
      refine cF.cG (t:=19) 2 [] rfl (by kernel_rfl) (nL K a0 a1) (fun r1=>?_)
      refine bO.lC (t:=20) (g:=[]) (b:=true) (fuel':=5) 3 [] (default:Bytes) rfl (by kernel_rfl) (by kernel_rfl) (nA K r1) (fun _=>rfl) (fun r2=>?_)
      refine bO.kV (fuel':=4) 6 9 (by kernel_rfl) ?_ ?_
      ·
       refine cF.cG (t:=23) 6 [] rfl (by kernel_rfl) (nL K a0 a1) (fun r3=>?_)
       refine bO.kV (fuel':=3) 7 9 (by kernel_rfl) ?_ ?_
       ·
        refine cF.cG (t:=24) 7 [] rfl (by kernel_rfl) (uH K r3) (fun r4=>?_)
        refine bO.v0 (fuel':=2) [8] [1,2,4,25] [0,1] ?_
        refine bO.cM (fuel':=1) 9 (by kernel_rfl) ?_
        refine cF.a0 9 [1,2,4,5,25] [0,1,2] ?_
        refine bO.cM (fuel':=0) 10 (by kernel_rfl) ?_
        refine cF.w0 10 [1,2,4,5] [0,1,2] ?_
        refine bO.done (by kernel_rfl) ?_
        refine Ref.ck ⟨iN a1,yI a0 r2 r4,[],0⟩ [1,2,4,5] [0,1,2] ?_
        exact hk r2 r4
       ·
        refine cF.a0 9 [1,2,4,5,20,23] [0,1,2] ?_
        refine bO.cM (fuel':=2) 7 (by kernel_rfl) ?_
        refine cF.cG (t:=24) 7 [] rfl (by kernel_rfl) (uH K r3) (fun r4=>?_)
        refine bO.v0 (fuel':=1) [8] [1,2,4,5,25] [0,1,2] ?_
        refine bO.cM (fuel':=0) 10 (by kernel_rfl) ?_
        refine cF.w0 10 [1,2,4,5] [0,1,2] ?_
        refine bO.done (by kernel_rfl) ?_
        refine Ref.ck ⟨iN a1,yI a0 r2 r4,[],0⟩ [1,2,4,5] [0,1,2] ?_
        exact hk r2 r4
      ·
       refine cF.a0 9 [1,2,4,5,20,21,22] [0,1,2] ?_
       refine bO.cM (fuel':=3) 6 (by kernel_rfl) ?_
       refine cF.cG (t:=23) 6 [] rfl (by kernel_rfl) (nL K a0 a1) (fun r3=>?_)
       refine bO.cM (fuel':=2) 7 (by kernel_rfl) ?_
       refine cF.cG (t:=24) 7 [] rfl (by kernel_rfl) (uH K r3) (fun r4=>?_)
       refine bO.v0 (fuel':=1) [8] [1,2,4,5,25] [0,1,2] ?_
       refine bO.cM (fuel':=0) 10 (by kernel_rfl) ?_
       refine cF.w0 10 [1,2,4,5] [0,1,2] ?_
       refine bO.done (by kernel_rfl) ?_
       refine Ref.ck ⟨iN a1,yI a0 r2 r4,[],0⟩ [1,2,4,5] [0,1,2] ?_
       exact hk r2 r4
     ·
      refine cF.a0 9 [1,2,4,5,17,18,21,22] [0,1,2] ?_
      refine bO.cM (fuel':=5) 2 (by kernel_rfl) ?_
      refine cF.cG (t:=19) 2 [] rfl (by kernel_rfl) (nL K a0 a1) (fun r1=>?_)
      refine bO.lC (t:=20) (g:=[]) (b:=true) (fuel':=4) 3 [] (default:Bytes) rfl (by kernel_rfl) (by kernel_rfl) (nA K r1) (fun _=>rfl) (fun r2=>?_)
      refine bO.cM (fuel':=3) 6 (by kernel_rfl) ?_
      refine cF.cG (t:=23) 6 [] rfl (by kernel_rfl) (nL K a0 a1) (fun r3=>?_)
      refine bO.cM (fuel':=2) 7 (by kernel_rfl) ?_
      refine cF.cG (t:=24) 7 [] rfl (by kernel_rfl) (uH K r3) (fun r4=>?_)
      refine bO.v0 (fuel':=1) [8] [1,2,4,5,25] [0,1,2] ?_
      refine bO.cM (fuel':=0) 10 (by kernel_rfl) ?_
      refine cF.w0 10 [1,2,4,5] [0,1,2] ?_
      refine bO.done (by kernel_rfl) ?_
      refine Ref.ck ⟨iN a1,yI a0 r2 r4,[],0⟩ [1,2,4,5] [0,1,2] ?_
      exact hk r2 r4
    ·
     refine cF.a0 9 [1,2,4,5,17,18,22] [0,1,2] ?_
     refine bO.kV (fuel':=6) 2 4 (by kernel_rfl) ?_ ?_
     ·
      refine cF.cG (t:=19) 2 [] rfl (by kernel_rfl) (nL K a0 a1) (fun r1=>?_)
      refine bO.v0 (fuel':=5) [4] [1,2,4,5,19,21,22] [0,1,2] ?_
      refine bO.lC (t:=20) (g:=[]) (b:=true) (fuel':=4) 3 [] (default:Bytes) rfl (by kernel_rfl) (by kernel_rfl) (nA K r1) (fun _=>rfl) (fun r2=>?_)
      refine bO.cM (fuel':=3) 6 (by kernel_rfl) ?_
      refine cF.cG (t:=23) 6 [] rfl (by kernel_rfl) (nL K a0 a1) (fun r3=>?_)
      refine bO.cM (fuel':=2) 7 (by kernel_rfl) ?_
      refine cF.cG (t:=24) 7 [] rfl (by kernel_rfl) (uH K r3) (fun r4=>?_)
      refine bO.v0 (fuel':=1) [8] [1,2,4,5,25] [0,1,2] ?_
      refine bO.cM (fuel':=0) 10 (by kernel_rfl) ?_
      refine cF.w0 10 [1,2,4,5] [0,1,2] ?_
      refine bO.done (by kernel_rfl) ?_
      refine Ref.ck ⟨iN a1,yI a0 r2 r4,[],0⟩ [1,2,4,5] [0,1,2] ?_
      exact hk r2 r4
     ·
      refine cF.a0 4 [1,2,4,5,17,18,21,22] [0,1,2] ?_
      refine bO.cM (fuel':=5) 2 (by kernel_rfl) ?_
      refine cF.cG (t:=19) 2 [] rfl (by kernel_rfl) (nL K a0 a1) (fun r1=>?_)
      refine bO.lC (t:=20) (g:=[]) (b:=true) (fuel':=4) 3 [] (default:Bytes) rfl (by kernel_rfl) (by kernel_rfl) (nA K r1) (fun _=>rfl) (fun r2=>?_)
      refine bO.cM (fuel':=3) 6 (by kernel_rfl) ?_
      refine cF.cG (t:=23) 6 [] rfl (by kernel_rfl) (nL K a0 a1) (fun r3=>?_)
      refine bO.cM (fuel':=2) 7 (by kernel_rfl) ?_
      refine cF.cG (t:=24) 7 [] rfl (by kernel_rfl) (uH K r3) (fun r4=>?_)
      refine bO.v0 (fuel':=1) [8] [1,2,4,5,25] [0,1,2] ?_
      refine bO.cM (fuel':=0) 10 (by kernel_rfl) ?_
      refine cF.w0 10 [1,2,4,5] [0,1,2] ?_
      refine bO.done (by kernel_rfl) ?_
      refine Ref.ck ⟨iN a1,yI a0 r2 r4,[],0⟩ [1,2,4,5] [0,1,2] ?_
      exact hk r2 r4))
def F9 (K:Nat) (a0:cZ):Option ((jN) ⊕ (jN)) :=
 ((bT (F37 K a0)).bind (fun r1=>((cH true (bT (F36 K r1)) default).bind (fun r2=>((bT (F37 K a0)).bind (fun r3=>((bT (aRG K r3)).bind (fun r4=>(bL (bJ ((iter K (fun (bX:(List (List Bytes)) × (List S56) × (List uX) × (List Int) × Bytes × (List Int) × (List Int) × (List gG) × (List gG) × (List yK) × Int × Int × Int)=>(bN (decide ((bX.2.2.2.2.2.2.2.2.2.2.2.2:Int)<(Int.ofNat a0.bK.length))) (fun (aR9:Bool)=>(if aR9=true then (bL (bJ (bW [cS bX.2.2.2.2.2.2.2.2.2.2.2.2 a0.bK.length] (bN ((a0.bK.getD (bX.2.2.2.2.2.2.2.2.2.2.2.2:Int).toNat default).bP) (fun (aCo:Int)=>(bL (bJ (if ((aCo:Int) == 1)=true then (bN ((a0.bK.getD (bX.2.2.2.2.2.2.2.2.2.2.2.2:Int).toNat default).bM) (fun (aHH:(List hU))=>(bN (Int.ofNat ((a0.bK.getD (bX.2.2.2.2.2.2.2.2.2.2.2.2:Int).toNat default).bM).length) (fun (aMG:Int)=>(bL (bJ ((iter K (fun (nC:(List Bytes) × Int)=>(if (decide ((nC.2:Int)<aMG))=true then (bL (bJ (bW [cS nC.2 aHH.length] ((bT (F39 K (aHH.getD (nC.2:Int).toNat default))).bind (fun xW=>(bW [room ((nC.1.length+([xW].length)) * 16)] (some (.inr ((nC.1++[xW]))))))))) (fun (aJx:(List Bytes))=>(some (.inr (aJx,(IntKind.i64.wrap (nC.2+1))))))) else (some (.inl (Sum.inl (nC.1)))))) ([],0)).map .inl)) (fun (uR:(List Bytes))=>(bW [room ((bX.1.length+([uR].length)) * 24)] (some (.inr ((⟨(bX.1++[uR]),bX.2.1,bX.2.2.1,bX.2.2.2.1,bX.2.2.2.2.1,bX.2.2.2.2.2.1,bX.2.2.2.2.2.2.1,bX.2.2.2.2.2.2.2.1,bX.2.2.2.2.2.2.2.2.1,bX.2.2.2.2.2.2.2.2.2.1,bX.2.2.2.2.2.2.2.2.2.2.1,bX.2.2.2.2.2.2.2.2.2.2.2.1⟩:jN))))))))))) else (if ((aCo:Int) == 2)=true then ((bT (F40 K a0 bX.2.2.2.2.2.2.2.2.2.2.2.2)).bind (fun pZ=>(bW [room ((bX.2.1.length+([pZ].length)) * 120)] (some (.inr ((⟨bX.1,(bX.2.1++[pZ]),bX.2.2.1,bX.2.2.2.1,bX.2.2.2.2.1,bX.2.2.2.2.2.1,bX.2.2.2.2.2.2.1,bX.2.2.2.2.2.2.2.1,bX.2.2.2.2.2.2.2.2.1,bX.2.2.2.2.2.2.2.2.2.1,bX.2.2.2.2.2.2.2.2.2.2.1,bX.2.2.2.2.2.2.2.2.2.2.2.1⟩:jN))))))) else (if ((aCo:Int) == 3)=true then ((bT (F41 K a0 bX.2.2.2.2.2.2.2.2.2.2.2.2 (⟨bX.1,bX.2.1,bX.2.2.1,bX.2.2.2.1,bX.2.2.2.2.1,bX.2.2.2.2.2.1,bX.2.2.2.2.2.2.1,bX.2.2.2.2.2.2.2.1,bX.2.2.2.2.2.2.2.2.1,bX.2.2.2.2.2.2.2.2.2.1,bX.2.2.2.2.2.2.2.2.2.2.1,bX.2.2.2.2.2.2.2.2.2.2.2.1⟩:jN))).bind (fun aSa=>(some (.inr (aSa))))) else (if ((aCo:Int) == 4)=true then (bN ((a0.bK.getD (bX.2.2.2.2.2.2.2.2.2.2.2.2:Int).toNat default).j6) (fun (aSb:Bytes)=>((bT (F42 K a0 aSb)).bind (fun aES=>(bN ((a0.bK.getD (bX.2.2.2.2.2.2.2.2.2.2.2.2:Int).toNat default).wI) (fun (s8:Int)=>(bN ((a0.bK.getD (bX.2.2.2.2.2.2.2.2.2.2.2.2:Int).toNat default).uF) (fun (tR:Int)=>((cH true (bT (F19 K a0 (⟨aES,(-1)⟩:dR))) default).bind (fun vF=>(bW [room ((bX.2.2.2.2.2.2.2.2.2.1.length+([(⟨vF,s8,tR⟩:yK)].length)) * 24)] (some (.inr ((⟨bX.1,bX.2.1,bX.2.2.1,bX.2.2.2.1,bX.2.2.2.2.1,bX.2.2.2.2.2.1,bX.2.2.2.2.2.2.1,bX.2.2.2.2.2.2.2.1,bX.2.2.2.2.2.2.2.2.1,(bX.2.2.2.2.2.2.2.2.2.1++[(⟨vF,s8,tR⟩:yK)]),bX.2.2.2.2.2.2.2.2.2.2.1,bX.2.2.2.2.2.2.2.2.2.2.2.1⟩:jN))))))))))))))) else (some (.inr ((⟨bX.1,bX.2.1,bX.2.2.1,bX.2.2.2.1,bX.2.2.2.2.1,bX.2.2.2.2.2.1,bX.2.2.2.2.2.2.1,bX.2.2.2.2.2.2.2.1,bX.2.2.2.2.2.2.2.2.1,bX.2.2.2.2.2.2.2.2.2.1,bX.2.2.2.2.2.2.2.2.2.2.1,bX.2.2.2.2.2.2.2.2.2.2.2.1⟩:jN))))))))) (fun (aMH:jN)=>(some (.inr ((aMH)))))))))) (fun (nI:jN)=>(bN (IntKind.i64.wrap (bX.2.2.2.2.2.2.2.2.2.2.2.2+1)) (fun (aSc:Int)=>(some (.inr ((nI).eB,(nI).bQ,(nI).gW,(nI).eS,(nI).fT,(nI).gA,(nI).bY,(nI).kD,(nI).gC,(nI).kW,(nI).fD,(nI).fW,aSc))))))) else (some (.inl (Sum.inl (bX.1,bX.2.1,bX.2.2.1,bX.2.2.2.1,bX.2.2.2.2.1,bX.2.2.2.2.2.1,bX.2.2.2.2.2.2.1,bX.2.2.2.2.2.2.2.1,bX.2.2.2.2.2.2.2.2.1,bX.2.2.2.2.2.2.2.2.2.1,bX.2.2.2.2.2.2.2.2.2.2.1,bX.2.2.2.2.2.2.2.2.2.2.2.1)))))))) ([],[],[],[],r2,r4,[],[],[],[],0,0,0)).map .inl)) (fun (eM:(List (List Bytes)) × (List S56) × (List uX) × (List Int) × Bytes × (List Int) × (List Int) × (List gG) × (List gG) × (List yK) × Int × Int)=>((bT (F43 K a0)).bind (fun q8=>(bL (bJ ((iter K (fun (iD:(List uX) × Int)=>(bN (decide ((iD.2:Int)<(Int.ofNat q8.length))) (fun (aSd:Bool)=>(if aSd=true then (bL (bJ (bW [cS iD.2 q8.length] ((bT (F44 K a0 (q8.getD (iD.2:Int).toNat default))).bind (fun p5=>(bW [room ((iD.1.length+([p5].length)) * 80)] (some (.inr ((iD.1++[p5]))))))))) (fun (aJy:(List uX))=>(some (.inr (aJy,(IntKind.i64.wrap (iD.2+1))))))) else (some (.inl (Sum.inl (iD.1)))))))) (eM.2.2.1,0)).map .inl)) (fun (uG:(List uX))=>(some (.inl ((⟨eM.1,eM.2.1,uG,eM.2.2.2.1,eM.2.2.2.2.1,eM.2.2.2.2.2.1,eM.2.2.2.2.2.2.1,eM.2.2.2.2.2.2.2.1,eM.2.2.2.2.2.2.2.2.1,eM.2.2.2.2.2.2.2.2.2.1,eM.2.2.2.2.2.2.2.2.2.2.1,eM.2.2.2.2.2.2.2.2.2.2.2⟩:jN))))))))))))))))))
abbrev wW (v0:cZ) (v1:(List (List Bytes)) × (List S56) × (List uX) × (List Int) × Bytes × (List Int) × (List Int) × (List gG) × (List gG) × (List yK) × Int × Int × Int):List Go.Dl.Obj:=[.cells (dM.cs v0),oX0,.cells [.own 3 v1.1.length,.own 4 v1.2.1.length,.own 5 v1.2.2.1.length,.own 6 v1.2.2.2.1.length,.str v1.2.2.2.2.1,.own 7 v1.2.2.2.2.2.1.length,.own 8 v1.2.2.2.2.2.2.1.length,.own 9 v1.2.2.2.2.2.2.2.1.length,.own 10 v1.2.2.2.2.2.2.2.2.1.length,.own 11 v1.2.2.2.2.2.2.2.2.2.1.length,iC v1.2.2.2.2.2.2.2.2.2.2.1,iC v1.2.2.2.2.2.2.2.2.2.2.2.1],E30.row v1.1,uY.row v1.2.1,E62.row v1.2.2.1,E3.row v1.2.2.2.1,E3.row v1.2.2.2.2.2.1,E3.row v1.2.2.2.2.2.2.1,iV.row v1.2.2.2.2.2.2.2.1,iV.row v1.2.2.2.2.2.2.2.2.1]
abbrev aMI (v0:cZ) (v1:(List (List Bytes)) × (List S56) × (List uX) × (List Int) × Bytes × (List Int) × (List Int) × (List gG) × (List gG) × (List yK) × Int × Int) (v2:(List uX) × Int):List Go.Dl.Obj:=[.cells (dM.cs v0),oX0,.cells [.own 3 v1.1.length,.own 4 v1.2.1.length,.own 5 v2.1.length,.own 6 v1.2.2.2.1.length,.str v1.2.2.2.2.1,.own 7 v1.2.2.2.2.2.1.length,.own 8 v1.2.2.2.2.2.2.1.length,.own 9 v1.2.2.2.2.2.2.2.1.length,.own 10 v1.2.2.2.2.2.2.2.2.1.length,.own 11 v1.2.2.2.2.2.2.2.2.2.1.length,iC v1.2.2.2.2.2.2.2.2.2.2.1,iC v1.2.2.2.2.2.2.2.2.2.2.2],E30.row v1.1,uY.row v1.2.1,E62.row v2.1,E3.row v1.2.2.2.1,E3.row v1.2.2.2.2.2.1,E3.row v1.2.2.2.2.2.2.1,iV.row v1.2.2.2.2.2.2.2.1,iV.row v1.2.2.2.2.2.2.2.2.1,E85.row v1.2.2.2.2.2.2.2.2.2.1]
abbrev xX (v0:cZ) (v1:(List (List Bytes)) × (List S56) × (List uX) × (List Int) × Bytes × (List Int) × (List Int) × (List gG) × (List gG) × (List yK) × Int × Int × Int):List (Nat × D):=[sP 1 0 0 0,sP 2 1 0 0,sP 3 2 0 0,(20,.c (jR.tree v0.bK)),sI 21 (Int.ofNat v0.bK.length),sI 22 v1.2.2.2.2.2.2.2.2.2.2.2.2]
abbrev aET (v0:cZ) (v1:Bytes) (v2:(List Int)):List Go.Dl.Obj:=[.cells (dM.cs v0),oX0,.cells [.nil,.nil,.nil,.nil,.str v1,.own 3 v2.length,.nil,.nil,.nil,.nil,iC 0,iC 0],E3.row v2]
abbrev nX:List (Nat × D):=[sP 1 0 0 0,sP 2 1 0 0,sP 3 2 0 0]
abbrev aMJ (v0:(List (List Bytes)) × (List S56) × (List uX) × (List Int) × Bytes × (List Int) × (List Int) × (List gG) × (List gG) × (List yK) × Int × Int):List Go.Dl.Obj:=[E3.row v0.2.2.2.1,E3.row v0.2.2.2.2.2.1,E3.row v0.2.2.2.2.2.2.1,iV.row v0.2.2.2.2.2.2.2.1,iV.row v0.2.2.2.2.2.2.2.2.1,E85.row v0.2.2.2.2.2.2.2.2.2.1]
abbrev aYm (v0:cZ) (v1:(List (List Bytes)) × (List S56) × (List uX) × (List Int) × Bytes × (List Int) × (List Int) × (List gG) × (List gG) × (List yK) × Int × Int × Int) (v2:S56):List Go.Dl.Obj:=[.cells (dM.cs v0),oX0,.cells [.own 3 v1.1.length,.own 4 ((v1.2.1++[v2]).length),.own 5 v1.2.2.1.length,.own 6 v1.2.2.2.1.length,.str v1.2.2.2.2.1,.own 7 v1.2.2.2.2.2.1.length,.own 8 v1.2.2.2.2.2.2.1.length,.own 9 v1.2.2.2.2.2.2.2.1.length,.own 10 v1.2.2.2.2.2.2.2.2.1.length,.own 11 v1.2.2.2.2.2.2.2.2.2.1.length,iC v1.2.2.2.2.2.2.2.2.2.2.1,iC v1.2.2.2.2.2.2.2.2.2.2.2.1],E30.row v1.1,uY.row (v1.2.1++[v2]),E62.row v1.2.2.1,E3.row v1.2.2.2.1,E3.row v1.2.2.2.2.2.1,E3.row v1.2.2.2.2.2.2.1,iV.row v1.2.2.2.2.2.2.2.1,iV.row v1.2.2.2.2.2.2.2.2.1,E85.row v1.2.2.2.2.2.2.2.2.2.1]
abbrev aEU (v0:(List dR)) (v1:(List uX) × Int):List (Nat × D):=[(87,.c (dO.tree v0)),sI 88 (Int.ofNat v0.length),sI 89 v1.2]
abbrev aMK (v0:cZ):List (Nat × D):=[(20,.c (jR.tree v0.bK)),sI 21 (Int.ofNat v0.bK.length)]
abbrev aYn (v0:cZ) (v1:jN):List Go.Dl.Obj:=[.cells (dM.cs v0),oX0,.cells (jN.oc (v1) 3 4 5 6 7 8 9 10 11),E30.row ((v1).eB),uY.row ((v1).bQ),E62.row ((v1).gW),E3.row ((v1).eS),E3.row ((v1).gA),E3.row ((v1).bY),iV.row ((v1).kD),iV.row ((v1).gC),E85.row ((v1).kW)]
abbrev aTt (v0:cZ) (v1:(List (List Bytes)) × (List S56) × (List uX) × (List Int) × Bytes × (List Int) × (List Int) × (List gG) × (List gG) × (List yK) × Int × Int) (v2:(List uX) × Int) (v3:uX):List Go.Dl.Obj:=[.cells (dM.cs v0),oX0,.cells [.own 3 v1.1.length,.own 4 v1.2.1.length,.own 5 ((v2.1++[v3]).length),.own 6 v1.2.2.2.1.length,.str v1.2.2.2.2.1,.own 7 v1.2.2.2.2.2.1.length,.own 8 v1.2.2.2.2.2.2.1.length,.own 9 v1.2.2.2.2.2.2.2.1.length,.own 10 v1.2.2.2.2.2.2.2.2.1.length,.own 11 v1.2.2.2.2.2.2.2.2.2.1.length,iC v1.2.2.2.2.2.2.2.2.2.2.1,iC v1.2.2.2.2.2.2.2.2.2.2.2],E30.row v1.1,uY.row v1.2.1,E62.row (v2.1++[v3])]
abbrev oJ (v0:(List (List Bytes)) × (List S56) × (List uX) × (List Int) × Bytes × (List Int) × (List Int) × (List gG) × (List gG) × (List yK) × Int × Int × Int):List Go.Dl.Obj:=[E85.row v0.2.2.2.2.2.2.2.2.2.1]
theorem aTu (K:Nat) (a0:cZ):bS Tryz.prog 9 [.agg (dM.cs a0)] [] (bT (F9 K a0)) (fun r=>.agg (E49.cs r)) (fun r=>[.cells (E49.cs r)]):=by
 refine bS.it Tryz.f9 (fun r=>⟨[sP 2 0 0 0],[.cells (E49.cs r)],[],0⟩) ?_
 unfold F9
 exact Ref.pt (
  .esc [0,1] [(cd (bd Tryz.f9) [1,0]),(cd (bd Tryz.f9) [1,1])] ⟨[sP 1 0 0 0,sP 2 1 0 0],[.cells (dM.cs a0),oX0],[],0⟩ (by
   refine Ref.eH 1 (by kernel_rfl) (by kernel_rfl) ?_
   refine dN.qB [1,4,5,8] ?_
   refine bO.aNE (fun (r2:Bytes) (r4:(List Int))=>⟨nX,aET a0 r2 r4,[],0⟩) (fun (r2:Bytes) (r4:(List Int))=>(bL (bJ ((iter K (fun (bX:(List (List Bytes)) × (List S56) × (List uX) × (List Int) × Bytes × (List Int) × (List Int) × (List gG) × (List gG) × (List yK) × Int × Int × Int)=>(bN (decide ((bX.2.2.2.2.2.2.2.2.2.2.2.2:Int)<(Int.ofNat a0.bK.length))) (fun (aR9:Bool)=>(if aR9=true then (bL (bJ (bW [cS bX.2.2.2.2.2.2.2.2.2.2.2.2 a0.bK.length] (bN ((gd a0.bK bX.2.2.2.2.2.2.2.2.2.2.2.2).bP) (fun (aCo:Int)=>(bL (bJ (if ((aCo:Int) == 1)=true then (bN ((gd a0.bK bX.2.2.2.2.2.2.2.2.2.2.2.2).bM) (fun (aHH:(List hU))=>(bN (Int.ofNat ((gd a0.bK bX.2.2.2.2.2.2.2.2.2.2.2.2).bM).length) (fun (aMG:Int)=>(bL (bJ ((iter K (fun (nC:(List Bytes) × Int)=>(if (decide ((nC.2:Int)<aMG))=true then (bL (bJ (bW [cS nC.2 aHH.length] ((bT (F39 K (gd aHH nC.2))).bind (fun xW=>(bW [room ((nC.1.length+([xW].length)) * 16)] (some (.inr ((nC.1++[xW]))))))))) (fun (aJx:(List Bytes))=>(some (.inr (aJx,(IntKind.i64.wrap (nC.2+1))))))) else (some (.inl (Sum.inl (nC.1)))))) ([],0)).map .inl)) (fun (uR:(List Bytes))=>(bW [room ((bX.1.length+([uR].length)) * 24)] (some (.inr ((⟨(bX.1++[uR]),bX.2.1,bX.2.2.1,bX.2.2.2.1,bX.2.2.2.2.1,bX.2.2.2.2.2.1,bX.2.2.2.2.2.2.1,bX.2.2.2.2.2.2.2.1,bX.2.2.2.2.2.2.2.2.1,bX.2.2.2.2.2.2.2.2.2.1,bX.2.2.2.2.2.2.2.2.2.2.1,bX.2.2.2.2.2.2.2.2.2.2.2.1⟩:jN))))))))))) else (if ((aCo:Int) == 2)=true then ((bT (F40 K a0 bX.2.2.2.2.2.2.2.2.2.2.2.2)).bind (fun pZ=>(bW [room ((bX.2.1.length+([pZ].length)) * 120)] (some (.inr ((⟨bX.1,(bX.2.1++[pZ]),bX.2.2.1,bX.2.2.2.1,bX.2.2.2.2.1,bX.2.2.2.2.2.1,bX.2.2.2.2.2.2.1,bX.2.2.2.2.2.2.2.1,bX.2.2.2.2.2.2.2.2.1,bX.2.2.2.2.2.2.2.2.2.1,bX.2.2.2.2.2.2.2.2.2.2.1,bX.2.2.2.2.2.2.2.2.2.2.2.1⟩:jN))))))) else (if ((aCo:Int) == 3)=true then ((bT (F41 K a0 bX.2.2.2.2.2.2.2.2.2.2.2.2 (⟨bX.1,bX.2.1,bX.2.2.1,bX.2.2.2.1,bX.2.2.2.2.1,bX.2.2.2.2.2.1,bX.2.2.2.2.2.2.1,bX.2.2.2.2.2.2.2.1,bX.2.2.2.2.2.2.2.2.1,bX.2.2.2.2.2.2.2.2.2.1,bX.2.2.2.2.2.2.2.2.2.2.1,bX.2.2.2.2.2.2.2.2.2.2.2.1⟩:jN))).bind (fun aSa=>(some (.inr (aSa))))) else (if ((aCo:Int) == 4)=true then (bN ((gd a0.bK bX.2.2.2.2.2.2.2.2.2.2.2.2).j6) (fun (aSb:Bytes)=>((bT (F42 K a0 aSb)).bind (fun aES=>(bN ((gd a0.bK bX.2.2.2.2.2.2.2.2.2.2.2.2).wI) (fun (s8:Int)=>(bN ((gd a0.bK bX.2.2.2.2.2.2.2.2.2.2.2.2).uF) (fun (tR:Int)=>((cH true (bT (F19 K a0 (⟨aES,(-1)⟩:dR))) default).bind (fun vF=>(bW [room ((bX.2.2.2.2.2.2.2.2.2.1.length+([(⟨vF,s8,tR⟩:yK)].length)) * 24)] (some (.inr ((⟨bX.1,bX.2.1,bX.2.2.1,bX.2.2.2.1,bX.2.2.2.2.1,bX.2.2.2.2.2.1,bX.2.2.2.2.2.2.1,bX.2.2.2.2.2.2.2.1,bX.2.2.2.2.2.2.2.2.1,(bX.2.2.2.2.2.2.2.2.2.1++[(⟨vF,s8,tR⟩:yK)]),bX.2.2.2.2.2.2.2.2.2.2.1,bX.2.2.2.2.2.2.2.2.2.2.2.1⟩:jN))))))))))))))) else (some (.inr ((⟨bX.1,bX.2.1,bX.2.2.1,bX.2.2.2.1,bX.2.2.2.2.1,bX.2.2.2.2.2.1,bX.2.2.2.2.2.2.1,bX.2.2.2.2.2.2.2.1,bX.2.2.2.2.2.2.2.2.1,bX.2.2.2.2.2.2.2.2.2.1,bX.2.2.2.2.2.2.2.2.2.2.1,bX.2.2.2.2.2.2.2.2.2.2.2.1⟩:jN))))))))) (fun (aMH:jN)=>(some (.inr ((aMH)))))))))) (fun (nI:jN)=>(bN (IntKind.i64.wrap (bX.2.2.2.2.2.2.2.2.2.2.2.2+1)) (fun (aSc:Int)=>(some (.inr ((nI).eB,(nI).bQ,(nI).gW,(nI).eS,(nI).fT,(nI).gA,(nI).bY,(nI).kD,(nI).gC,(nI).kW,(nI).fD,(nI).fW,aSc))))))) else (some (.inl (Sum.inl (bX.1,bX.2.1,bX.2.2.1,bX.2.2.2.1,bX.2.2.2.2.1,bX.2.2.2.2.2.1,bX.2.2.2.2.2.2.1,bX.2.2.2.2.2.2.2.1,bX.2.2.2.2.2.2.2.2.1,bX.2.2.2.2.2.2.2.2.2.1,bX.2.2.2.2.2.2.2.2.2.2.1,bX.2.2.2.2.2.2.2.2.2.2.2.1)))))))) ([],[],[],[],r2,r4,[],[],[],[],0,0,0)).map .inl)) (fun (eM:(List (List Bytes)) × (List S56) × (List uX) × (List Int) × Bytes × (List Int) × (List Int) × (List gG) × (List gG) × (List yK) × Int × Int)=>((bT (F43 K a0)).bind (fun q8=>(bL (bJ ((iter K (fun (iD:(List uX) × Int)=>(bN (decide ((iD.2:Int)<(Int.ofNat q8.length))) (fun (aSd:Bool)=>(if aSd=true then (bL (bJ (bW [cS iD.2 q8.length] ((bT (F44 K a0 (gd q8 iD.2))).bind (fun p5=>(bW [room ((iD.1.length+([p5].length)) * 80)] (some (.inr ((iD.1++[p5]))))))))) (fun (aJy:(List uX))=>(some (.inr (aJy,(IntKind.i64.wrap (iD.2+1))))))) else (some (.inl (Sum.inl (iD.1)))))))) (eM.2.2.1,0)).map .inl)) (fun (uG:(List uX))=>(some (.inl ((⟨eM.1,eM.2.1,uG,eM.2.2.2.1,eM.2.2.2.2.1,eM.2.2.2.2.2.1,eM.2.2.2.2.2.2.1,eM.2.2.2.2.2.2.2.1,eM.2.2.2.2.2.2.2.2.1,eM.2.2.2.2.2.2.2.2.2.1,eM.2.2.2.2.2.2.2.2.2.2.1,eM.2.2.2.2.2.2.2.2.2.2.2⟩:jN))))))))))) (fun r2 r4=>?_) (fun hk=>?_)
   ·
    exact Ref.pt (
     .bk 0 (fun eM=>⟨nX,.cells (dM.cs a0)::oX0::.cells [.own 3 eM.1.length,.own 4 eM.2.1.length,.own 5 eM.2.2.1.length,.own 6 eM.2.2.2.1.length,.str eM.2.2.2.2.1,.own 7 eM.2.2.2.2.2.1.length,.own 8 eM.2.2.2.2.2.2.1.length,.own 9 eM.2.2.2.2.2.2.2.1.length,.own 10 eM.2.2.2.2.2.2.2.2.1.length,.own 11 eM.2.2.2.2.2.2.2.2.2.1.length,iC eM.2.2.2.2.2.2.2.2.2.2.1,iC eM.2.2.2.2.2.2.2.2.2.2.2]::E30.row eM.1::uY.row eM.2.1::E62.row eM.2.2.1::aMJ eM,[],0⟩) (
      .adc 2 0 2 0 E30.ty E30.w (E30.at []) <|
      .adc 2 0 2 1 uY.ty uY.w (uY.at []) <|
      .adc 2 0 2 2 E62.ty E62.w (E62.at []) <|
      .adc 2 0 2 3 E3.ty E3.w (E3.at []) <|
      .adc 2 0 2 6 E3.ty E3.w (E3.at []) <|
      .adc 2 0 2 7 iV.ty iV.w (iV.at []) <|
      .adc 2 0 2 8 iV.ty iV.w (iV.at []) <|
      .adc 2 0 2 9 E85.ty E85.w (E85.at []) <|
      .lp [0,1,2,4,5,6,7,3,8,9,10,11] (fun bX=>⟨xX a0 bX,wW a0 bX++oJ bX,[],0⟩) fun bX =>
      .lt _ fun aR9 =>
      .ite _ (
       .bk 1 (fun nI=>⟨xX a0 bX,aYn a0 nI,[],0⟩) (
        .ck _ <|
        .lt _ fun aCo =>
        .bk 2 (fun aMH=>⟨xX a0 bX,aYn a0 aMH,[],0⟩) (
         .ite _ (
          .lt _ fun aHH =>
          .lt _ fun aMG =>
          .bk 3 (fun uR=>⟨nX++((6,.c (.own 12 uR.length))::(aMK a0++[sI 22 bX.2.2.2.2.2.2.2.2.2.2.2.2])),wW a0 bX++oJ bX++[E9.row uR],[],0⟩) (
           .ad 8 0 6 E9.ty E9.w (E9.at []) <|
           .lp [0,1,2,3,4,5,6,7,8,9,10,11,13] (fun nC=>⟨nX++((6,.c (.own 12 nC.1.length))::(aMK a0++[sI 22 bX.2.2.2.2.2.2.2.2.2.2.2.2,(32,.c (kJ.tree aHH)),sI 33 aMG,sI 34 nC.2])),wW a0 bX++oJ bX++[E9.row nC.1],[],0⟩) fun nC =>
           .ite _ (
            .bk 4 (fun aJx=>⟨nX++((6,.c (.own 12 aJx.length))::(aMK a0++[sI 22 bX.2.2.2.2.2.2.2.2.2.2.2.2,(32,.c (kJ.tree aHH)),sI 33 aMG,sI 34 nC.2])),wW a0 bX++oJ bX++[E9.row aJx],[],0⟩) (
             .ck _ <|
             .call [] (aOW _ _) fun xW =>
             .ob 11 2 14 (x:=.row 9 1 1 (gY [[.str xW]])) (y:=(E9.row [xW])) (El.bZ E9 [xW] rfl (by kernel_rfl)) <|
             .sl 11 2 41 (x:=.c (.own 14 1)) (y:=(.c (.own 14 ([xW].length)))) (eA.c (dY.own (by first | (simp;done) | (simp;omega) | omega))) <|
             .ck _ <|
             .ob 11 1 15 (x:=.row 9 1 (nC.1.length+([xW].length)) fun i j=>bif Nat.blt i nC.1.length then E9.at nC.1 i j else (E9.at [xW]) (i - nC.1.length) j) (y:=(E9.row (nC.1++[xW]))) (El.cI E9 nC.1 [xW] rfl rfl) <|
             .sl 11 1 42 (x:=.c (.own 15 (nC.1.length+([xW].length)))) (y:=(.c (.own 15 ((nC.1++[xW]).length)))) (eA.c (dY.own (by first | (simp;done) | (simp;omega) | omega))) <|
             .nil [0,1,2,3,4,5,6,7,8,9,10,11,15] _) fun aJx =>
            .nil [0,1,2,3,4,5,6,7,8,9,10,11,12] _) (
            .ret [0,1,2,3,4,5,6,7,8,9,10,11,12] _)) fun uR =>
          .fz 13 4 12 <|
          .ob 13 3 13 (x:=.row 30 1 1 (gY [[E9.tree uR]])) (y:=(E30.row [uR])) (El.bZ E30 [uR] rfl (by kernel_rfl)) <|
          .sl 13 3 47 (x:=.c (.own 13 1)) (y:=(.c (.own 13 ([uR].length)))) (eA.c (dY.own (by first | (simp;done) | (simp;omega) | omega))) <|
          .ck _ <|
          .ob 13 2 14 (x:=.row 30 1 (bX.1.length+([uR].length)) fun i j=>bif Nat.blt i bX.1.length then E30.at bX.1 i j else (E30.at [uR]) (i - bX.1.length) j) (y:=(E30.row (bX.1++[uR]))) (El.cI E30 bX.1 [uR] rfl rfl) <|
          .sl 13 2 48 (x:=.c (.own 14 (bX.1.length+([uR].length)))) (y:=(.c (.own 14 ((bX.1++[uR]).length)))) (eA.c (dY.own (by first | (simp;done) | (simp;omega) | omega))) <|
          .nil [0,1,2,14,4,5,6,7,8,9,10,11] _) (
          .ite _ (
           .esc [0,1,2,3,4,5,6,7,8,9,10,11,12] [(cd (cd (bd Tryz.f9) [1,1,0,1,0,0,1,1,0,0,1,1,0,1,1,1]) [0])] ⟨nX++(sI 4 bX.2.2.2.2.2.2.2.2.2.2.2.2::sP 5 12 0 0::(aMK a0++[sI 22 bX.2.2.2.2.2.2.2.2.2.2.2.2,sI 28 aCo,sB 50 ((aCo:Int) == 2)])),wW a0 bX++oJ bX++[jR.o (gd a0.bK bX.2.2.2.2.2.2.2.2.2.2.2.2)],[],0⟩ (by
            refine Ref.eH 15 (by kernel_rfl) (by kernel_rfl) ?_
            refine dN.eW (cR:=⟨xX a0 bX++[sP 52 2 0 1,sI 55 bX.2.2.2.2.2.2.2.2.2.2.2.2],wW a0 bX++oJ bX,[],0⟩) (fuel':=7) [0,3] [1,2,3,20,21,22,52,55] [0,1,2,3,4,5,6,7,8,9,10,11] rfl (by kernel_rfl) (by kernel_rfl) ?_
            refine dN.qB [4,6,8] ?_
            refine bO.iA (fun (pZ:S56)=>⟨xX a0 bX,aYm a0 bX pZ,[],0⟩) (fun (pZ:S56)=>(some (.inr ((⟨bX.1,(bX.2.1++[pZ]),bX.2.2.1,bX.2.2.2.1,bX.2.2.2.2.1,bX.2.2.2.2.2.1,bX.2.2.2.2.2.2.1,bX.2.2.2.2.2.2.2.1,bX.2.2.2.2.2.2.2.2.1,bX.2.2.2.2.2.2.2.2.2.1,bX.2.2.2.2.2.2.2.2.2.2.1,bX.2.2.2.2.2.2.2.2.2.2.2.1⟩:jN))))) (fun pZ=>?_) (fun hk=>?_)
            ·
             exact Ref.pt (
              .nil [0,1,2,3,4,5,6,7,8,9,10,11] _)
            ·
             refine bO.eW (cR:=⟨xX a0 bX++[sP 52 2 0 1,(54,.agg (dM.cs a0)),sI 55 bX.2.2.2.2.2.2.2.2.2.2.2.2],wW a0 bX++oJ bX,[],0⟩) (fuel':=6) [2] [1,2,3,20,21,22,52,54,55] [0,1,2,3,4,5,6,7,8,9,10,11] rfl (by kernel_rfl) (by kernel_rfl) ?_
             refine bO.iR (fuel':=5) [[],[(1,53)]] [(1,53)] [1,2,3,20,21,22,52,54,55] [0,1,2,3,4,5,6,7,8,9,10,11] ⟨xX a0 bX++[sP 52 2 0 1,(53,.c (.own 4 bX.2.1.length)),(54,.agg (dM.cs a0)),sI 55 bX.2.2.2.2.2.2.2.2.2.2.2.2],wW a0 bX++oJ bX,[],0⟩ ?_
             refine cO.cM (fuel':=4) 4 ?_
             refine dB.cG (t:=56) 4 [] rfl (by kernel_rfl) (aVg K a0 bX.2.2.2.2.2.2.2.2.2.2.2.2) (fun pZ=>?_)
             refine cO.cM (fuel':=3) 5 ?_
             refine dB.iY (cR:=⟨xX a0 bX++[sP 52 2 0 1,(53,.c (.own 4 bX.2.1.length)),(57,.c (.own 12 1))],wW a0 bX++oJ bX++[.row 56 6 1 (gY [(uY.cs pZ)])],[],0⟩) 5 [1,2,3,20,21,22,52,53,57] [0,1,2,3,4,5,6,7,8,9,10,11,13] (by kernel_rfl) (by kernel_rfl) ?_
             refine cO.conv (jQ.obj 12 (uY.row [pZ]) (El.bZ uY [pZ] rfl (by kernel_rfl)) (by kernel_rfl)) ?_
             refine cO.conv (jQ.slot 57 (.c (.own 12 ([pZ].length))) (eA.c (dY.own (by first | (simp;done) | (simp;omega) | omega))) (by kernel_rfl)) ?_
             refine cO.close ?_
             refine bO.cM (fuel':=2) 6 (by kernel_rfl) ?_
             refine cF.writes (vs:=[room ((bX.2.1.length+([pZ].length)) * 120)]) (cR:=⟨xX a0 bX++[(58,.c (.own 12 (bX.2.1.length+([pZ].length))))],.cells (dM.cs a0)::oX0::.cells [.own 3 bX.1.length,.own 4 bX.2.1.length,.own 5 bX.2.2.1.length,.own 6 bX.2.2.2.1.length,.str bX.2.2.2.2.1,.own 7 bX.2.2.2.2.2.1.length,.own 8 bX.2.2.2.2.2.2.1.length,.own 9 bX.2.2.2.2.2.2.2.1.length,.own 10 bX.2.2.2.2.2.2.2.2.1.length,.own 11 bX.2.2.2.2.2.2.2.2.2.1.length,iC bX.2.2.2.2.2.2.2.2.2.2.1,iC bX.2.2.2.2.2.2.2.2.2.2.2.1]::E30.row bX.1::.dead::E62.row bX.2.2.1::E3.row bX.2.2.2.1::E3.row bX.2.2.2.2.2.1::E3.row bX.2.2.2.2.2.2.1::iV.row bX.2.2.2.2.2.2.2.1::iV.row bX.2.2.2.2.2.2.2.2.1::(oJ bX++[.row 56 6 (bX.2.1.length+([pZ].length)) fun i j=>bif Nat.blt i bX.2.1.length then uY.at bX.2.1 i j else (uY.at [pZ]) (i - bX.2.1.length) j]),[],0⟩) 6 [1,2,3,20,21,22,58] [0,1,2,3,4,5,6,7,8,9,10,11,13] (by kernel_rfl) (by kernel_rfl) ?_
             refine bO.conv (Conv.ob 12 (uY.row (bX.2.1++[pZ])) (El.cI uY bX.2.1 [pZ] rfl rfl)) ?_
             refine bO.conv (Conv.sl 58 (.c (.own 12 ((bX.2.1++[pZ]).length))) (eA.c (dY.own (by first | (simp;done) | (simp;omega) | omega)))) ?_
             refine bO.v0 (fuel':=1) [7] [1,2,3,20,21,22,58,59] [0,1,2,3,4,5,6,7,8,9,10,11,12] ?_
             refine bO.cM (fuel':=0) 8 (by kernel_rfl) ?_
             refine cF.w0 8 [1,2,3,20,21,22] [0,1,2,3,5,6,7,8,9,10,11,12] ?_
             refine bO.done (by kernel_rfl) ?_
             refine Ref.ck ⟨xX a0 bX,aYm a0 bX pZ,[],0⟩ [1,2,3,20,21,22] [0,1,2,3,11,4,5,6,7,8,9,10] ?_
             exact hk pZ)) (
           .ite _ (
            .call [2,3,4,5,6,7,8,9,10,11] (aU3 _ _ _ _) fun aSa =>
            .nil [0,1,2,13,14,15,16,17,18,19,20,21] _) (
            .ite _ (
             .lt _ fun aSb =>
             .call [] (aF8 _ _ _) fun aES =>
             .esc [0,1,2,3,4,5,6,7,8,9,10,11,12,13] [(cd (bd Tryz.f9) [1,1,0,1,0,0,1,1,0,0,1,1,0,1,1,1,1,1,1,1,0,1])] ⟨nX++(sP 5 12 0 0::sP 9 13 0 0::(aMK a0++[sI 22 bX.2.2.2.2.2.2.2.2.2.2.2.2])),wW a0 bX++oJ bX++[jR.o (gd a0.bK bX.2.2.2.2.2.2.2.2.2.2.2.2),.cells [iC aES,iC (-1)]],[],0⟩ (by
              refine Ref.eH 20 (by kernel_rfl) (by kernel_rfl) ?_
              refine dN.eW (cR:=⟨nX++(sP 9 13 0 0::(aMK a0++[sI 22 bX.2.2.2.2.2.2.2.2.2.2.2.2,sP 72 2 0 9,sP 77 12 0 9,sP 79 12 0 10])),wW a0 bX++oJ bX++[jR.o (gd a0.bK bX.2.2.2.2.2.2.2.2.2.2.2.2),.cells [iC aES,iC (-1)]],[],0⟩) (fuel':=11) [0,5,7] [1,2,3,9,20,21,22,72,77,79] [0,1,2,3,4,5,6,7,8,9,10,11,12,13] rfl (by kernel_rfl) (by kernel_rfl) ?_
              refine dN.qB [11,12,13] ?_
              refine bO.eW (cR:=⟨xX a0 bX++[(73,.c (.own 11 bX.2.2.2.2.2.2.2.2.2.1.length)),(74,.agg (dM.cs a0)),(75,.agg [iC aES,iC (-1)]),sI 78 ((gd a0.bK bX.2.2.2.2.2.2.2.2.2.2.2.2).wI),sI 80 ((gd a0.bK bX.2.2.2.2.2.2.2.2.2.2.2.2).uF)],wW a0 bX++oJ bX,[],0⟩) (fuel':=6) [1,2,3,6,8] [1,2,3,20,21,22,73,74,75,78,80] [0,1,2,3,4,5,6,7,8,9,10,11] rfl (by kernel_rfl) (by kernel_rfl) ?_
              refine bO.aEH (stf:=fun s8=>⟨xX a0 bX++[(73,.c (.own 11 bX.2.2.2.2.2.2.2.2.2.1.length)),(74,.agg (dM.cs a0)),(75,.agg [iC aES,iC (-1)]),sI 78 s8,sI 80 ((gd a0.bK bX.2.2.2.2.2.2.2.2.2.2.2.2).uF)],wW a0 bX++oJ bX,[],0⟩) (by kernel_rfl) (fun s8=>?_)
              refine bO.aEH (stf:=fun tR=>⟨xX a0 bX++[(73,.c (.own 11 bX.2.2.2.2.2.2.2.2.2.1.length)),(74,.agg (dM.cs a0)),(75,.agg [iC aES,iC (-1)]),sI 78 s8,sI 80 tR],wW a0 bX++oJ bX,[],0⟩) (by kernel_rfl) (fun tR=>?_)
              refine bO.lC (t:=76) (g:=[]) (b:=true) (fuel':=5) 4 [] (default:Int) rfl (by kernel_rfl) (by kernel_rfl) (aI7 K a0 (⟨aES,(-1)⟩:dR)) (fun _=>rfl) (fun vF=>?_)
              refine bO.eW (cR:=⟨xX a0 bX++[(73,.c (.own 11 bX.2.2.2.2.2.2.2.2.2.1.length)),(81,.agg [iC vF,iC s8,iC tR])],wW a0 bX++oJ bX,[],0⟩) (fuel':=4) [9] [1,2,3,20,21,22,73,81] [0,1,2,3,4,5,6,7,8,9,10,11] rfl (by kernel_rfl) (by kernel_rfl) ?_
              refine bO.mX (cR:=⟨xX a0 bX++[(73,.c (.own 11 bX.2.2.2.2.2.2.2.2.2.1.length)),(82,.c (.own 12 1))],wW a0 bX++oJ bX++[.row 85 3 1 (gY [[iC vF,iC s8,iC tR]])],[],0⟩) (fuel':=3) 10 [1,2,3,20,21,22,73,82] [0,1,2,3,4,5,6,7,8,9,10,11,12] rfl (by kernel_rfl) (by kernel_rfl) ?_
              refine bO.conv (Conv.ob 12 (E85.row [(⟨vF,s8,tR⟩:yK)]) (El.bZ E85 [(⟨vF,s8,tR⟩:yK)] rfl (by kernel_rfl))) ?_
              refine bO.conv (Conv.sl 82 (.c (.own 12 ([(⟨vF,s8,tR⟩:yK)].length))) (eA.c (dY.own (by first | (simp;done) | (simp;omega) | omega)))) ?_
              refine bO.qP [11,12,13] rfl (by kernel_rfl) ?_
              refine c6.evC (vs:=[room ((bX.2.2.2.2.2.2.2.2.2.1.length+([(⟨vF,s8,tR⟩:yK)].length)) * 24)]) (cR:=⟨xX a0 bX++[(83,.c (.own 12 (bX.2.2.2.2.2.2.2.2.2.1.length+([(⟨vF,s8,tR⟩:yK)].length))))],wW a0 bX++[.dead,.row 85 3 (bX.2.2.2.2.2.2.2.2.2.1.length+([(⟨vF,s8,tR⟩:yK)].length)) fun i j=>bif Nat.blt i bX.2.2.2.2.2.2.2.2.2.1.length then E85.at bX.2.2.2.2.2.2.2.2.2.1 i j else (E85.at [(⟨vF,s8,tR⟩:yK)]) (i - bX.2.2.2.2.2.2.2.2.2.1.length) j],[],0⟩) 0 1 1 [1,2,3,20,21,22,83] [0,1,2,3,4,5,6,7,8,9,10,11,13] rfl (by kernel_rfl) ?_
              refine c6.conv (Conv.ob 12 (E85.row (bX.2.2.2.2.2.2.2.2.2.1++[(⟨vF,s8,tR⟩:yK)])) (El.cI E85 bX.2.2.2.2.2.2.2.2.2.1 [(⟨vF,s8,tR⟩:yK)] rfl rfl)) ?_
              refine c6.conv (Conv.sl 83 (.c (.own 12 ((bX.2.2.2.2.2.2.2.2.2.1++[(⟨vF,s8,tR⟩:yK)]).length))) (eA.c (dY.own (by first | (simp;done) | (simp;omega) | omega)))) ?_
              refine c6.en1 1 2 [1,2,3,20,21,22] [0,1,2,3,4,5,6,7,8,9,10,12] ?_
              exact Ref.n0)) (
             .nil [0,1,2,3,4,5,6,7,8,9,10,11] _))))) fun aMH =>
        .nil [0,1,2,3,4,5,6,7,8,9,10,11] _) fun nI =>
       .lt _ fun aSc =>
       .nil [0,1,2,3,4,5,6,7,8,9,10,11] _) (
       .ret [0,1,2,3,4,5,6,7,8,9,10,11] _)) fun eM =>
     .call [] (aOw _ _) fun q8 =>
     .bk 5 (fun uG=>⟨[sP 2 0 0 0,sP 3 1 0 0],oX0::.cells [.own 2 eM.1.length,.own 3 eM.2.1.length,.own 4 uG.length,.own 5 eM.2.2.2.1.length,.str eM.2.2.2.2.1,.own 6 eM.2.2.2.2.2.1.length,.own 7 eM.2.2.2.2.2.2.1.length,.own 8 eM.2.2.2.2.2.2.2.1.length,.own 9 eM.2.2.2.2.2.2.2.2.1.length,.own 10 eM.2.2.2.2.2.2.2.2.2.1.length,iC eM.2.2.2.2.2.2.2.2.2.2.1,iC eM.2.2.2.2.2.2.2.2.2.2.2]::E30.row eM.1::uY.row eM.2.1::E62.row uG::aMJ eM,[],0⟩) (
      .lp [0,1,2,3,4,5,6,7,8,9,10,11] (fun iD=>⟨nX++aEU q8 iD,aMI a0 eM iD,[],0⟩) fun iD =>
      .lt _ fun aSd =>
      .ite _ (
       .bk 6 (fun aJy=>⟨nX++aEU q8 iD,.cells (dM.cs a0)::oX0::.cells [.own 3 eM.1.length,.own 4 eM.2.1.length,.own 5 aJy.length,.own 6 eM.2.2.2.1.length,.str eM.2.2.2.2.1,.own 7 eM.2.2.2.2.2.1.length,.own 8 eM.2.2.2.2.2.2.1.length,.own 9 eM.2.2.2.2.2.2.2.1.length,.own 10 eM.2.2.2.2.2.2.2.2.1.length,.own 11 eM.2.2.2.2.2.2.2.2.2.1.length,iC eM.2.2.2.2.2.2.2.2.2.2.1,iC eM.2.2.2.2.2.2.2.2.2.2.2]::E30.row eM.1::uY.row eM.2.1::E62.row aJy::aMJ eM,[],0⟩) (
        .ck _ <|
        .esc [0,1,2,3,4,5,6,7,8,9,10,11,12] [(cd (bd Tryz.f9) [1,1,1,0,1,0,0,1,1,0,0,1])] ⟨nX++(sP 11 12 0 0::aEU q8 iD),aMI a0 eM iD++[.cells (dO.cs (gd q8 iD.2))],[],0⟩ (by
         refine Ref.eH 25 (by kernel_rfl) (by kernel_rfl) ?_
         refine dN.eW (cR:=⟨nX++(sP 11 12 0 0::(aEU q8 iD++[sP 93 2 0 2])),aMI a0 eM iD++[.cells (dO.cs (gd q8 iD.2))],[],0⟩) (fuel':=8) [0] [1,2,3,11,87,88,89,93] [0,1,2,3,4,5,6,7,8,9,10,11,12] rfl (by kernel_rfl) (by kernel_rfl) ?_
         refine dN.qB [4,6,8] ?_
         refine bO.iA (fun (p5:uX)=>⟨nX++aEU q8 iD,aTt a0 eM iD p5++aMJ eM,[],0⟩) (fun (p5:uX)=>(some (.inr ((iD.1++[p5]))))) (fun p5=>?_) (fun hk=>?_)
         ·
          exact Ref.pt (
           .nil [0,1,2,3,4,5,6,7,8,9,10,11] _)
         ·
          refine bO.eW (cR:=⟨nX++aEU q8 iD++[sP 93 2 0 2,(95,.agg (dM.cs a0)),(96,.agg (dO.cs (gd q8 iD.2)))],aMI a0 eM iD,[],0⟩) (fuel':=6) [2,3] [1,2,3,87,88,89,93,95,96] [0,1,2,3,4,5,6,7,8,9,10,11] rfl (by kernel_rfl) (by kernel_rfl) ?_
          refine bO.iR (fuel':=5) [[],[(1,94)]] [(1,94)] [1,2,3,87,88,89,93,95,96] [0,1,2,3,4,5,6,7,8,9,10,11] ⟨nX++aEU q8 iD++[sP 93 2 0 2,(94,.c (.own 5 iD.1.length)),(95,.agg (dM.cs a0)),(96,.agg (dO.cs (gd q8 iD.2)))],aMI a0 eM iD,[],0⟩ ?_
          refine cO.cM (fuel':=4) 4 ?_
          refine dB.cG (t:=97) 4 [] rfl (by kernel_rfl) (aU1 K a0 (gd q8 iD.2)) (fun p5=>?_)
          refine cO.cM (fuel':=3) 5 ?_
          refine dB.iY (cR:=⟨nX++aEU q8 iD++[sP 93 2 0 2,(94,.c (.own 5 iD.1.length)),(98,.c (.own 12 1))],aMI a0 eM iD++[.row 62 6 1 (gY [(E62.cs p5)])],[],0⟩) 5 [1,2,3,87,88,89,93,94,98] [0,1,2,3,4,5,6,7,8,9,10,11,13] (by kernel_rfl) (by kernel_rfl) ?_
          refine cO.conv (jQ.obj 12 (E62.row [p5]) (El.bZ E62 [p5] rfl (by kernel_rfl)) (by kernel_rfl)) ?_
          refine cO.conv (jQ.slot 98 (.c (.own 12 ([p5].length))) (eA.c (dY.own (by first | (simp;done) | (simp;omega) | omega))) (by kernel_rfl)) ?_
          refine cO.close ?_
          refine bO.cM (fuel':=2) 6 (by kernel_rfl) ?_
          refine cF.writes (vs:=[room ((iD.1.length+([p5].length)) * 80)]) (cR:=⟨nX++aEU q8 iD++[(99,.c (.own 12 (iD.1.length+([p5].length))))],.cells (dM.cs a0)::oX0::.cells [.own 3 eM.1.length,.own 4 eM.2.1.length,.own 5 iD.1.length,.own 6 eM.2.2.2.1.length,.str eM.2.2.2.2.1,.own 7 eM.2.2.2.2.2.1.length,.own 8 eM.2.2.2.2.2.2.1.length,.own 9 eM.2.2.2.2.2.2.2.1.length,.own 10 eM.2.2.2.2.2.2.2.2.1.length,.own 11 eM.2.2.2.2.2.2.2.2.2.1.length,iC eM.2.2.2.2.2.2.2.2.2.2.1,iC eM.2.2.2.2.2.2.2.2.2.2.2]::E30.row eM.1::uY.row eM.2.1::.dead::(aMJ eM++[.row 62 6 (iD.1.length+([p5].length)) fun i j=>bif Nat.blt i iD.1.length then E62.at iD.1 i j else (E62.at [p5]) (i - iD.1.length) j]),[],0⟩) 6 [1,2,3,87,88,89,99] [0,1,2,3,4,5,6,7,8,9,10,11,13] (by kernel_rfl) (by kernel_rfl) ?_
          refine bO.conv (Conv.ob 12 (E62.row (iD.1++[p5])) (El.cI E62 iD.1 [p5] rfl rfl)) ?_
          refine bO.conv (Conv.sl 99 (.c (.own 12 ((iD.1++[p5]).length))) (eA.c (dY.own (by first | (simp;done) | (simp;omega) | omega)))) ?_
          refine bO.v0 (fuel':=1) [7] [1,2,3,87,88,89,99,100] [0,1,2,3,4,5,6,7,8,9,10,11,12] ?_
          refine bO.cM (fuel':=0) 8 (by kernel_rfl) ?_
          refine cF.w0 8 [1,2,3,87,88,89] [0,1,2,3,4,6,7,8,9,10,11,12] ?_
          refine bO.done (by kernel_rfl) ?_
          refine Ref.ck ⟨nX++aEU q8 iD,aTt a0 eM iD p5++aMJ eM,[],0⟩ [1,2,3,87,88,89] [0,1,2,3,4,11,5,6,7,8,9,10] ?_
          exact hk p5)) fun aJy =>
       .nil [0,1,2,3,4,5,6,7,8,9,10,11] _) (
       .ret [1,2,3,4,5,6,7,8,9,10,11] _)) fun uG =>
     .fz 27 0 2 <|
     .fz 27 0 3 <|
     .fz 27 0 4 <|
     .fz 27 0 5 <|
     .fz 27 0 6 <|
     .fz 27 0 7 <|
     .fz 27 0 8 <|
     .fz 27 0 9 <|
     .fz 27 0 10 <|
     .ret [0] _)
   ·
    refine bO.v0 (fuel':=8) [0] [1,2,12] [0,1] ?_
    refine bO.aS5 (fuel':=7) 1 3 7 (by kernel_rfl) ?_ ?_ ?_
    ·
     refine cF.cG (t:=13) 1 [] rfl (by kernel_rfl) (pI K a0) (fun r1=>?_)
     refine bO.v0 (fuel':=6) [3] [1,2,13,15] [0,1] ?_
     refine bO.lC (t:=14) (g:=[]) (b:=true) (fuel':=5) 2 [] (default:Bytes) rfl (by kernel_rfl) (by kernel_rfl) (nA K r1) (fun _=>rfl) (fun r2=>?_)
     refine bO.kV (fuel':=4) 4 7 (by kernel_rfl) ?_ ?_
     ·
      refine cF.cG (t:=16) 4 [] rfl (by kernel_rfl) (pI K a0) (fun r3=>?_)
      refine bO.kV (fuel':=3) 5 7 (by kernel_rfl) ?_ ?_
      ·
       refine cF.cG (t:=17) 5 [] rfl (by kernel_rfl) (pX K r3) (fun r4=>?_)
       refine bO.v0 (fuel':=2) [6] [1,2,18] [0,1,2] ?_
       refine bO.cM (fuel':=1) 7 (by kernel_rfl) ?_
       refine cF.a0 7 [1,2,3,18] [0,1,2,3] ?_
       refine bO.cM (fuel':=0) 8 (by kernel_rfl) ?_
       refine cF.w0 8 [1,2,3] [0,1,2,3] ?_
       refine bO.done (by kernel_rfl) ?_
       refine Ref.ck ⟨nX,aET a0 r2 r4,[],0⟩ [1,2,3] [0,1,3,2] ?_
       exact hk r2 r4
      ·
       refine cF.a0 7 [1,2,3,14,16] [0,1,2] ?_
       refine bO.cM (fuel':=2) 5 (by kernel_rfl) ?_
       refine cF.cG (t:=17) 5 [] rfl (by kernel_rfl) (pX K r3) (fun r4=>?_)
       refine bO.v0 (fuel':=1) [6] [1,2,3,18] [0,1,2,3] ?_
       refine bO.cM (fuel':=0) 8 (by kernel_rfl) ?_
       refine cF.w0 8 [1,2,3] [0,1,2,3] ?_
       refine bO.done (by kernel_rfl) ?_
       refine Ref.ck ⟨nX,aET a0 r2 r4,[],0⟩ [1,2,3] [0,1,2,3] ?_
       exact hk r2 r4
     ·
      refine cF.a0 7 [1,2,3,14,15] [0,1,2] ?_
      refine bO.cM (fuel':=3) 4 (by kernel_rfl) ?_
      refine cF.cG (t:=16) 4 [] rfl (by kernel_rfl) (pI K a0) (fun r3=>?_)
      refine bO.cM (fuel':=2) 5 (by kernel_rfl) ?_
      refine cF.cG (t:=17) 5 [] rfl (by kernel_rfl) (pX K r3) (fun r4=>?_)
      refine bO.v0 (fuel':=1) [6] [1,2,3,18] [0,1,2,3] ?_
      refine bO.cM (fuel':=0) 8 (by kernel_rfl) ?_
      refine cF.w0 8 [1,2,3] [0,1,2,3] ?_
      refine bO.done (by kernel_rfl) ?_
      refine Ref.ck ⟨nX,aET a0 r2 r4,[],0⟩ [1,2,3] [0,1,2,3] ?_
      exact hk r2 r4
    ·
     refine cF.a0 3 [1,2,12,15] [0,1] ?_
     refine bO.kV (fuel':=6) 1 7 (by kernel_rfl) ?_ ?_
     ·
      refine cF.cG (t:=13) 1 [] rfl (by kernel_rfl) (pI K a0) (fun r1=>?_)
      refine bO.lC (t:=14) (g:=[]) (b:=true) (fuel':=5) 2 [] (default:Bytes) rfl (by kernel_rfl) (by kernel_rfl) (nA K r1) (fun _=>rfl) (fun r2=>?_)
      refine bO.kV (fuel':=4) 4 7 (by kernel_rfl) ?_ ?_
      ·
       refine cF.cG (t:=16) 4 [] rfl (by kernel_rfl) (pI K a0) (fun r3=>?_)
       refine bO.kV (fuel':=3) 5 7 (by kernel_rfl) ?_ ?_
       ·
        refine cF.cG (t:=17) 5 [] rfl (by kernel_rfl) (pX K r3) (fun r4=>?_)
        refine bO.v0 (fuel':=2) [6] [1,2,18] [0,1,2] ?_
        refine bO.cM (fuel':=1) 7 (by kernel_rfl) ?_
        refine cF.a0 7 [1,2,3,18] [0,1,2,3] ?_
        refine bO.cM (fuel':=0) 8 (by kernel_rfl) ?_
        refine cF.w0 8 [1,2,3] [0,1,2,3] ?_
        refine bO.done (by kernel_rfl) ?_
        refine Ref.ck ⟨nX,aET a0 r2 r4,[],0⟩ [1,2,3] [0,1,3,2] ?_
        exact hk r2 r4
       ·
        refine cF.a0 7 [1,2,3,14,16] [0,1,2] ?_
        refine bO.cM (fuel':=2) 5 (by kernel_rfl) ?_
        refine cF.cG (t:=17) 5 [] rfl (by kernel_rfl) (pX K r3) (fun r4=>?_)
        refine bO.v0 (fuel':=1) [6] [1,2,3,18] [0,1,2,3] ?_
        refine bO.cM (fuel':=0) 8 (by kernel_rfl) ?_
        refine cF.w0 8 [1,2,3] [0,1,2,3] ?_
        refine bO.done (by kernel_rfl) ?_
        refine Ref.ck ⟨nX,aET a0 r2 r4,[],0⟩ [1,2,3] [0,1,2,3] ?_
        exact hk r2 r4
      ·
       refine cF.a0 7 [1,2,3,14,15] [0,1,2] ?_
       refine bO.cM (fuel':=3) 4 (by kernel_rfl) ?_
       refine cF.cG (t:=16) 4 [] rfl (by kernel_rfl) (pI K a0) (fun r3=>?_)
       refine bO.cM (fuel':=2) 5 (by kernel_rfl) ?_
       refine cF.cG (t:=17) 5 [] rfl (by kernel_rfl) (pX K r3) (fun r4=>?_)
       refine bO.v0 (fuel':=1) [6] [1,2,3,18] [0,1,2,3] ?_
       refine bO.cM (fuel':=0) 8 (by kernel_rfl) ?_
       refine cF.w0 8 [1,2,3] [0,1,2,3] ?_
       refine bO.done (by kernel_rfl) ?_
       refine Ref.ck ⟨nX,aET a0 r2 r4,[],0⟩ [1,2,3] [0,1,2,3] ?_
       exact hk r2 r4
     ·
      refine cF.a0 7 [1,2,3,12,15] [0,1,2] ?_
      refine bO.cM (fuel':=5) 1 (by kernel_rfl) ?_
      refine cF.cG (t:=13) 1 [] rfl (by kernel_rfl) (pI K a0) (fun r1=>?_)
      refine bO.lC (t:=14) (g:=[]) (b:=true) (fuel':=4) 2 [] (default:Bytes) rfl (by kernel_rfl) (by kernel_rfl) (nA K r1) (fun _=>rfl) (fun r2=>?_)
      refine bO.cM (fuel':=3) 4 (by kernel_rfl) ?_
      refine cF.cG (t:=16) 4 [] rfl (by kernel_rfl) (pI K a0) (fun r3=>?_)
      refine bO.cM (fuel':=2) 5 (by kernel_rfl) ?_
      refine cF.cG (t:=17) 5 [] rfl (by kernel_rfl) (pX K r3) (fun r4=>?_)
      refine bO.v0 (fuel':=1) [6] [1,2,3,18] [0,1,2,3] ?_
      refine bO.cM (fuel':=0) 8 (by kernel_rfl) ?_
      refine cF.w0 8 [1,2,3] [0,1,2,3] ?_
      refine bO.done (by kernel_rfl) ?_
      refine Ref.ck ⟨nX,aET a0 r2 r4,[],0⟩ [1,2,3] [0,1,2,3] ?_
      exact hk r2 r4
    ·
     refine cF.a0 7 [1,2,3,12] [0,1,2] ?_
     refine bO.kV (fuel':=6) 1 3 (by kernel_rfl) ?_ ?_
     ·
      refine cF.cG (t:=13) 1 [] rfl (by kernel_rfl) (pI K a0) (fun r1=>?_)
      refine bO.v0 (fuel':=5) [3] [1,2,3,13,15] [0,1,2] ?_
      refine bO.lC (t:=14) (g:=[]) (b:=true) (fuel':=4) 2 [] (default:Bytes) rfl (by kernel_rfl) (by kernel_rfl) (nA K r1) (fun _=>rfl) (fun r2=>?_)
      refine bO.cM (fuel':=3) 4 (by kernel_rfl) ?_
      refine cF.cG (t:=16) 4 [] rfl (by kernel_rfl) (pI K a0) (fun r3=>?_)
      refine bO.cM (fuel':=2) 5 (by kernel_rfl) ?_
      refine cF.cG (t:=17) 5 [] rfl (by kernel_rfl) (pX K r3) (fun r4=>?_)
      refine bO.v0 (fuel':=1) [6] [1,2,3,18] [0,1,2,3] ?_
      refine bO.cM (fuel':=0) 8 (by kernel_rfl) ?_
      refine cF.w0 8 [1,2,3] [0,1,2,3] ?_
      refine bO.done (by kernel_rfl) ?_
      refine Ref.ck ⟨nX,aET a0 r2 r4,[],0⟩ [1,2,3] [0,1,2,3] ?_
      exact hk r2 r4
     ·
      refine cF.a0 3 [1,2,3,12,15] [0,1,2] ?_
      refine bO.cM (fuel':=5) 1 (by kernel_rfl) ?_
      refine cF.cG (t:=13) 1 [] rfl (by kernel_rfl) (pI K a0) (fun r1=>?_)
      refine bO.lC (t:=14) (g:=[]) (b:=true) (fuel':=4) 2 [] (default:Bytes) rfl (by kernel_rfl) (by kernel_rfl) (nA K r1) (fun _=>rfl) (fun r2=>?_)
      refine bO.cM (fuel':=3) 4 (by kernel_rfl) ?_
      refine cF.cG (t:=16) 4 [] rfl (by kernel_rfl) (pI K a0) (fun r3=>?_)
      refine bO.cM (fuel':=2) 5 (by kernel_rfl) ?_
      refine cF.cG (t:=17) 5 [] rfl (by kernel_rfl) (pX K r3) (fun r4=>?_)
      refine bO.v0 (fuel':=1) [6] [1,2,3,18] [0,1,2,3] ?_
      refine bO.cM (fuel':=0) 8 (by kernel_rfl) ?_
      refine cF.w0 8 [1,2,3] [0,1,2,3] ?_
      refine bO.done (by kernel_rfl) ?_
      refine Ref.ck ⟨nX,aET a0 r2 r4,[],0⟩ [1,2,3] [0,1,2,3] ?_
      exact hk r2 r4))
def F13 (K:Nat) (a0:cZ) (a1:Int) (a2:Bytes):Option ((Int) ⊕ (Int)) :=
 ((bT (F49 K a0 a1)).bind (fun r1=>((bT (F48 K r1 a2)).bind (fun r2=>(some (.inl (r2)))))))
theorem aJz (K:Nat) (a0:cZ) (a1:Int) (a2:Bytes):bS Tryz.prog 13 [.agg (dM.cs a0),.c (.val (.int .i64 a1)),.c (.str a2)] [] (bT (F13 K a0 a1 a2)) (fun r=>.c (.val (.int .i64 r))) (fun r=>[]):=by
 refine bS.it Tryz.f13 (fun r=>⟨[sI 6 r],[],[],0⟩) ?_
 unfold F13
 exact Ref.pt (
  .call [] (aNe _ _ _) fun r1 =>
  .call [] (aVf _ _ _) fun r2 =>
  .ret [] _)
def F14 (K:Nat) (a0:cZ) (a1:Int) (a2:Bytes):Option ((Int) ⊕ (Int)) :=
 ((bT (F50 K a0 a1 2)).bind (fun r1=>(if (!r1)=true then (some (.inl ((-1)))) else ((bT (F52 K a0 a1)).bind (fun r2=>((bT (F51 K r2 a2)).bind (fun r3=>(some (.inl (r3))))))))))
theorem aPf (K:Nat) (a0:cZ) (a1:Int) (a2:Bytes):bS Tryz.prog 14 [.agg (dM.cs a0),.c (.val (.int .i64 a1)),.c (.str a2)] [] (bT (F14 K a0 a1 a2)) (fun r=>.c (.val (.int .i64 r))) (fun r=>[]):=by
 refine bS.it Tryz.f14 (fun r=>⟨[sI 6 r],[],[],0⟩) ?_
 unfold F14
 exact Ref.pt (
  .call [] (aF6 _ _ _ _) fun r1 =>
  .ite _ (
   .ret [] _) (
   .call [] (nL _ _ _) fun r2 =>
   .call [] (aOB _ _ _) fun r3 =>
   .ret [] _))
end Go.Proofs.YtdbfbedholdjaaaGreat
