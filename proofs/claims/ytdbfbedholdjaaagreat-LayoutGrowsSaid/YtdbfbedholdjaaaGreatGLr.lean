/- No conditions. -/
import Derived.Test.YtdbfbedholdjaaaGreatGLn
import Derived.Test.YtdbfbedholdjaaaGreatGBL
import Derived.Test.YtdbfbedholdjaaaGreatGLq
import Derived.Test.YtdbfbedholdjaaaGreatProg
set_option linter.unusedVariables false
set_option linter.unusedSimpArgs false
set_option linter.unusedSectionVars false
namespace Go.Proofs.YtdbfbedholdjaaaGreat
open Go Go.Proofs Go.Dl
variable [dK]
set_option maxRecDepth 100000
set_option maxHeartbeats 4000000
def F40 (K:Nat) (a0:cM) (a1:Int):Option ((S56) ⊕ (S56)) :=
 ((bV (F52 K a0 a1)).bind (fun r1=>((cF true (bV (F36 K r1)) default).bind (fun r2=>((bV (F52 K a0 a1)).bind (fun r3=>((bV (F38 K r3)).bind (fun r4=>((bV (F10 K a0 a1)).bind (fun r6=>(bP (if (decide (((Int.ofNat r6.length):Int) > 1))=true then (bW [cY 1 r6.length] ((cF true (bV (F11 K a0 (r6.getD (1:Int).toNat default))) default).bind (fun r9=>(some (.inr (r9)))))) else (some (.inr ((-1))))) (fun (u8:Int)=>((bV (F49 K a0 a1)).bind (fun jL=>(bP (bN ((iter K (fun (l6:(List Int) × (List Bytes) × Int)=>(bO (decide ((l6.2.2:Int)<(Int.ofNat jL.length))) (fun (x58:Bool)=>(if x58=true then (bP (bN (bW [cY l6.2.2 jL.length] ((bV (F87 K a0 a1 (jL.getD (l6.2.2:Int).toNat default))).bind (fun r63=>((cF true (bV (F19 K a0 r63.1)) default).bind (fun r64=>(bW [room ((l6.1.length+([r64].length)) * 8)] (bW [cY r63.1.c6 a0.bM.length,cY r63.1.dJ ((a0.bM.getD (r63.1.c6:Int).toNat default).bQ).length] ((cF true (bV (F39 K (((a0.bM.getD (r63.1.c6:Int).toNat default).bQ).getD (r63.1.dJ:Int).toNat default))) default).bind (fun r65=>(bW [room ((l6.2.1.length+([r65].length)) * 16)] (some (.inr ((l6.1++[r64]),(l6.2.1++[r65]))))))))))))))) (fun (u62:(List Int) × (List Bytes))=>(some (.inr (u62.1,u62.2,(IntKind.i64.wrap (l6.2.2+1))))))) else (some (.inl (Sum.inl (l6.1,l6.2.1)))))))) ([],[],0)).map .inl)) (fun (sD:(List Int) × (List Bytes))=>((bV (aIh K a0 a1)).bind (fun r66=>((bV (F89 K r66)).bind (fun nS=>(bW [decide (r66.length=nS.length)] (bP (bN ((iter K (fun (oV:(List q9) × Int)=>(bO (decide ((oV.2:Int)<(Int.ofNat nS.length))) (fun (a0r:Bool)=>(if a0r=true then (bP (bN (bW [cY oV.2 nS.length] ((bV (F22 K a0 (nS.getD ((oV.2:Int).toNat) default))).bind (fun aG3=>(bW [cY (nS.getD ((oV.2:Int).toNat) default) a0.bM.length] (bO ((a0.bM.getD ((nS.getD ((oV.2:Int).toNat) default):Int).toNat default).bQ) (fun (aPb:(List iT))=>(bO (Int.ofNat ((a0.bM.getD ((nS.getD ((oV.2:Int).toNat) default):Int).toNat default).bQ).length) (fun (aSz:Int)=>(bP (bN ((iter K (fun (yN:(List Int) × Int)=>(if (decide ((yN.2:Int)<aSz))=true then (bP (bN (bW [cY yN.2 aPb.length] (bO ((aPb.getD (yN.2:Int).toNat default).cD) (fun (aWE:Bytes)=>((cF true (bV (F90 K a0 a1 aWE)) default).bind (fun aPc=>(bW [room ((yN.1.length+([aPc].length)) * 8)] (some (.inr ((yN.1++[aPc]))))))))))) (fun (aPd:(List Int))=>(some (.inr (aPd,(IntKind.i64.wrap (yN.2+1))))))) else (some (.inl (Sum.inl (yN.1)))))) ([],0)).map .inl)) (fun (aG4:(List Int))=>(bW [room ((oV.1.length+([(⟨aG3,aG4⟩:q9)].length)) * 32)] (some (.inr ((oV.1++[(⟨aG3,aG4⟩:q9)])))))))))))))))) (fun (aGD:(List q9))=>(some (.inr (aGD,(IntKind.i64.wrap (oV.2+1))))))) else (some (.inl (Sum.inl (oV.1)))))))) ([],0)).map .inl)) (fun (aPe:(List q9))=>(some (.inl ((⟨u8,r2,r4,sD.1,sD.2,aPe⟩:S56)))))))))))))))))))))))))))
abbrev tN (v0:Int):List (Nat × D):=[sI 1 v0,sP 2 0 0 0,sP 4 1 0 0,sP 5 2 0 0]
abbrev aKe (v0:cM) (v1:Int) (v2:Bytes) (v3:(List Int)) (v4:(List Int) × (List Bytes)) (v5:(List q9) × Int):List Go.Dl.Obj:=[.cells (dP.cs v0),oX3,.cells [iC v1,.str v2,E3.tree v3,.own 3 v4.1.length,.own 4 v4.2.length,.own 5 v5.1.length],E3.row v4.1,E9.row v4.2,aFC.row v5.1]
theorem aWF (K:Nat) (a0:cM) (a1:Int):bS Tryz.prog 40 [.agg (dP.cs a0),.c (.val (.int .i64 a1))] [] (bV (F40 K a0 a1)) (fun r=>.agg (yA.cs r)) (fun r=>[.cells (yA.cs r)]):=by
 refine bS.it Tryz.f40 (fun r=>⟨[sP 4 0 0 0],[.cells (yA.cs r)],[],0⟩) ?_
 unfold F40
 exact Ref.pt (
  .ex [1,5] <|
  .tx [2,3,6,7,10] <|
  .ex [0] <|
  .kn fun r1 er1 =>
  .kn fun r2 er2 =>
  .kn fun r3 er3 =>
  .kn fun r4 er4 =>
  .all [1,2,4,17,18,22,19,20,21,23,24,25,5] (rg (cd (bd Tryz.f40) [1,0])) [true,true,false,false,false,true,false,false,false,false,false] (hl [(2,.kc [] (bS.eq (aMk _ _ _) er1) []),(3,.kc [] (bS.eq (zX _ _) er2) []),(6,.kc [] (bS.eq (aMk _ _ _) er3) []),(7,.kc [] (bS.eq (aVX _ _) er4) [])]) ⟨tN a1,[.cells (dP.cs a0),oX3,.cells [iC (-1),.str r2,E3.tree r4,.nil,.nil,.nil]],[],0⟩ [.s 2,.s 4,.s 5] <|
  .call [] (aBx _ _ _) fun r6 =>
  .jn (fun u8=>⟨tN a1,[.cells (dP.cs a0),oX3,.cells [iC u8,.str r2,E3.tree r4,.nil,.nil,.nil]],[],0⟩) (
   .ite _ (
    .iU [1,2] _ <|
    .tx [6] <|
    .ex [0,3] <|
    .eH 4 (default:Int) _ [] (aIz K a0 (gd r6 1)) (fun _=>rfl) fun r9 =>
    .ex [5] <|
    .tl [6] <|
    .nil [0,1,2] _) (
    .nil [0,1,2] _)) fun u8 =>
  .call [] (aUk _ _ _) fun jL =>
  .bk 0 (fun sD=>⟨tN a1,[.cells (dP.cs a0),oX3,.cells [iC u8,.str r2,E3.tree r4,.own 3 sD.1.length,.own 4 sD.2.length,.nil],E3.row sD.1,E9.row sD.2],[],0⟩) (
   .adc 5 0 2 3 E3.ty E3.w (E3.at []) <|
   .adc 5 0 2 4 E9.ty E9.w (E9.at []) <|
   .lp [0,1,2,3,4] (fun l6=>⟨tN a1++[(40,.c (E9.tree jL)),sI 41 (Int.ofNat jL.length),sI 42 l6.2.2],[.cells (dP.cs a0),oX3,.cells [iC u8,.str r2,E3.tree r4,.own 3 l6.1.length,.own 4 l6.2.1.length,.nil],E3.row l6.1,E9.row l6.2.1],[],0⟩) fun l6 =>
   .lt _ fun x58 =>
   .ite _ (
    .bk 1 (fun u62=>⟨tN a1++[(40,.c (E9.tree jL)),sI 41 (Int.ofNat jL.length),sI 42 l6.2.2],[.cells (dP.cs a0),oX3,.cells [iC u8,.str r2,E3.tree r4,.own 3 u62.1.length,.own 4 u62.2.length,.nil],E3.row u62.1,E9.row u62.2],[],0⟩) (
     .ck _ <|
     .call [] (aOj _ _ _ _) fun r63 =>
     .ex [0] <|
     .tx [6,7,8] <|
     .ex [1,2,3] <|
     .eH 4 (default:Int) _ [] (aFk K a0 r63.1) (fun _=>rfl) fun r64 =>
     .fk 5 <|
     .ob 999999 0 7 (El.cB E3 [r64] rfl rfl) <|
     .tl [6,7,8] <|
     .ck _ <|
     .ap 9 2 8 59 E3 l6.1 [r64] <|
     .ex [0,2,4,9] <|
     .tx [15,16,17] <|
     .iU [1,3,5,6,7,8,10,11,12] _ <|
     .eH 13 (default:Bytes) _ [] (aOy K (gd ((gd a0.bM r63.1.c6).bQ) r63.1.dJ)) (fun _=>rfl) fun r65 =>
     .fk 14 <|
     .ob 999999 0 9 (El.cB E9 [r65] rfl rfl) <|
     .tl [15,16,17] <|
     .ck _ <|
     .ap 10 2 10 76 E9 l6.2.1 [r65] <|
     .nil [0,1,2,8,10] _) fun u62 =>
    .nil [0,1,2,3,4] _) (
    .ret [0,1,2,3,4] _)) fun sD =>
  .call [] (aR7 _ _ _) fun r66 =>
  .call [5] (aUo _ _) fun nS =>
  .aDx [0,1,2,3,4,5] 13 (rg (cd (bd Tryz.f40) [1,1,1,1,1,0])) ((rg (cd (bd Tryz.f40) [1,1,1,1,1,0])).toList.drop 2) [(cd (bd Tryz.f40) [1,1,1,1,1,1])] ⟨tN a1++[(11,.c (.own 5 r66.length)),(82,.c (.own 5 r66.length)),(83,.kC [])],[.cells (dP.cs a0),oX3,.cells [iC u8,.str r2,E3.tree r4,.own 3 sD.1.length,.own 4 sD.2.length,.nil],E3.row sD.1,E9.row sD.2,E3.row nS],[],0⟩ (by
   refine eF.aXQ (decide (r66.length=nS.length)) (fun hl1=>?_)
   exact eF.pt (id:=13) (
    .sl 13 0 11 (x:=.c (.own 5 r66.length)) (y:=(.c (.own 5 nS.length))) (jR.c (hO.own (of_decide_eq_true hl1))) <|
    .sl 13 0 82 (x:=.c (.own 5 r66.length)) (y:=(.c (.own 5 nS.length))) (jR.c (hO.own (of_decide_eq_true hl1))) <|
    .bk 2 (fun aPe=>⟨[sP 4 0 0 0,sP 5 1 0 0],[oX3,.cells [iC u8,.str r2,E3.tree r4,.own 2 sD.1.length,.own 3 sD.2.length,.own 4 aPe.length],E3.row sD.1,E9.row sD.2,aFC.row aPe],[],0⟩) (
     .adc 14 0 2 5 aFC.ty aFC.w (aFC.at []) <|
     .lp [0,1,2,3,4,6,5] (fun oV=>⟨tN a1++[(84,.c (.own 6 nS.length)),sI 85 (Int.ofNat nS.length),sI 86 oV.2],aKe a0 u8 r2 r4 sD oV++[E3.row nS],[],0⟩) fun oV =>
     .lt _ fun a0r =>
     .ite _ (
      .bk 3 (fun aGD=>⟨tN a1++[(84,.c (.own 6 nS.length)),sI 85 (Int.ofNat nS.length),sI 86 oV.2],[.cells (dP.cs a0),oX3,.cells [iC u8,.str r2,E3.tree r4,.own 3 sD.1.length,.own 4 sD.2.length,.own 5 aGD.length],E3.row sD.1,E9.row sD.2,aFC.row aGD,E3.row nS],[],0⟩) (
       .ck _ <|
       .call [] (aVZ _ _ _) fun aG3 =>
       .ck _ <|
       .lt _ fun aPb =>
       .lt _ fun aSz =>
       .bk 4 (fun aG4=>⟨tN a1++[sP 14 6 0 0,(84,.c (.own 8 nS.length)),sI 85 (Int.ofNat nS.length),sI 86 oV.2],aKe a0 u8 r2 r4 sD oV++[.cells [iC aG3,.own 7 aG4.length],E3.row aG4,E3.row nS],[],0⟩) (
        .adc 18 0 7 1 E3.ty E3.w (E3.at []) <|
        .lp [0,1,2,3,4,5,7,8,6] (fun yN=>⟨tN a1++[sP 14 6 0 0,(84,.c (.own 8 nS.length)),sI 85 (Int.ofNat nS.length),sI 86 oV.2,(99,.c (j3.tree aPb)),sI 100 aSz,sI 101 yN.2],aKe a0 u8 r2 r4 sD oV++[.cells [iC aG3,.own 7 yN.1.length],E3.row yN.1,E3.row nS],[],0⟩) fun yN =>
        .ite _ (
         .bk 5 (fun aPd=>⟨tN a1++[sP 14 6 0 0,(84,.c (.own 8 nS.length)),sI 85 (Int.ofNat nS.length),sI 86 oV.2,(99,.c (j3.tree aPb)),sI 100 aSz,sI 101 yN.2],aKe a0 u8 r2 r4 sD oV++[.cells [iC aG3,.own 7 aPd.length],E3.row aPd,E3.row nS],[],0⟩) (
          .ck _ <|
          .ex [0,3,4] <|
          .tx [8,9,10] <|
          .ex [1,2,5] <|
          .lt _ fun aWE =>
          .eH 6 (default:Int) _ [] (aV7 K a0 a1 aWE) (fun _=>rfl) fun aPc =>
          .fk 7 <|
          .ob 999999 0 10 (El.cB E3 [aPc] rfl rfl) <|
          .tl [8,9,10] <|
          .ck _ <|
          .ap 21 2 11 113 E3 yN.1 [aPc] <|
          .nil [0,1,2,3,4,5,6,11,8] _) fun aPd =>
         .nil [0,1,2,3,4,5,6,7,8] _) (
         .ret [0,1,2,3,4,5,6,7,8] _)) fun aG4 =>
       .fz 23 4 7 <|
       .ob 23 3 9 (El.cB aFC [(⟨aG3,aG4⟩:q9)] rfl rfl) <|
       .ck _ <|
       .ap 23 2 10 120 aFC oV.1 [(⟨aG3,aG4⟩:q9)] <|
       .nil [0,1,2,3,4,10,8] _) fun aGD =>
      .nil [0,1,2,3,4,5,6] _) (
      .ret [1,2,3,4,5] _)) fun aPe =>
    .fz 25 0 2 <|
    .fz 25 0 3 <|
    .fz 25 0 4 <|
    .ret [0] _)))
def F9 (K:Nat) (a0:cM):Option ((gK) ⊕ (gK)) :=
 ((bV (F37 K a0)).bind (fun r1=>((cF true (bV (F36 K r1)) default).bind (fun r2=>((bV (F37 K a0)).bind (fun r3=>((bV (aM2 K r3)).bind (fun r4=>(bP (bN ((iter K (fun (dM:(List (List Bytes)) × (List S56) × (List uF) × (List Int) × Bytes × (List Int) × (List Int) × (List jU) × (List jU) × (List S85) × Int × Int × Int)=>(bO (decide ((dM.2.2.2.2.2.2.2.2.2.2.2.2:Int)<(Int.ofNat a0.bM.length))) (fun (a0s:Bool)=>(if a0s=true then (bP (bN (bW [cY dM.2.2.2.2.2.2.2.2.2.2.2.2 a0.bM.length] (bO ((a0.bM.getD (dM.2.2.2.2.2.2.2.2.2.2.2.2:Int).toNat default).bR) (fun (aPf:Int)=>(bP (bN (if ((aPf:Int) == 1)=true then (bO ((a0.bM.getD (dM.2.2.2.2.2.2.2.2.2.2.2.2:Int).toNat default).bQ) (fun (aPg:(List iT))=>(bO (Int.ofNat ((a0.bM.getD (dM.2.2.2.2.2.2.2.2.2.2.2.2:Int).toNat default).bQ).length) (fun (aSB:Int)=>(bP (bN ((iter K (fun (yO:(List Bytes) × Int)=>(if (decide ((yO.2:Int)<aSB))=true then (bP (bN (bW [cY yO.2 aPg.length] ((bV (F39 K (aPg.getD (yO.2:Int).toNat default))).bind (fun aPh=>(bW [room ((yO.1.length+([aPh].length)) * 16)] (some (.inr ((yO.1++[aPh]))))))))) (fun (aPi:(List Bytes))=>(some (.inr (aPi,(IntKind.i64.wrap (yO.2+1))))))) else (some (.inl (Sum.inl (yO.1)))))) ([],0)).map .inl)) (fun (aG5:(List Bytes))=>(bW [room ((dM.1.length+([aG5].length)) * 24)] (some (.inr ((⟨(dM.1++[aG5]),dM.2.1,dM.2.2.1,dM.2.2.2.1,dM.2.2.2.2.1,dM.2.2.2.2.2.1,dM.2.2.2.2.2.2.1,dM.2.2.2.2.2.2.2.1,dM.2.2.2.2.2.2.2.2.1,dM.2.2.2.2.2.2.2.2.2.1,dM.2.2.2.2.2.2.2.2.2.2.1,dM.2.2.2.2.2.2.2.2.2.2.2.1⟩:gK))))))))))) else (if ((aPf:Int) == 2)=true then ((bV (F40 K a0 dM.2.2.2.2.2.2.2.2.2.2.2.2)).bind (fun aIU=>(bW [room ((dM.2.1.length+([aIU].length)) * 120)] (some (.inr ((⟨dM.1,(dM.2.1++[aIU]),dM.2.2.1,dM.2.2.2.1,dM.2.2.2.2.1,dM.2.2.2.2.2.1,dM.2.2.2.2.2.2.1,dM.2.2.2.2.2.2.2.1,dM.2.2.2.2.2.2.2.2.1,dM.2.2.2.2.2.2.2.2.2.1,dM.2.2.2.2.2.2.2.2.2.2.1,dM.2.2.2.2.2.2.2.2.2.2.2.1⟩:gK))))))) else (if ((aPf:Int) == 3)=true then ((bV (F41 K a0 dM.2.2.2.2.2.2.2.2.2.2.2.2 (⟨dM.1,dM.2.1,dM.2.2.1,dM.2.2.2.1,dM.2.2.2.2.1,dM.2.2.2.2.2.1,dM.2.2.2.2.2.2.1,dM.2.2.2.2.2.2.2.1,dM.2.2.2.2.2.2.2.2.1,dM.2.2.2.2.2.2.2.2.2.1,dM.2.2.2.2.2.2.2.2.2.2.1,dM.2.2.2.2.2.2.2.2.2.2.2.1⟩:gK))).bind (fun a0t=>(some (.inr (a0t))))) else (if ((aPf:Int) == 4)=true then (bO ((a0.bM.getD (dM.2.2.2.2.2.2.2.2.2.2.2.2:Int).toNat default).fV) (fun (a0u:Bytes)=>((bV (F42 K a0 a0u)).bind (fun aWG=>(bO ((a0.bM.getD (dM.2.2.2.2.2.2.2.2.2.2.2.2:Int).toNat default).rA) (fun (aPj:Int)=>(bO ((a0.bM.getD (dM.2.2.2.2.2.2.2.2.2.2.2.2:Int).toNat default).rB) (fun (aPk:Int)=>((cF true (bV (F19 K a0 (⟨aWG,(-1)⟩:dR))) default).bind (fun aPl=>(bW [room ((dM.2.2.2.2.2.2.2.2.2.1.length+([(⟨aPl,aPj,aPk⟩:S85)].length)) * 24)] (some (.inr ((⟨dM.1,dM.2.1,dM.2.2.1,dM.2.2.2.1,dM.2.2.2.2.1,dM.2.2.2.2.2.1,dM.2.2.2.2.2.2.1,dM.2.2.2.2.2.2.2.1,dM.2.2.2.2.2.2.2.2.1,(dM.2.2.2.2.2.2.2.2.2.1++[(⟨aPl,aPj,aPk⟩:S85)]),dM.2.2.2.2.2.2.2.2.2.2.1,dM.2.2.2.2.2.2.2.2.2.2.2.1⟩:gK))))))))))))))) else (some (.inr ((⟨dM.1,dM.2.1,dM.2.2.1,dM.2.2.2.1,dM.2.2.2.2.1,dM.2.2.2.2.2.1,dM.2.2.2.2.2.2.1,dM.2.2.2.2.2.2.2.1,dM.2.2.2.2.2.2.2.2.1,dM.2.2.2.2.2.2.2.2.2.1,dM.2.2.2.2.2.2.2.2.2.2.1,dM.2.2.2.2.2.2.2.2.2.2.2.1⟩:gK))))))))) (fun (aSC:gK)=>(some (.inr ((aSC)))))))))) (fun (wF:gK)=>(bO (IntKind.i64.wrap (dM.2.2.2.2.2.2.2.2.2.2.2.2+1)) (fun (a0v:Int)=>(some (.inr ((wF).cK,(wF).cS,(wF).dQ,(wF).eM,(wF).dS,(wF).dU,(wF).bY,(wF).iK,(wF).fJ,(wF).eV,(wF).fD,(wF).fW,a0v))))))) else (some (.inl (Sum.inl (dM.1,dM.2.1,dM.2.2.1,dM.2.2.2.1,dM.2.2.2.2.1,dM.2.2.2.2.2.1,dM.2.2.2.2.2.2.1,dM.2.2.2.2.2.2.2.1,dM.2.2.2.2.2.2.2.2.1,dM.2.2.2.2.2.2.2.2.2.1,dM.2.2.2.2.2.2.2.2.2.2.1,dM.2.2.2.2.2.2.2.2.2.2.2.1)))))))) ([],[],[],[],r2,r4,[],[],[],[],0,0,0)).map .inl)) (fun (eR:(List (List Bytes)) × (List S56) × (List uF) × (List Int) × Bytes × (List Int) × (List Int) × (List jU) × (List jU) × (List S85) × Int × Int)=>((bV (F43 K a0)).bind (fun aDK=>(bP (bN ((iter K (fun (tO:(List uF) × Int)=>(bO (decide ((tO.2:Int)<(Int.ofNat aDK.length))) (fun (a0w:Bool)=>(if a0w=true then (bP (bN (bW [cY tO.2 aDK.length] ((bV (F44 K a0 (aDK.getD (tO.2:Int).toNat default))).bind (fun aIV=>(bW [room ((tO.1.length+([aIV].length)) * 80)] (some (.inr ((tO.1++[aIV]))))))))) (fun (aPm:(List uF))=>(some (.inr (aPm,(IntKind.i64.wrap (tO.2+1))))))) else (some (.inl (Sum.inl (tO.1)))))))) (eR.2.2.1,0)).map .inl)) (fun (tH:(List uF))=>(some (.inl ((⟨eR.1,eR.2.1,tH,eR.2.2.2.1,eR.2.2.2.2.1,eR.2.2.2.2.2.1,eR.2.2.2.2.2.2.1,eR.2.2.2.2.2.2.2.1,eR.2.2.2.2.2.2.2.2.1,eR.2.2.2.2.2.2.2.2.2.1,eR.2.2.2.2.2.2.2.2.2.2.1,eR.2.2.2.2.2.2.2.2.2.2.2⟩:gK))))))))))))))))))
abbrev aSD (v0:cM) (v1:(List (List Bytes)) × (List S56) × (List uF) × (List Int) × Bytes × (List Int) × (List Int) × (List jU) × (List jU) × (List S85) × Int × Int × Int):List Go.Dl.Obj:=[.cells (dP.cs v0),oX0,.cells [.own 3 v1.1.length,.own 4 v1.2.1.length,.own 5 v1.2.2.1.length,.own 6 v1.2.2.2.1.length,.str v1.2.2.2.2.1,.own 7 v1.2.2.2.2.2.1.length,.own 8 v1.2.2.2.2.2.2.1.length,.own 9 v1.2.2.2.2.2.2.2.1.length,.own 10 v1.2.2.2.2.2.2.2.2.1.length,.own 11 v1.2.2.2.2.2.2.2.2.2.1.length,iC v1.2.2.2.2.2.2.2.2.2.2.1,iC v1.2.2.2.2.2.2.2.2.2.2.2.1],E30.row v1.1,yA.row v1.2.1,zY.row v1.2.2.1,E3.row v1.2.2.2.1,E3.row v1.2.2.2.2.2.1,E3.row v1.2.2.2.2.2.2.1,iZ.row v1.2.2.2.2.2.2.2.1,iZ.row v1.2.2.2.2.2.2.2.2.1,E85.row v1.2.2.2.2.2.2.2.2.2.1]
abbrev aPn (v0:(List (List Bytes)) × (List S56) × (List uF) × (List Int) × Bytes × (List Int) × (List Int) × (List jU) × (List jU) × (List S85) × Int × Int):List Go.Dl.Obj:=[E3.row v0.2.2.2.1,E3.row v0.2.2.2.2.2.1,E3.row v0.2.2.2.2.2.2.1,iZ.row v0.2.2.2.2.2.2.2.1,iZ.row v0.2.2.2.2.2.2.2.2.1,E85.row v0.2.2.2.2.2.2.2.2.2.1]
abbrev aIW (v0:cM) (v1:(List (List Bytes)) × (List S56) × (List uF) × (List Int) × Bytes × (List Int) × (List Int) × (List jU) × (List jU) × (List S85) × Int × Int × Int):List (Nat × D):=[(20,.c (gT.tree v0.bM)),sI 21 (Int.ofNat v0.bM.length),sI 22 v1.2.2.2.2.2.2.2.2.2.2.2.2]
abbrev aAW:List (Nat × D):=[sP 1 0 0 0,sP 2 1 0 0,sP 3 2 0 0]
abbrev a0x (v0:cM) (v1:gK):List Go.Dl.Obj:=[.cells (dP.cs v0),oX0,.cells (gK.oc (v1) 3 4 5 6 7 8 9 10 11),E30.row ((v1).cK),yA.row ((v1).cS),zY.row ((v1).dQ),E3.row ((v1).eM),E3.row ((v1).dU),E3.row ((v1).bY),iZ.row ((v1).iK),iZ.row ((v1).fJ),E85.row ((v1).eV)]
theorem aPo (K:Nat) (a0:cM):bS Tryz.prog 9 [.agg (dP.cs a0)] [] (bV (F9 K a0)) (fun r=>.agg (vC.cs r)) (fun r=>[.cells (vC.cs r)]):=by
 refine bS.it Tryz.f9 (fun r=>⟨[sP 2 0 0 0],[.cells (vC.cs r)],[],0⟩) ?_
 unfold F9
 exact Ref.pt (
  .tx [1,2,4,5,8] <|
  .ex [0] <|
  .kn fun r1 er1 =>
  .kn fun r2 er2 =>
  .kn fun r3 er3 =>
  .kn fun r4 er4 =>
  .all [1,2,12,13,14,15,16,17,18,3] (rg (cd (bd Tryz.f9) [1,0])) [true,false,false,false,false,false,false,false,false] (hl [(1,.kc [] (bS.eq (aOa _ _) er1) []),(2,.kc [] (bS.eq (zX _ _) er2) []),(4,.kc [] (bS.eq (aOa _ _) er3) []),(5,.kc [] (bS.eq (aR1 _ _) er4) [])]) ⟨aAW,[.cells (dP.cs a0),oX0,.cells [.nil,.nil,.nil,.nil,.str r2,.own 3 r4.length,.nil,.nil,.nil,.nil,iC 0,iC 0],E3.row r4],[],0⟩ [.s 1,.s 2,.s 3,.o 2 5] <|
  .bk 0 (fun eR=>⟨aAW,.cells (dP.cs a0)::oX0::.cells [.own 3 eR.1.length,.own 4 eR.2.1.length,.own 5 eR.2.2.1.length,.own 6 eR.2.2.2.1.length,.str eR.2.2.2.2.1,.own 7 eR.2.2.2.2.2.1.length,.own 8 eR.2.2.2.2.2.2.1.length,.own 9 eR.2.2.2.2.2.2.2.1.length,.own 10 eR.2.2.2.2.2.2.2.2.1.length,.own 11 eR.2.2.2.2.2.2.2.2.2.1.length,iC eR.2.2.2.2.2.2.2.2.2.2.1,iC eR.2.2.2.2.2.2.2.2.2.2.2]::E30.row eR.1::yA.row eR.2.1::zY.row eR.2.2.1::aPn eR,[],0⟩) (
   .adc 2 0 2 0 E30.ty E30.w (E30.at []) <|
   .adc 2 0 2 1 yA.ty yA.w (yA.at []) <|
   .adc 2 0 2 2 zY.ty zY.w (zY.at []) <|
   .adc 2 0 2 3 E3.ty E3.w (E3.at []) <|
   .adc 2 0 2 6 E3.ty E3.w (E3.at []) <|
   .adc 2 0 2 7 iZ.ty iZ.w (iZ.at []) <|
   .adc 2 0 2 8 iZ.ty iZ.w (iZ.at []) <|
   .adc 2 0 2 9 E85.ty E85.w (E85.at []) <|
   .lp [0,1,2,4,5,6,7,3,8,9,10,11] (fun dM=>⟨aAW++aIW a0 dM,aSD a0 dM,[],0⟩) fun dM =>
   .lt _ fun a0s =>
   .ite _ (
    .bk 1 (fun wF=>⟨aAW++aIW a0 dM,a0x a0 wF,[],0⟩) (
     .ck _ <|
     .lt _ fun aPf =>
     .bk 2 (fun aSC=>⟨aAW++aIW a0 dM,a0x a0 aSC,[],0⟩) (
      .ite _ (
       .lt _ fun aPg =>
       .lt _ fun aSB =>
       .bk 3 (fun aG5=>⟨aAW++((6,.c (.own 12 aG5.length))::aIW a0 dM),aSD a0 dM++[E9.row aG5],[],0⟩) (
        .ad 8 0 6 E9.ty E9.w (E9.at []) <|
        .lp [0,1,2,3,4,5,6,7,8,9,10,11,13] (fun yO=>⟨aAW++((6,.c (.own 12 yO.1.length))::(aIW a0 dM++[(32,.c (j3.tree aPg)),sI 33 aSB,sI 34 yO.2])),aSD a0 dM++[E9.row yO.1],[],0⟩) fun yO =>
        .ite _ (
         .bk 4 (fun aPi=>⟨aAW++((6,.c (.own 12 aPi.length))::(aIW a0 dM++[(32,.c (j3.tree aPg)),sI 33 aSB,sI 34 yO.2])),aSD a0 dM++[E9.row aPi],[],0⟩) (
          .ck _ <|
          .call [] (aOy _ _) fun aPh =>
          .ob 11 2 14 (El.cB E9 [aPh] rfl rfl) <|
          .ck _ <|
          .ap 11 1 15 42 E9 yO.1 [aPh] <|
          .nil [0,1,2,3,4,5,6,7,8,9,10,11,15] _) fun aPi =>
         .nil [0,1,2,3,4,5,6,7,8,9,10,11,12] _) (
         .ret [0,1,2,3,4,5,6,7,8,9,10,11,12] _)) fun aG5 =>
       .fz 13 4 12 <|
       .ob 13 3 13 (El.cB E30 [aG5] rfl rfl) <|
       .ck _ <|
       .ap 13 2 14 48 E30 dM.1 [aG5] <|
       .nil [0,1,2,14,4,5,6,7,8,9,10,11] _) (
       .ite _ (
        .ex [0,3] <|
        .tx [4,6,8] <|
        .ex [2] <|
        .kn fun aIU a0y =>
        .asm _ fun h1 =>
        .all [1,2,3,20,21,22,52,54,55,53,56,57,58,59] (rg (cd (cd (bd Tryz.f9) [1,1,0,1,0,0,1,1,0,0,1,1,0,1,1,1]) [0])) [true,false,true,true,false,false,false,false,false] (hl [(4,.kc [] (bS.eq (aWF _ _ _) a0y) []),(5,.no [.bd 57 yA [aIU]]),(6,.ck _ h1 [.ap 58 yA dM.2.1 [aIU]])]) ⟨aAW++aIW a0 dM,[.cells (dP.cs a0),oX0,.cells [.own 3 dM.1.length,.own 4 ((dM.2.1++[aIU]).length),.own 5 dM.2.2.1.length,.own 6 dM.2.2.2.1.length,.str dM.2.2.2.2.1,.own 7 dM.2.2.2.2.2.1.length,.own 8 dM.2.2.2.2.2.2.1.length,.own 9 dM.2.2.2.2.2.2.2.1.length,.own 10 dM.2.2.2.2.2.2.2.2.1.length,.own 11 dM.2.2.2.2.2.2.2.2.2.1.length,iC dM.2.2.2.2.2.2.2.2.2.2.1,iC dM.2.2.2.2.2.2.2.2.2.2.2.1],E30.row dM.1,yA.row (dM.2.1++[aIU]),zY.row dM.2.2.1,E3.row dM.2.2.2.1,E3.row dM.2.2.2.2.2.1,E3.row dM.2.2.2.2.2.2.1,iZ.row dM.2.2.2.2.2.2.2.1,iZ.row dM.2.2.2.2.2.2.2.2.1,E85.row dM.2.2.2.2.2.2.2.2.2.1],[],0⟩ [.s 1,.s 2,.s 3,.o 2 0,.o 2 1,.o 2 2,.o 2 3,.o 2 5,.o 2 6,.o 2 7,.o 2 8,.o 2 9] <|
        .nil [0,1,2,3,4,5,6,7,8,9,10,11] _) (
        .ite _ (
         .call [2,3,4,5,6,7,8,9,10,11] (aWn _ _ _ _) fun a0t =>
         .nil [0,1,2,13,14,15,16,17,18,19,20,21] _) (
         .ite _ (
          .lt _ fun a0u =>
          .call [] (aFl _ _ _) fun aWG =>
          .ex [0,5,7] <|
          .tx [11,12,13] <|
          .ex [1,2,3,6,8] <|
          .lt _ fun aPj =>
          .lt _ fun aPk =>
          .eH 4 (default:Int) _ [] (aFk K a0 (⟨aWG,(-1)⟩:dR)) (fun _=>rfl) fun aPl =>
          .ex [9] <|
          .fk 10 <|
          .ob 999999 0 14 (El.cB E85 [(⟨aPl,aPj,aPk⟩:S85)] rfl rfl) <|
          .tl [11,12,13] <|
          .ck _ <|
          .ap 20 2 15 83 E85 dM.2.2.2.2.2.2.2.2.2.1 [(⟨aPl,aPj,aPk⟩:S85)] <|
          .nil [0,1,2,3,4,5,6,7,8,9,10,15] _) (
          .nil [0,1,2,3,4,5,6,7,8,9,10,11] _))))) fun aSC =>
     .nil [0,1,2,3,4,5,6,7,8,9,10,11] _) fun wF =>
    .lt _ fun a0v =>
    .nil [0,1,2,3,4,5,6,7,8,9,10,11] _) (
    .ret [0,1,2,3,4,5,6,7,8,9,10,11] _)) fun eR =>
  .call [] (aN9 _ _) fun aDK =>
  .bk 5 (fun tH=>⟨[sP 2 0 0 0,sP 3 1 0 0],oX0::.cells [.own 2 eR.1.length,.own 3 eR.2.1.length,.own 4 tH.length,.own 5 eR.2.2.2.1.length,.str eR.2.2.2.2.1,.own 6 eR.2.2.2.2.2.1.length,.own 7 eR.2.2.2.2.2.2.1.length,.own 8 eR.2.2.2.2.2.2.2.1.length,.own 9 eR.2.2.2.2.2.2.2.2.1.length,.own 10 eR.2.2.2.2.2.2.2.2.2.1.length,iC eR.2.2.2.2.2.2.2.2.2.2.1,iC eR.2.2.2.2.2.2.2.2.2.2.2]::E30.row eR.1::yA.row eR.2.1::zY.row tH::aPn eR,[],0⟩) (
   .lp [0,1,2,3,4,5,6,7,8,9,10,11] (fun tO=>⟨aAW++[(87,.c (eD.tree aDK)),sI 88 (Int.ofNat aDK.length),sI 89 tO.2],.cells (dP.cs a0)::oX0::.cells [.own 3 eR.1.length,.own 4 eR.2.1.length,.own 5 tO.1.length,.own 6 eR.2.2.2.1.length,.str eR.2.2.2.2.1,.own 7 eR.2.2.2.2.2.1.length,.own 8 eR.2.2.2.2.2.2.1.length,.own 9 eR.2.2.2.2.2.2.2.1.length,.own 10 eR.2.2.2.2.2.2.2.2.1.length,.own 11 eR.2.2.2.2.2.2.2.2.2.1.length,iC eR.2.2.2.2.2.2.2.2.2.2.1,iC eR.2.2.2.2.2.2.2.2.2.2.2]::E30.row eR.1::yA.row eR.2.1::zY.row tO.1::aPn eR,[],0⟩) fun tO =>
   .lt _ fun a0w =>
   .ite _ (
    .bk 6 (fun aPm=>⟨aAW++[(87,.c (eD.tree aDK)),sI 88 (Int.ofNat aDK.length),sI 89 tO.2],.cells (dP.cs a0)::oX0::.cells [.own 3 eR.1.length,.own 4 eR.2.1.length,.own 5 aPm.length,.own 6 eR.2.2.2.1.length,.str eR.2.2.2.2.1,.own 7 eR.2.2.2.2.2.1.length,.own 8 eR.2.2.2.2.2.2.1.length,.own 9 eR.2.2.2.2.2.2.2.1.length,.own 10 eR.2.2.2.2.2.2.2.2.1.length,.own 11 eR.2.2.2.2.2.2.2.2.2.1.length,iC eR.2.2.2.2.2.2.2.2.2.2.1,iC eR.2.2.2.2.2.2.2.2.2.2.2]::E30.row eR.1::yA.row eR.2.1::zY.row aPm::aPn eR,[],0⟩) (
     .ck _ <|
     .ex [0] <|
     .tx [4,6,8] <|
     .ex [2,3] <|
     .kn fun aIV a0z =>
     .asm _ fun h1 =>
     .all [1,2,3,87,88,89,93,95,96,94,97,98,99,100] (rg (cd (bd Tryz.f9) [1,1,1,0,1,0,0,1,1,0,0,1])) [true,false,true,true,false,false,false,false,false] (hl [(4,.kc [] (bS.eq (aWl _ _ _) a0z) []),(5,.no [.bd 98 zY [aIV]]),(6,.ck _ h1 [.ap 99 zY tO.1 [aIV]])]) ⟨aAW++[(87,.c (eD.tree aDK)),sI 88 (Int.ofNat aDK.length),sI 89 tO.2],.cells (dP.cs a0)::oX0::.cells [.own 3 eR.1.length,.own 4 eR.2.1.length,.own 5 ((tO.1++[aIV]).length),.own 6 eR.2.2.2.1.length,.str eR.2.2.2.2.1,.own 7 eR.2.2.2.2.2.1.length,.own 8 eR.2.2.2.2.2.2.1.length,.own 9 eR.2.2.2.2.2.2.2.1.length,.own 10 eR.2.2.2.2.2.2.2.2.1.length,.own 11 eR.2.2.2.2.2.2.2.2.2.1.length,iC eR.2.2.2.2.2.2.2.2.2.2.1,iC eR.2.2.2.2.2.2.2.2.2.2.2]::E30.row eR.1::yA.row eR.2.1::zY.row (tO.1++[aIV])::aPn eR,[],0⟩ [.s 1,.s 2,.s 3,.o 2 0,.o 2 1,.o 2 2,.o 2 3,.o 2 5,.o 2 6,.o 2 7,.o 2 8,.o 2 9] <|
     .nil [0,1,2,3,4,5,6,7,8,9,10,11] _) fun aPm =>
    .nil [0,1,2,3,4,5,6,7,8,9,10,11] _) (
    .ret [1,2,3,4,5,6,7,8,9,10,11] _)) fun tH =>
  .fz 27 0 2 <|
  .fz 27 0 3 <|
  .fz 27 0 4 <|
  .fz 27 0 5 <|
  .fz 27 0 6 <|
  .fz 27 0 7 <|
  .fz 27 0 8 <|
  .fz 27 0 9 <|
  .fz 27 0 10 <|
  .ret [0] _)
end Go.Proofs.YtdbfbedholdjaaaGreat
