/- No conditions. -/
import Derived.Test.YtdbfbedholdjaaaGreatGLE
import Derived.Test.YtdbfbedholdjaaaGreatGDE
import Derived.Test.YtdbfbedholdjaaaGreatProg
set_option linter.unusedVariables false
set_option linter.unusedSimpArgs false
set_option linter.unusedSectionVars false
namespace Go.Proofs.YtdbfbedholdjaaaGreat
open Go Go.Proofs Go.Dl
variable [dK]
set_option maxRecDepth 100000
set_option maxHeartbeats 4000000
def aOv (K:Nat) (a0:cM) (a1:Int):Option ((Bool) ⊕ (Bool)) :=
 ((bV (aK7 K a0 a1)).bind (fun r1=>(bP (bN ((iter K (fun (kH:Int)=>(bO (decide ((kH:Int)<(Int.ofNat r1.length))) (fun (aZs:Bool)=>(if aZs=true then (bP (bN (bW [cY kH r1.length] (bW [cY (r1.getD (kH:Int).toNat default) a0.bM.length] (bP (bN ((iter K (fun (rG:Int)=>(bO (decide ((rG:Int)<(Int.ofNat ((a0.bM.getD ((r1.getD (kH:Int).toNat default):Int).toNat default).bQ).length))) (fun (aZt:Bool)=>(if aZt=true then (bP (bN (bW [cY rG ((a0.bM.getD ((r1.getD (kH:Int).toNat default):Int).toNat default).bQ).length] ((bV (aE6 K a0 a1 ((((a0.bM.getD ((r1.getD (kH:Int).toNat default):Int).toNat default).bQ).getD (rG:Int).toNat default).cD))).bind (fun rH=>(bW [!(!(!rH.2)) || cY rG ((a0.bM.getD ((r1.getD (kH:Int).toNat default):Int).toNat default).bQ).length] ((cF (!(!rH.2)) (bV (F63 K a0 rH.1)) default).bind (fun aWd=>((cF (!(!rH.2)) (bV (aK8 K aWd (((a0.bM.getD ((r1.getD (kH:Int).toNat default):Int).toNat default).bQ).getD (rG:Int).toNat default))) default).bind (fun aWe=>(if ((!rH.2) || (!aWe))=true then (some (.inl (Sum.inr (Sum.inr (Sum.inr (Sum.inr (false))))))) else (some (.inr ())))))))))))) (fun (aZu:Unit)=>(some (.inr ((IntKind.i64.wrap (rG+1))))))) else (some (.inl (Sum.inl ()))))))) (0)).map .inl)) (fun (aZv:Unit)=>(some (.inr ()))))))) (fun (aZw:Unit)=>(some (.inr ((IntKind.i64.wrap (kH+1))))))) else (some (.inl (Sum.inl ()))))))) (0)).map .inl)) (fun (aZx:Unit)=>(some (.inl (true)))))))
abbrev tL (v0:cM) (v1:(List Int)) (v2:Int):List Go.Dl.Obj:=[.cells (dP.cs v0),gT.o (v0.bM.getD ((gd v1 v2):Int).toNat default)]
abbrev oJ (v0:Int) (v1:(List Int)) (v2:Int):List (Nat × D):=[sI 1 v0,sP 2 0 0 0,(5,.c (E3.tree v1)),sI 6 v2]
theorem aSc (K:Nat) (a0:cM) (a1:Int):bS Tryz.prog 152 [.agg (dP.cs a0),.c (.val (.int .i64 a1))] [] (bV (aOv K a0 a1)) (fun r=>.c (.val (.bool r))) (fun r=>[]):=by
 refine bS.it Tryz.f152 (fun r=>⟨[sB 4 r],[],[],0⟩) ?_
 unfold aOv
 exact Ref.pt (
  .call [] (aJN _ _ _) fun r1 =>
  .bk 0 (fun aZx=>⟨[],[],[],0⟩) (
   .lp [0] (fun kH=>⟨oJ a1 r1 kH,[.cells (dP.cs a0)],[],0⟩) fun kH =>
   .lt _ fun aZs =>
   .ite _ (
    .bk 1 (fun aZw=>⟨oJ a1 r1 kH,[.cells (dP.cs a0)],[],0⟩) (
     .iU [0,2,3,4] _ <|
     .tx [9] <|
     .iU [1,5,6,7] _ <|
     .all [1,2,5,6,27,7] (rg (cd (bd Tryz.f152) [1,1,0,1,0,0,1,0,0,0])) [true,true,true,true,true,true,true,true,false,false] (hl []) ⟨oJ a1 r1 kH++[sP 7 1 0 0],tL a0 r1 kH,[],0⟩ [.s 2,.s 7] <|
     .bk 2 (fun aZv=>⟨oJ a1 r1 kH,[.cells (dP.cs a0)],[],0⟩) (
      .lp [0,1] (fun rG=>⟨oJ a1 r1 kH++[sP 7 1 0 0,sI 8 rG],tL a0 r1 kH,[],0⟩) fun rG =>
      .lt _ fun aZt =>
      .ite _ (
       .bk 3 (fun aZu=>⟨oJ a1 r1 kH++[sP 7 1 0 0,sI 8 rG],tL a0 r1 kH,[],0⟩) (
        .ex [1,2,4] <|
        .tx [8,13] <|
        .iU [0,3,5,6,7] _ <|
        .kn fun rH aZy =>
        .all [1,2,5,6,7,8,36,37,43,44,35,45,46,9,10] (rg (cd (bd Tryz.f152) [1,1,0,1,0,0,1,0,0,1,1,0,0,1,0,0,0])) [true,true,true,true,true,true,true,true,false,false,false,false,false,false,false] (hl [(8,.kc [] (bS.eq (xQ _ _ _ _) aZy) [])]) ⟨oJ a1 r1 kH++[sP 7 1 0 0,sI 8 rG,sP 9 2 0 0,sB 10 rH.2],tL a0 r1 kH++[.cells (eD.cs rH.1)],[],0⟩ [.s 2,.s 7,.s 9] <|
        .esc [0,1,2] [(cd (bd Tryz.f152) [1,1,0,1,0,0,1,0,0,1,1,0,0,1,0,0,1,0]),(cd (bd Tryz.f152) [1,1,0,1,0,0,1,0,0,1,1,0,0,1,0,0,1,1])] ⟨oJ a1 r1 kH++[sP 7 1 0 0,sI 8 rG,sP 9 2 0 0,sB 10 rH.2],tL a0 r1 kH++[.cells (eD.cs rH.1)],[],0⟩ (by
         refine Ref.vM 10 (by kernel_rfl) (by kernel_rfl) ?_
         refine gH.zH (dD:=⟨oJ a1 r1 kH++[sP 7 1 0 0,sI 8 rG,sP 9 2 0 0,sB 49 (!rH.2),sP 53 1 0 7,sI 55 rG],tL a0 r1 kH++[.cells (eD.cs rH.1)],[(55,[(49,false)]),(53,[(49,false)])],0⟩) (fuel':=9) [0,1,2,6,8] [1,2,5,6,7,8,9,49,53,55] [0,1,2] rfl (by kernel_rfl) (by kernel_rfl) ?_
         refine gH.toX [] ?_
         refine cW.evC (vs:=[!(!(!rH.2)) || cY rG ((a0.bM.getD ((gd r1 kH):Int).toNat default).bQ).length]) (dD:=⟨oJ a1 r1 kH++[sP 7 1 0 0,sI 8 rG,sB 49 (!rH.2),(50,.agg (dP.cs a0)),(51,.agg (eD.cs rH.1)),(57,.agg (j3.cs (((a0.bM.getD ((gd r1 kH):Int).toNat default).bQ).getD (rG:Int).toNat default)))],tL a0 r1 kH,[(57,[(49,false)]),(51,[(49,false)]),(50,[(49,false)])],0⟩) (fuel':=4) [3,4,7,9,10] [1,2,5,6,7,8,49,50,51,57] [0,1] rfl (by kernel_rfl) (by kernel_rfl) ?_
         refine cW.aMZ (t:=52) (g:=[(49,false)]) (b:=(!(!rH.2))) (fuel':=3) 5 (default:iT) rfl (by kernel_rfl) (by kernel_rfl) (bS.aJz (aCj K a0 rH.1) (fun _=>rfl)) (fun aWd=>?_)
         refine cW.aJq (t:=58) (g:=[(49,false)]) (b:=(!(!rH.2))) (fuel':=2) 11 [] (default:Bool) rfl (by kernel_rfl) (by kernel_rfl) (aJP K aWd (((a0.bM.getD ((gd r1 kH):Int).toNat default).bQ).getD (rG:Int).toNat default)) (fun _=>rfl) (fun aWe=>?_)
         refine cW.zH (dD:=⟨oJ a1 r1 kH++[sP 7 1 0 0,sI 8 rG,sB 60 ((!rH.2) || (!aWe))],tL a0 r1 kH,[],0⟩) (fuel':=0) [12,13] [1,2,5,6,7,8,60] [0,1] rfl (by kernel_rfl) (by kernel_rfl) ?_
         refine cW.done (by kernel_rfl) ?_
         exact Ref.pt (
          .ite _ (
           .ret [] _) (
           .nil [0,1] _)))) fun aZu =>
       .nil [0,1] _) (
       .ret [0] _)) fun aZv =>
     .nil [0] _) fun aZw =>
    .nil [0] _) (
    .ret [] _)) fun aZx =>
  .ret [] _)
end Go.Proofs.YtdbfbedholdjaaaGreat

namespace Go.Proofs.YtdbfbedholdjaaaGreat
open Go Go.Proofs Go.Dl
variable [dK]
set_option maxRecDepth 100000
set_option maxHeartbeats 4000000
def aOw (K:Nat) (a0:cM) (a1:Int):Option ((Int) ⊕ (Int)) :=
 (bW [cY a1 a0.bM.length] (bO (!(((a0.bM.getD (a1:Int).toNat default).fV) == ([]:Bytes))) (fun (x1:Bool)=>(bP (if x1=true then (bO ((a0.bM.getD (a1:Int).toNat default).fV) (fun (x7:Bytes)=>((bV (F61 K a0 x7)).bind (fun r8=>((bV (F68 K a0 r8)).bind (fun r9=>(bW [!(!(((r9:Int) != 2) || (decide ((r8:Int) ≥ a1)))) || cY r8 a0.bM.length] (bO ((((r9:Int) != 2) || (decide ((r8:Int) ≥ a1))) || ((a0.bM.getD (r8:Int).toNat default).tE)) (fun (x10:Bool)=>(if x10=true then (some (.inl (7))) else (some (.inr ())))))))))))) else (some (.inr ()))) (fun (u6:Unit)=>(bP (bN ((iter K (fun (l6:Int)=>(bO (decide ((l6:Int)<(Int.ofNat ((a0.bM.getD (a1:Int).toNat default).cK).length))) (fun (x58:Bool)=>(if x58=true then (bP (bN (bW [cY l6 ((a0.bM.getD (a1:Int).toNat default).cK).length] (bO (((a0.bM.getD (a1:Int).toNat default).cK).getD (l6:Int).toNat default) (fun (x63:Bytes)=>((cF true (bV (F61 K a0 x63)) default).bind (fun r64=>((cF true (bV (F68 K a0 r64)) default).bind (fun r65=>(if ((r65:Int) != 1)=true then (some (.inl (Sum.inr (Sum.inr (8))))) else (some (.inr ()))))))))))) (fun (u62:Unit)=>(some (.inr ((IntKind.i64.wrap (l6+1))))))) else (some (.inl (Sum.inl ()))))))) (0)).map .inl)) (fun (sD:Unit)=>(bO ((a0.bM.getD (a1:Int).toNat default).cK) (fun (x66:(List Bytes))=>((bV (aCk K x66)).bind (fun nS=>(if nS=true then (some (.inl (8))) else ((bV (aNC K a0 (a0.bM.getD (a1:Int).toNat default))).bind (fun r68=>(if ((r68:Int) != 0)=true then (some (.inl (r68))) else ((bV (F70 K a0 a1)).bind (fun r69=>((bV (aGA K r69)).bind (fun r70=>((bV (aCk K r70)).bind (fun r71=>((cF (!r71) (bV (aIr K (a0.bM.getD (a1:Int).toNat default))) default).bind (fun r72=>((cF (!r71) (bV (aCk K r72)) default).bind (fun r73=>(bP (bN ((iter K (fun (xZ:Bool × Int)=>(bO (decide ((xZ.2:Int)<(Int.ofNat ((a0.bM.getD (a1:Int).toNat default).bQ).length))) (fun (aZB:Bool)=>(if aZB=true then (bP (bN ((cF (!xZ.1) (bV (aK9 K a0 (⟨a1,xZ.2⟩:dR))) default).bind (fun aAQ=>((cF (!xZ.1) (bV (aGA K aAQ)) default).bind (fun aDH=>((cF (!xZ.1) (bV (aCk K aDH)) default).bind (fun v7=>(some (.inr ((xZ.1 || v7))))))))))) (fun (pS:Bool)=>(some (.inr (pS,(IntKind.i64.wrap (xZ.2+1))))))) else (some (.inl (Sum.inl (xZ.1)))))))) ((r71 || r73),0)).map .inl)) (fun (aSd:Bool)=>(if aSd=true then (some (.inl (6))) else ((bV (aNF K a0 a1)).bind (fun aZC=>(if aZC=true then (some (.inl (12))) else ((bV (aNG K a0 a1)).bind (fun aNH=>(if aNH=true then (some (.inl (11))) else ((bV (aOv K a0 a1)).bind (fun aCr=>(if (!aCr)=true then (some (.inl (8))) else (bP (bN ((iter K (fun (aAT:Int)=>(bO (decide ((aAT:Int)<(Int.ofNat ((a0.bM.getD (a1:Int).toNat default).bQ).length))) (fun (aZD:Bool)=>(if aZD=true then (bP (bN (bW [cY aAT ((a0.bM.getD (a1:Int).toNat default).bQ).length] (bO ((((a0.bM.getD (a1:Int).toNat default).bQ).getD (aAT:Int).toNat default).eQ) (fun (aZE:Bool)=>(if aZE=true then (some (.inl (Sum.inl ()))) else (bW [cY aAT ((a0.bM.getD (a1:Int).toNat default).bQ).length] (bO ((((a0.bM.getD (a1:Int).toNat default).bQ).getD (aAT:Int).toNat default).rP) (fun (aWf:(List cG))=>((cF true (bV (aLo K a0 (⟨a1,aAT⟩:dR) aWf)) default).bind (fun aWg=>(if ((aWg:Int) != 0)=true then (some (.inl (Sum.inr (Sum.inr (aWg))))) else (some (.inr ()))))))))))))) (fun (aZF:Unit)=>(some (.inr ((IntKind.i64.wrap (aAT+1))))))) else (some (.inl (Sum.inl ()))))))) (0)).map .inl)) (fun (aNA:Unit)=>(some (.inl (0))))))))))))))))))))))))))))))))))))))))))
abbrev rI (v0:cM) (v1:Int):List Go.Dl.Obj:=[.cells (dP.cs v0),gT.o (gd v0.bM v1)]
abbrev rJ (v0:Int):List (Nat × D):=[sI 1 v0,sP 2 0 0 0,sP 5 1 0 0]
theorem aSe (K:Nat) (a0:cM) (a1:Int):bS Tryz.prog 118 [.agg (dP.cs a0),.c (.val (.int .i64 a1))] [] (bV (aOw K a0 a1)) (fun r=>.c (.val (.int .i64 r))) (fun r=>[]):=by
 refine bS.it Tryz.f118 (fun r=>⟨[sI 4 r],[],[],0⟩) ?_
 unfold aOw
 exact Ref.pt (
  .ck _ <|
  .lt _ fun x1 =>
  .jn (fun u6=>⟨rJ a1,rI a0 a1,[],0⟩) (
   .ite _ (
    .lt _ fun x7 =>
    .call [] (nF _ _ _) fun r8 =>
    .call [] (nG _ _ _) fun r9 =>
    .ck _ <|
    .lt _ fun x10 =>
    .ite _ (
     .ret [] _) (
     .nil [0,1] _)) (
    .nil [0,1] _)) fun u6 =>
  .bk 0 (fun sD=>⟨rJ a1,rI a0 a1,[],0⟩) (
   .lp [0,1] (fun l6=>⟨rJ a1++[sI 7 l6],rI a0 a1,[],0⟩) fun l6 =>
   .lt _ fun x58 =>
   .ite _ (
    .bk 1 (fun u62=>⟨rJ a1++[sI 7 l6],rI a0 a1,[],0⟩) (
     .ex [2,4] <|
     .tx [] <|
     .iU [0,1,3,5,6] _ <|
     .lt _ fun x63 =>
     .eH 7 (default:Int) _ [] (nF K a0 x63) (fun _=>rfl) fun r64 =>
     .eH 8 (default:Int) _ [] (nG K a0 r64) (fun _=>rfl) fun r65 =>
     .ex [9] <|
     .ite _ (
      .ret [] _) (
      .nil [0,1] _)) fun u62 =>
    .nil [0,1] _) (
    .ret [0,1] _)) fun sD =>
  .lt _ fun x66 =>
  .call [] (rE _ _) fun nS =>
  .ite _ (
   .ret [] _) (
   .call [] (aRH _ _ _) fun r68 =>
   .ite _ (
    .ret [] _) (
    .call [] (aNw _ _ _) fun r69 =>
    .call [] (aBr _ _) fun r70 =>
    .call [] (rE _ _) fun r71 =>
    .uZ (default:(List Bytes)) _ (aFb K (gd a0.bM a1)) fun r72 =>
    .look (default:Bool) _ [] (rE K r72) (fun _=>rfl) fun r73 =>
    .bk 2 (fun aSd=>⟨rJ a1++[sB 9 aSd],rI a0 a1,[],0⟩) (
     .lp [0,1] (fun xZ=>⟨rJ a1++[sB 9 xZ.1,sI 10 xZ.2],rI a0 a1,[],0⟩) fun xZ =>
     .lt _ fun aZB =>
     .ite _ (
      .bk 3 (fun pS=>⟨rJ a1++[sB 9 pS,sI 10 xZ.2],rI a0 a1,[],0⟩) (
       .uZ (default:(List fE)) _ (aJQ K a0 (⟨a1,xZ.2⟩:dR)) fun aAQ =>
       .uZ (default:(List Bytes)) _ (aBr K aAQ) fun aDH =>
       .look (default:Bool) _ [] (rE K aDH) (fun _=>rfl) fun v7 =>
       .nil [0,1] _) fun pS =>
      .nil [0,1] _) (
      .ret [0,1] _)) fun aSd =>
    .ite _ (
     .ret [] _) (
     .call [] (aRI _ _ _) fun aZC =>
     .ite _ (
      .ret [] _) (
      .call [] (aRJ _ _ _) fun aNH =>
      .ite _ (
       .ret [] _) (
       .call [] (aSc _ _ _) fun aCr =>
       .ite _ (
        .ret [] _) (
        .bk 4 (fun aNA=>⟨[],[],[],0⟩) (
         .lp [0,1] (fun aAT=>⟨rJ a1++[sI 11 aAT],rI a0 a1,[],0⟩) fun aAT =>
         .lt _ fun aZD =>
         .ite _ (
          .bk 5 (fun aZF=>⟨rJ a1++[sI 11 aAT],rI a0 a1,[],0⟩) (
           .ck _ <|
           .lt _ fun aZE =>
           .ite _ (
            .ret [0,1] _) (
            .ex [1,2,3,4,6] <|
            .tx [] <|
            .iU [0,5,7,8,9] _ <|
            .lt _ fun aWf =>
            .eH 10 (default:Int) _ [] (aJ0 K a0 (⟨a1,aAT⟩:dR) aWf) (fun _=>rfl) fun aWg =>
            .ex [11] <|
            .ite _ (
             .ret [] _) (
             .nil [0,1] _))) fun aZF =>
          .nil [0,1] _) (
          .ret [] _)) fun aNA =>
        .ret [] _)))))))
def F77 (K:Nat) (a0:cM) (a1:Int):Option ((Int) ⊕ (Int)) :=
 (bW [!(!((decide ((a1:Int)<0)) || (decide ((a1:Int) ≥ (Int.ofNat a0.bM.length))))) || cY a1 a0.bM.length,!(!(((decide ((a1:Int)<0)) || (decide ((a1:Int) ≥ (Int.ofNat a0.bM.length)))) || (decide ((((a0.bM.getD (a1:Int).toNat default).bR):Int)<1)))) || cY a1 a0.bM.length] (bO ((((decide ((a1:Int)<0)) || (decide ((a1:Int) ≥ (Int.ofNat a0.bM.length)))) || (decide ((((a0.bM.getD (a1:Int).toNat default).bR):Int)<1))) || (decide ((((a0.bM.getD (a1:Int).toNat default).bR):Int) > 4))) (fun (x1:Bool)=>(if x1=true then (some (.inl (22))) else (bW [cY a1 a0.bM.length] ((cF (!(decide ((a1:Int) ≥ 12))) (bV (aNy K (a0.bM.getD (a1:Int).toNat default))) default).bind (fun r2=>(if ((decide ((a1:Int) ≥ 12)) || r2)=true then (some (.inl (5))) else (bO ((a0.bM.getD (a1:Int).toNat default).cD) (fun (x3:Bytes)=>((bV (F61 K a0 x3)).bind (fun r4=>(if (decide ((r4:Int)<a1))=true then (some (.inl (6))) else (bO ((a0.bM.getD (a1:Int).toNat default).bR) (fun (x5:Int)=>(bP (bN (if ((x5:Int) == 1)=true then ((bV (aNB K a0 (a0.bM.getD (a1:Int).toNat default))).bind (fun jL=>(some (.inl (Sum.inr (jL)))))) else (if ((x5:Int) == 2)=true then ((bV (aOw K a0 a1)).bind (fun r11=>(some (.inl (Sum.inr (r11)))))) else (if ((x5:Int) == 3)=true then ((bV (aNR K a0 a1)).bind (fun r12=>(some (.inl (Sum.inr (r12)))))) else (some (.inr ())))))) (fun (u9:Unit)=>((bV (aNT K a0 a1)).bind (fun r13=>(some (.inl (r13))))))))))))))))))))))
theorem aWh (K:Nat) (a0:cM) (a1:Int):bS Tryz.prog 77 [.agg (dP.cs a0),.c (.val (.int .i64 a1))] [] (bV (F77 K a0 a1)) (fun r=>.c (.val (.int .i64 r))) (fun r=>[]):=by
 refine bS.it Tryz.f77 (fun r=>⟨[sI 4 r],[],[],0⟩) ?_
 unfold F77
 exact Ref.pt (
  .ck _ <|
  .lt _ fun x1 =>
  .ite _ (
   .ret [] _) (
   .ck _ <|
   .look (default:Bool) _ [] (aRD K (gd a0.bM a1)) (fun _=>rfl) fun r2 =>
   .ite _ (
    .ret [] _) (
    .lt _ fun x3 =>
    .call [] (nF _ _ _) fun r4 =>
    .ite _ (
     .ret [] _) (
     .lt _ fun x5 =>
     .bk 0 (fun u9=>⟨[sI 1 a1,sP 2 0 0 0],[.cells (dP.cs a0)],[],0⟩) (
      .ite _ (
       .call [] (aRF _ _ _) fun jL =>
       .ret [] _) (
       .ite _ (
        .call [] (aSe _ _ _) fun r11 =>
        .ret [] _) (
        .ite _ (
         .call [] (aRU _ _ _) fun r12 =>
         .ret [] _) (
         .nil [0] _)))) fun u9 =>
     .call [] (aRV _ _ _) fun r13 =>
     .ret [] _))))
def F34 (K:Nat) (a0:cM):Option (((List uJ)) ⊕ ((List uJ))) :=
 (bP (bN ((iter K (fun (dZ:(List uJ) × Int)=>(bO (decide ((dZ.2:Int)<(Int.ofNat a0.bM.length))) (fun (kP:Bool)=>(if kP=true then (bP (bN ((bV (F77 K a0 dZ.2)).bind (fun r31=>(if ((r31:Int) != 0)=true then (bW [room ((dZ.1.length+([(⟨r31,dZ.2⟩:uJ)].length)) * 16)] (some (.inr ((dZ.1++[(⟨r31,dZ.2⟩:uJ)]))))) else (some (.inr (dZ.1))))))) (fun (eS:(List uJ))=>(some (.inr (eS,(IntKind.i64.wrap (dZ.2+1))))))) else (some (.inl (Sum.inl (dZ.1)))))))) ([],0)).map .inl)) (fun (u16:(List uJ))=>(some (.inl (u16)))))
theorem aWi (K:Nat) (a0:cM):bS Tryz.prog 34 [.agg (dP.cs a0)] [] (bV (F34 K a0)) (fun r=>.c (zW.tree r)) (fun r=>[]):=by
 refine bS.it Tryz.f34 (fun r=>⟨[(2,.c (zW.tree r))],[],[],0⟩) ?_
 unfold F34
 exact Ref.pt (
  .bk 0 (fun u16=>⟨[(3,.c (.own 0 u16.length))],[zW.row u16],[],0⟩) (
   .ad 2 0 3 zW.ty zW.w (zW.at []) <|
   .lp [0,1] (fun dZ=>⟨[sP 1 0 0 0,(3,.c (.own 1 dZ.1.length)),sI 4 dZ.2],[.cells (dP.cs a0),zW.row dZ.1],[],0⟩) fun dZ =>
   .lt _ fun kP =>
   .ite _ (
    .bk 1 (fun eS=>⟨[sP 1 0 0 0,(3,.c (.own 1 eS.length)),sI 4 dZ.2],[.cells (dP.cs a0),zW.row eS],[],0⟩) (
     .call [] (aWh _ _ _) fun r31 =>
     .ite _ (
      .ob 7 2 2 (El.cB zW [(⟨r31,dZ.2⟩:uJ)] rfl rfl) <|
      .ck _ <|
      .ap 7 1 3 23 zW dZ.1 [(⟨r31,dZ.2⟩:uJ)] <|
      .nil [0,3] _) (
      .nil [0,1] _)) fun eS =>
    .nil [0,1] _) (
    .ret [1] _)) fun u16 =>
  .fz 8 0 0 <|
  .ret [] _)
end Go.Proofs.YtdbfbedholdjaaaGreat
