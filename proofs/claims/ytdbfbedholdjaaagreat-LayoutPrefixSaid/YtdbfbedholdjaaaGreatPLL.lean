/- No conditions. -/
import Derived.Test.YtdbfbedholdjaaaGreatPLE
import Derived.Test.YtdbfbedholdjaaaGreatPDE
import Derived.Test.YtdbfbedholdjaaaGreatProg
set_option linter.unusedVariables false
set_option linter.unusedSimpArgs false
set_option linter.unusedSectionVars false
namespace Go.Proofs.YtdbfbedholdjaaaGreat
open Go Go.Proofs Go.Dl
variable [dW]
set_option maxRecDepth 100000
set_option maxHeartbeats 4000000
def aOS (K:Nat) (a0:cZ) (a1:Int):Option ((Bool) ⊕ (Bool)) :=
 ((bT (aL8 K a0 a1)).bind (fun r1=>(bL (bJ ((iter K (fun (fC:Int)=>(bN (decide ((fC:Int)<(Int.ofNat r1.length))) (fun (aUQ:Bool)=>(if aUQ=true then (bL (bJ (bW [cS fC r1.length] (bW [cS (r1.getD (fC:Int).toNat default) a0.bK.length] (bL (bJ ((iter K (fun (j0:Int)=>(bN (decide ((j0:Int)<(Int.ofNat ((a0.bK.getD ((r1.getD (fC:Int).toNat default):Int).toNat default).bM).length))) (fun (aOT:Bool)=>(if aOT=true then (bL (bJ (bW [cS j0 ((a0.bK.getD ((r1.getD (fC:Int).toNat default):Int).toNat default).bM).length] ((bT (aEN K a0 a1 ((((a0.bK.getD ((r1.getD (fC:Int).toNat default):Int).toNat default).bM).getD (j0:Int).toNat default).cC))).bind (fun gR=>(bW [!(!(!gR.2)) || cS j0 ((a0.bK.getD ((r1.getD (fC:Int).toNat default):Int).toNat default).bM).length] ((cH (!(!gR.2)) (bT (F63 K a0 gR.1)) default).bind (fun aI8=>((cH (!(!gR.2)) (bT (aG1 K aI8 (((a0.bK.getD ((r1.getD (fC:Int).toNat default):Int).toNat default).bM).getD (j0:Int).toNat default))) default).bind (fun aI9=>(if ((!gR.2) || (!aI9))=true then (some (.inl (Sum.inr (Sum.inr (Sum.inr (Sum.inr (false))))))) else (some (.inr ())))))))))))) (fun (aUR:Unit)=>(some (.inr ((IntKind.i64.wrap (j0+1))))))) else (some (.inl (Sum.inl ()))))))) (0)).map .inl)) (fun (aUS:Unit)=>(some (.inr ()))))))) (fun (aXJ:Unit)=>(some (.inr ((IntKind.i64.wrap (fC+1))))))) else (some (.inl (Sum.inl ()))))))) (0)).map .inl)) (fun (aXK:Unit)=>(some (.inl (true)))))))
abbrev j3 (v0:cZ) (v1:(List Int)) (v2:Int):List Go.Dl.Obj:=[.cells (dM.cs v0),jR.o (v0.bK.getD ((gd v1 v2):Int).toNat default)]
abbrev jL (v0:Int) (v1:(List Int)) (v2:Int):List (Nat × D):=[sI 1 v0,sP 2 0 0 0,(5,.c (E3.tree v1)),sI 6 v2,sP 7 1 0 0]
abbrev aD3 (v0:dR × Bool):List (Nat × D):=[(35,.iT [.agg (dO.cs v0.1),.c (bC v0.2)]),(45,.agg (dO.cs v0.1))]
theorem aRN (K:Nat) (a0:cZ) (a1:Int):bS Tryz.prog 152 [.agg (dM.cs a0),.c (.val (.int .i64 a1))] [] (bT (aOS K a0 a1)) (fun r=>.c (.val (.bool r))) (fun r=>[]):=by
 refine bS.it Tryz.f152 (fun r=>⟨[sB 4 r],[],[],0⟩) ?_
 unfold aOS
 exact Ref.pt (
  .call [] (aKh _ _ _) fun r1 =>
  .bk 0 (fun aXK=>⟨[],[],[],0⟩) (
   .lp [0] (fun fC=>⟨[sI 1 a1,sP 2 0 0 0,(5,.c (E3.tree r1)),sI 6 fC],[.cells (dM.cs a0)],[],0⟩) fun fC =>
   .lt _ fun aUQ =>
   .ite _ (
    .bk 1 (fun aXJ=>⟨[sI 1 a1,sP 2 0 0 0,(5,.c (E3.tree r1)),sI 6 fC],[.cells (dM.cs a0)],[],0⟩) (
     .esc [0] [(cd (bd Tryz.f152) [1,1,0,1,0,0,1,0,0,0]),(cd (bd Tryz.f152) [1,1,0,1,0,0,1,0,0,1])] ⟨[sI 1 a1,sP 2 0 0 0,(5,.c (E3.tree r1)),sI 6 fC,sB 17 aUQ],[.cells (dM.cs a0)],[],0⟩ (by
      refine Ref.eH 5 (by kernel_rfl) (by kernel_rfl) ?_
      refine dN.evC (vs:=[cS fC r1.length]) (cR:=⟨[sI 1 a1,sP 2 0 0 0,(5,.c (E3.tree r1)),sI 6 fC,sP 20 0 0 0,(24,.c (E3.ep (gd r1 fC) 0))],[.cells (dM.cs a0)],[],0⟩) (fuel':=6) [0,2,3,4] [1,2,5,6,20,24] [0] rfl (by kernel_rfl) (by kernel_rfl) ?_
      refine dN.qB [9] ?_
      refine bO.aBh (⟨jL a1 r1 fC,j3 a0 r1 fC,[],0⟩) ((bL (bJ ((iter K (fun (j0:Int)=>(bN (decide ((j0:Int)<(Int.ofNat ((a0.bK.getD ((gd r1 fC):Int).toNat default).bM).length))) (fun (aOT:Bool)=>(if aOT=true then (bL (bJ (bW [cS j0 ((a0.bK.getD ((gd r1 fC):Int).toNat default).bM).length] ((bT (aEN K a0 a1 ((((a0.bK.getD ((gd r1 fC):Int).toNat default).bM).getD (j0:Int).toNat default).cC))).bind (fun gR=>(bW [!(!(!gR.2)) || cS j0 ((a0.bK.getD ((gd r1 fC):Int).toNat default).bM).length] ((cH (!(!gR.2)) (bT (F63 K a0 gR.1)) default).bind (fun aI8=>((cH (!(!gR.2)) (bT (aG1 K aI8 (((a0.bK.getD ((gd r1 fC):Int).toNat default).bM).getD (j0:Int).toNat default))) default).bind (fun aI9=>(if ((!gR.2) || (!aI9))=true then (some (.inl (Sum.inr (Sum.inr (Sum.inr (Sum.inr (false))))))) else (some (.inr ())))))))))))) (fun (aUR:Unit)=>(some (.inr ((IntKind.i64.wrap (j0+1))))))) else (some (.inl (Sum.inl ()))))))) (0)).map .inl)) (fun (aUS:Unit)=>(some (.inr ()))))) ?_ (fun hk=>?_)
      ·
       exact Ref.pt (
        .bk 2 (fun aUS=>⟨[sI 1 a1,sP 2 0 0 0,(5,.c (E3.tree r1)),sI 6 fC],[.cells (dM.cs a0)],[],0⟩) (
         .lp [0,1] (fun j0=>⟨jL a1 r1 fC++[sI 8 j0],j3 a0 r1 fC,[],0⟩) fun j0 =>
         .lt _ fun aOT =>
         .ite _ (
          .bk 3 (fun aUR=>⟨jL a1 r1 fC++[sI 8 j0],j3 a0 r1 fC,[],0⟩) (
           .esc [0,1] [(cd (bd Tryz.f152) [1,1,0,1,0,0,1,0,0,1,1,0,0,1,0,0,0]),(cd (bd Tryz.f152) [1,1,0,1,0,0,1,0,0,1,1,0,0,1,0,0,1])] ⟨jL a1 r1 fC++[sI 8 j0,sB 32 aOT],j3 a0 r1 fC,[],0⟩ (by
            refine Ref.eH 9 (by kernel_rfl) (by kernel_rfl) ?_
            refine dN.eW (cR:=⟨jL a1 r1 fC++[sI 8 j0,sI 37 a1,sP 38 1 0 7,sI 40 j0],j3 a0 r1 fC,[],0⟩) (fuel':=12) [1,2,4] [1,2,5,6,7,8,37,38,40] [0,1] rfl (by kernel_rfl) (by kernel_rfl) ?_
            refine dN.qB [8,13] ?_
            refine bO.iA (fun (gR:dR × Bool)=>⟨jL a1 r1 fC++[sI 8 j0,sP 9 2 0 0,sB 10 gR.2],j3 a0 r1 fC++[.cells (dO.cs gR.1)],[],0⟩) (fun (gR:dR × Bool)=>(bW [!(!(!gR.2)) || cS j0 ((a0.bK.getD ((gd r1 fC):Int).toNat default).bM).length] ((cH (!(!gR.2)) (bT (F63 K a0 gR.1)) default).bind (fun aI8=>((cH (!(!gR.2)) (bT (aG1 K aI8 (((a0.bK.getD ((gd r1 fC):Int).toNat default).bM).getD (j0:Int).toNat default))) default).bind (fun aI9=>(if ((!gR.2) || (!aI9))=true then (some (.inl (Sum.inr (Sum.inr (Sum.inr (Sum.inr (false))))))) else (some (.inr ()))))))))) (fun gR=>?_) (fun hk=>?_)
            ·
             exact Ref.pt (
              .esc [0,1,2] [(cd (bd Tryz.f152) [1,1,0,1,0,0,1,0,0,1,1,0,0,1,0,0,1,0]),(cd (bd Tryz.f152) [1,1,0,1,0,0,1,0,0,1,1,0,0,1,0,0,1,1])] ⟨jL a1 r1 fC++[sI 8 j0,sP 9 2 0 0,sB 10 gR.2],j3 a0 r1 fC++[.cells (dO.cs gR.1)],[],0⟩ (by
               refine Ref.eH 10 (by kernel_rfl) (by kernel_rfl) ?_
               refine dN.eW (cR:=⟨jL a1 r1 fC++[sI 8 j0,sP 9 2 0 0,sB 49 (!gR.2),sP 53 1 0 7,sI 55 j0],j3 a0 r1 fC++[.cells (dO.cs gR.1)],[(55,[(49,false)]),(53,[(49,false)])],0⟩) (fuel':=9) [0,1,2,6,8] [1,2,5,6,7,8,9,49,53,55] [0,1,2] rfl (by kernel_rfl) (by kernel_rfl) ?_
               refine dN.qB [] ?_
               refine bO.evC (vs:=[!(!(!gR.2)) || cS j0 ((a0.bK.getD ((gd r1 fC):Int).toNat default).bM).length]) (cR:=⟨jL a1 r1 fC++[sI 8 j0,sB 49 (!gR.2),(50,.agg (dM.cs a0)),(51,.agg (dO.cs gR.1)),(57,.agg (kJ.cs (((a0.bK.getD ((gd r1 fC):Int).toNat default).bM).getD (j0:Int).toNat default)))],j3 a0 r1 fC,[(57,[(49,false)]),(51,[(49,false)]),(50,[(49,false)])],0⟩) (fuel':=4) [3,4,7,9,10] [1,2,5,6,7,8,49,50,51,57] [0,1] rfl (by kernel_rfl) (by kernel_rfl) ?_
               refine bO.aNN (t:=52) (g:=[(49,false)]) (b:=(!(!gR.2))) (fuel':=3) 5 (default:hU) rfl (by kernel_rfl) (by kernel_rfl) (bS.aKg (aDy K a0 gR.1) (fun _=>rfl)) (fun aI8=>?_)
               refine bO.lC (t:=58) (g:=[(49,false)]) (b:=(!(!gR.2))) (fuel':=2) 11 [] (default:Bool) rfl (by kernel_rfl) (by kernel_rfl) (aKj K aI8 (((a0.bK.getD ((gd r1 fC):Int).toNat default).bM).getD (j0:Int).toNat default)) (fun _=>rfl) (fun aI9=>?_)
               refine bO.eW (cR:=⟨jL a1 r1 fC++[sI 8 j0,sB 60 ((!gR.2) || (!aI9))],j3 a0 r1 fC,[],0⟩) (fuel':=0) [12,13] [1,2,5,6,7,8,60] [0,1] rfl (by kernel_rfl) (by kernel_rfl) ?_
               refine bO.done (by kernel_rfl) ?_
               exact Ref.pt (
                .ite _ (
                 .ret [] _) (
                 .nil [0,1] _))))
            ·
             refine bO.v1 (fuel':=7) [cS j0 ((a0.bK.getD ((gd r1 fC):Int).toNat default).bM).length] [0,3,5,6,7] [1,2,5,6,7,8,36,37,43] [0,1] ?_
             refine bO.kV (fuel':=6) 8 12 (by kernel_rfl) ?_ ?_
             ·
              refine cF.cG (t:=44) 8 [] rfl (by kernel_rfl) (pT K a0 a1 ((((a0.bK.getD ((gd r1 fC):Int).toNat default).bM).getD (j0:Int).toNat default).cC)) (fun gR=>?_)
              refine bO.eW (cR:=⟨jL a1 r1 fC++(sI 8 j0::aD3 gR),j3 a0 r1 fC,[],0⟩) (fuel':=4) [9,10] [1,2,5,6,7,8,35,45] [0,1] rfl (by kernel_rfl) (by kernel_rfl) ?_
              refine bO.iR (fuel':=3) [[],[(11,46)]] [(11,46)] [1,2,5,6,7,8,35,45] [0,1] ⟨jL a1 r1 fC++(sI 8 j0::(aD3 gR++[sB 46 gR.2])),j3 a0 r1 fC,[],0⟩ ?_
              refine cO.cM (fuel':=2) 12 ?_
              refine dB.iY (cR:=⟨jL a1 r1 fC++(sI 8 j0::sP 9 2 0 0::(aD3 gR++[sB 46 gR.2])),j3 a0 r1 fC++[.cells [iC 0,iC 0]],[],0⟩) 12 [1,2,5,6,7,8,9,35,45,46] [0,1,2] (by kernel_rfl) (by kernel_rfl) ?_
              refine cO.cM (fuel':=1) 13 ?_
              refine dB.gI (cR:=⟨jL a1 r1 fC++[sI 8 j0,sP 9 2 0 0,(35,.iT [.agg (dO.cs gR.1),.c (bC gR.2)]),sB 46 gR.2],j3 a0 r1 fC++[.cells (dO.cs gR.1)],[],0⟩) 13 [1,2,5,6,7,8,9,35,46] [0,1,2] (by kernel_rfl) (by kernel_rfl) ?_
              refine cO.close ?_
              refine bO.v0 (fuel':=0) [14] [1,2,5,6,7,8,9,10] [0,1,2] ?_
              refine bO.done (by kernel_rfl) ?_
              refine Ref.ck ⟨jL a1 r1 fC++[sI 8 j0,sP 9 2 0 0,sB 10 gR.2],j3 a0 r1 fC++[.cells (dO.cs gR.1)],[],0⟩ [1,2,5,6,7,8,9,10] [0,1,2] ?_
              exact hk gR
             ·
              refine cF.a0 12 [1,2,5,6,7,8,9,36,37,43] [0,1,2] ?_
              refine bO.cM (fuel':=5) 8 (by kernel_rfl) ?_
              refine cF.cG (t:=44) 8 [] rfl (by kernel_rfl) (pT K a0 a1 ((((a0.bK.getD ((gd r1 fC):Int).toNat default).bM).getD (j0:Int).toNat default).cC)) (fun gR=>?_)
              refine bO.eW (cR:=⟨jL a1 r1 fC++(sI 8 j0::sP 9 2 0 0::aD3 gR),j3 a0 r1 fC++[.cells [iC 0,iC 0]],[],0⟩) (fuel':=3) [9,10] [1,2,5,6,7,8,9,35,45] [0,1,2] rfl (by kernel_rfl) (by kernel_rfl) ?_
              refine bO.iR (fuel':=2) [[],[(11,46)]] [(11,46)] [1,2,5,6,7,8,9,35,45] [0,1,2] ⟨jL a1 r1 fC++(sI 8 j0::sP 9 2 0 0::(aD3 gR++[sB 46 gR.2])),j3 a0 r1 fC++[.cells [iC 0,iC 0]],[],0⟩ ?_
              refine cO.cM (fuel':=1) 13 ?_
              refine dB.gI (cR:=⟨jL a1 r1 fC++[sI 8 j0,sP 9 2 0 0,(35,.iT [.agg (dO.cs gR.1),.c (bC gR.2)]),sB 46 gR.2],j3 a0 r1 fC++[.cells (dO.cs gR.1)],[],0⟩) 13 [1,2,5,6,7,8,9,35,46] [0,1,2] (by kernel_rfl) (by kernel_rfl) ?_
              refine cO.close ?_
              refine bO.v0 (fuel':=0) [14] [1,2,5,6,7,8,9,10] [0,1,2] ?_
              refine bO.done (by kernel_rfl) ?_
              refine Ref.ck ⟨jL a1 r1 fC++[sI 8 j0,sP 9 2 0 0,sB 10 gR.2],j3 a0 r1 fC++[.cells (dO.cs gR.1)],[],0⟩ [1,2,5,6,7,8,9,10] [0,1,2] ?_
              exact hk gR)) fun aUR =>
          .nil [0,1] _) (
          .ret [0] _)) fun aUS =>
        .nil [0] _)
      ·
       refine bO.v1 (fuel':=2) [cS (gd r1 fC) a0.bK.length] [1,5,6,7] [1,2,5,6,27] [0] ?_
       refine bO.cM (fuel':=1) 8 (by kernel_rfl) ?_
       refine cF.iY (cR:=⟨jL a1 r1 fC++[(27,.agg (jR.cs (a0.bK.getD ((gd r1 fC):Int).toNat default)))],[.cells (dM.cs a0),oX3],[],0⟩) 8 [1,2,5,6,7,27] [0,1] (by kernel_rfl) (by kernel_rfl) ?_
       refine bO.qP [9] rfl (by kernel_rfl) ?_
       refine c6.en 0 1 ⟨jL a1 r1 fC,j3 a0 r1 fC,[],0⟩ [1,2,5,6,7] [0,1] ?_
       refine Ref.ck ⟨jL a1 r1 fC,j3 a0 r1 fC,[],0⟩ [1,2,5,6,7] [0,1] ?_
       exact hk)) fun aXJ =>
    .nil [0] _) (
    .ret [] _)) fun aXK =>
  .ret [] _)
end Go.Proofs.YtdbfbedholdjaaaGreat

namespace Go.Proofs.YtdbfbedholdjaaaGreat
open Go Go.Proofs Go.Dl
variable [dW]
set_option maxRecDepth 100000
set_option maxHeartbeats 4000000
def aOV (K:Nat) (a0:cZ) (a1:Int):Option ((Int) ⊕ (Int)) :=
 (bW [cS a1 a0.bK.length] (bN (!(((a0.bK.getD (a1:Int).toNat default).j6) == ([]:Bytes))) (fun (x1:Bool)=>(bL (if x1=true then (bN ((a0.bK.getD (a1:Int).toNat default).j6) (fun (x7:Bytes)=>((bT (F61 K a0 x7)).bind (fun r8=>((bT (F68 K a0 r8)).bind (fun r9=>(bW [!(!(((r9:Int) != 2) || (decide ((r8:Int) ≥ a1)))) || cS r8 a0.bK.length] (bN ((((r9:Int) != 2) || (decide ((r8:Int) ≥ a1))) || ((a0.bK.getD (r8:Int).toNat default).wE)) (fun (x10:Bool)=>(if x10=true then (some (.inl (7))) else (some (.inr ())))))))))))) else (some (.inr ()))) (fun (u6:Unit)=>(bL (bJ ((iter K (fun (gX:Int)=>(bN (decide ((gX:Int)<(Int.ofNat ((a0.bK.getD (a1:Int).toNat default).eB).length))) (fun (x58:Bool)=>(if x58=true then (bL (bJ (bW [cS gX ((a0.bK.getD (a1:Int).toNat default).eB).length] (bN (((a0.bK.getD (a1:Int).toNat default).eB).getD (gX:Int).toNat default) (fun (x63:Bytes)=>((cH true (bT (F61 K a0 x63)) default).bind (fun vC=>((cH true (bT (F68 K a0 vC)) default).bind (fun r65=>(if ((r65:Int) != 1)=true then (some (.inl (Sum.inr (Sum.inr (8))))) else (some (.inr ()))))))))))) (fun (u62:Unit)=>(some (.inr ((IntKind.i64.wrap (gX+1))))))) else (some (.inl (Sum.inl ()))))))) (0)).map .inl)) (fun (tA:Unit)=>(bN ((a0.bK.getD (a1:Int).toNat default).eB) (fun (x66:(List Bytes))=>((bT (aDz K x66)).bind (fun l9=>(if l9=true then (some (.inl (8))) else ((bT (aN0 K a0 (a0.bK.getD (a1:Int).toNat default))).bind (fun r68=>(if ((r68:Int) != 0)=true then (some (.inl (r68))) else ((bT (F70 K a0 a1)).bind (fun r69=>((bT (aG5 K r69)).bind (fun r70=>((bT (aDz K r70)).bind (fun r71=>((cH (!r71) (bT (aI0 K (a0.bK.getD (a1:Int).toNat default))) default).bind (fun r72=>((cH (!r71) (bT (aDz K r72)) default).bind (fun r73=>(bL (bJ ((iter K (fun (aAw:Bool × Int)=>(bN (decide ((aAw.2:Int)<(Int.ofNat ((a0.bK.getD (a1:Int).toNat default).bM).length))) (fun (aXM:Bool)=>(if aXM=true then (bL (bJ ((cH (!aAw.1) (bT (aL9 K a0 (⟨a1,aAw.2⟩:dR))) default).bind (fun kE=>((cH (!aAw.1) (bT (aG5 K kE)) default).bind (fun vD=>((cH (!aAw.1) (bT (aDz K vD)) default).bind (fun pE=>(some (.inr ((aAw.1 || pE))))))))))) (fun (s0:Bool)=>(some (.inr (s0,(IntKind.i64.wrap (aAw.2+1))))))) else (some (.inl (Sum.inl (aAw.1)))))))) ((r71 || r73),0)).map .inl)) (fun (aRO:Bool)=>(if aRO=true then (some (.inl (6))) else ((bT (aN2 K a0 a1)).bind (fun aXN=>(if aXN=true then (some (.inl (12))) else ((bT (aN3 K a0 a1)).bind (fun aN4=>(if aN4=true then (some (.inl (11))) else ((bT (aOS K a0 a1)).bind (fun aDN=>(if (!aDN)=true then (some (.inl (8))) else (bL (bJ ((iter K (fun (aCi:Int)=>(bN (decide ((aCi:Int)<(Int.ofNat ((a0.bK.getD (a1:Int).toNat default).bM).length))) (fun (aXO:Bool)=>(if aXO=true then (bL (bJ (bW [cS aCi ((a0.bK.getD (a1:Int).toNat default).bM).length] (bN ((((a0.bK.getD (a1:Int).toNat default).bM).getD (aCi:Int).toNat default).eV) (fun (aXP:Bool)=>(if aXP=true then (some (.inl (Sum.inl ()))) else (bW [cS aCi ((a0.bK.getD (a1:Int).toNat default).bM).length] (bN ((((a0.bK.getD (a1:Int).toNat default).bM).getD (aCi:Int).toNat default).uW) (fun (aUU:(List cJ))=>((cH true (bT (aMn K a0 (⟨a1,aCi⟩:dR) aUU)) default).bind (fun aUV=>(if ((aUV:Int) != 0)=true then (some (.inl (Sum.inr (Sum.inr (aUV))))) else (some (.inr ()))))))))))))) (fun (aXQ:Unit)=>(some (.inr ((IntKind.i64.wrap (aCi+1))))))) else (some (.inl (Sum.inl ()))))))) (0)).map .inl)) (fun (aNY:Unit)=>(some (.inl (0))))))))))))))))))))))))))))))))))))))))))
abbrev uI (v0:cZ) (v1:Int):List Go.Dl.Obj:=[.cells (dM.cs v0),jR.o (gd v0.bK v1)]
abbrev uJ (v0:Int):List (Nat × D):=[sI 1 v0,sP 2 0 0 0,sP 5 1 0 0]
theorem aRP (K:Nat) (a0:cZ) (a1:Int):bS Tryz.prog 118 [.agg (dM.cs a0),.c (.val (.int .i64 a1))] [] (bT (aOV K a0 a1)) (fun r=>.c (.val (.int .i64 r))) (fun r=>[]):=by
 refine bS.it Tryz.f118 (fun r=>⟨[sI 4 r],[],[],0⟩) ?_
 unfold aOV
 exact Ref.pt (
  .ck _ <|
  .lt _ fun x1 =>
  .jn (fun u6=>⟨uJ a1,uI a0 a1,[],0⟩) (
   .ite _ (
    .lt _ fun x7 =>
    .call [] (oY _ _ _) fun r8 =>
    .call [] (oZ _ _ _) fun r9 =>
    .ck _ <|
    .lt _ fun x10 =>
    .ite _ (
     .ret [] _) (
     .nil [0,1] _)) (
    .nil [0,1] _)) fun u6 =>
  .bk 0 (fun tA=>⟨uJ a1,uI a0 a1,[],0⟩) (
   .lp [0,1] (fun gX=>⟨uJ a1++[sI 7 gX],uI a0 a1,[],0⟩) fun gX =>
   .lt _ fun x58 =>
   .ite _ (
    .bk 1 (fun u62=>⟨uJ a1++[sI 7 gX],uI a0 a1,[],0⟩) (
     .ex [2,4] <|
     .tx [] <|
     .lT [0,1,3,5,6] _ <|
     .lt _ fun x63 =>
     .fF 7 (default:Int) _ [] (oY K a0 x63) (fun _=>rfl) fun vC =>
     .fF 8 (default:Int) _ [] (oZ K a0 vC) (fun _=>rfl) fun r65 =>
     .ex [9] <|
     .ite _ (
      .ret [] _) (
      .nil [0,1] _)) fun u62 =>
    .nil [0,1] _) (
    .ret [0,1] _)) fun tA =>
  .lt _ fun x66 =>
  .call [] (uD _ _) fun l9 =>
  .ite _ (
   .ret [] _) (
   .call [] (aRm _ _ _) fun r68 =>
   .ite _ (
    .ret [] _) (
    .call [] (aNU _ _ _) fun r69 =>
    .call [] (aCF _ _) fun r70 =>
    .call [] (uD _ _) fun r71 =>
    .yE (default:(List Bytes)) _ (aFZ K (gd a0.bK a1)) fun r72 =>
    .look (default:Bool) _ [] (uD K r72) (fun _=>rfl) fun r73 =>
    .bk 2 (fun aRO=>⟨uJ a1++[sB 9 aRO],uI a0 a1,[],0⟩) (
     .lp [0,1] (fun aAw=>⟨uJ a1++[sB 9 aAw.1,sI 10 aAw.2],uI a0 a1,[],0⟩) fun aAw =>
     .lt _ fun aXM =>
     .ite _ (
      .bk 3 (fun s0=>⟨uJ a1++[sB 9 s0,sI 10 aAw.2],uI a0 a1,[],0⟩) (
       .yE (default:(List fE)) _ (aKl K a0 (⟨a1,aAw.2⟩:dR)) fun kE =>
       .yE (default:(List Bytes)) _ (aCF K kE) fun vD =>
       .look (default:Bool) _ [] (uD K vD) (fun _=>rfl) fun pE =>
       .nil [0,1] _) fun s0 =>
      .nil [0,1] _) (
      .ret [0,1] _)) fun aRO =>
    .ite _ (
     .ret [] _) (
     .call [] (aRo _ _ _) fun aXN =>
     .ite _ (
      .ret [] _) (
      .call [] (aRp _ _ _) fun aN4 =>
      .ite _ (
       .ret [] _) (
       .call [] (aRN _ _ _) fun aDN =>
       .ite _ (
        .ret [] _) (
        .bk 4 (fun aNY=>⟨[],[],[],0⟩) (
         .lp [0,1] (fun aCi=>⟨uJ a1++[sI 11 aCi],uI a0 a1,[],0⟩) fun aCi =>
         .lt _ fun aXO =>
         .ite _ (
          .bk 5 (fun aXQ=>⟨uJ a1++[sI 11 aCi],uI a0 a1,[],0⟩) (
           .ck _ <|
           .lt _ fun aXP =>
           .ite _ (
            .ret [0,1] _) (
            .ex [1,2,3,4,6] <|
            .tx [] <|
            .lT [0,5,7,8,9] _ <|
            .lt _ fun aUU =>
            .fF 10 (default:Int) _ [] (aKF K a0 (⟨a1,aCi⟩:dR) aUU) (fun _=>rfl) fun aUV =>
            .ex [11] <|
            .ite _ (
             .ret [] _) (
             .nil [0,1] _))) fun aXQ =>
          .nil [0,1] _) (
          .ret [] _)) fun aNY =>
        .ret [] _)))))))
def F77 (K:Nat) (a0:cZ) (a1:Int):Option ((Int) ⊕ (Int)) :=
 (bW [!(!((decide ((a1:Int)<0)) || (decide ((a1:Int) ≥ (Int.ofNat a0.bK.length))))) || cS a1 a0.bK.length,!(!(((decide ((a1:Int)<0)) || (decide ((a1:Int) ≥ (Int.ofNat a0.bK.length)))) || (decide ((((a0.bK.getD (a1:Int).toNat default).bP):Int)<1)))) || cS a1 a0.bK.length] (bN ((((decide ((a1:Int)<0)) || (decide ((a1:Int) ≥ (Int.ofNat a0.bK.length)))) || (decide ((((a0.bK.getD (a1:Int).toNat default).bP):Int)<1))) || (decide ((((a0.bK.getD (a1:Int).toNat default).bP):Int) > 4))) (fun (x1:Bool)=>(if x1=true then (some (.inl (22))) else (bW [cS a1 a0.bK.length] ((cH (!(decide ((a1:Int) ≥ 12))) (bT (aNW K (a0.bK.getD (a1:Int).toNat default))) default).bind (fun r2=>(if ((decide ((a1:Int) ≥ 12)) || r2)=true then (some (.inl (5))) else (bN ((a0.bK.getD (a1:Int).toNat default).cC) (fun (x3:Bytes)=>((bT (F61 K a0 x3)).bind (fun r4=>(if (decide ((r4:Int)<a1))=true then (some (.inl (6))) else (bN ((a0.bK.getD (a1:Int).toNat default).bP) (fun (x5:Int)=>(bL (bJ (if ((x5:Int) == 1)=true then ((bT (aNZ K a0 (a0.bK.getD (a1:Int).toNat default))).bind (fun jY=>(some (.inl (Sum.inr (jY)))))) else (if ((x5:Int) == 2)=true then ((bT (aOV K a0 a1)).bind (fun r11=>(some (.inl (Sum.inr (r11)))))) else (if ((x5:Int) == 3)=true then ((bT (aOe K a0 a1)).bind (fun r12=>(some (.inl (Sum.inr (r12)))))) else (some (.inr ())))))) (fun (u9:Unit)=>((bT (aOg K a0 a1)).bind (fun r13=>(some (.inl (r13))))))))))))))))))))))
theorem aUW (K:Nat) (a0:cZ) (a1:Int):bS Tryz.prog 77 [.agg (dM.cs a0),.c (.val (.int .i64 a1))] [] (bT (F77 K a0 a1)) (fun r=>.c (.val (.int .i64 r))) (fun r=>[]):=by
 refine bS.it Tryz.f77 (fun r=>⟨[sI 4 r],[],[],0⟩) ?_
 unfold F77
 exact Ref.pt (
  .ck _ <|
  .lt _ fun x1 =>
  .ite _ (
   .ret [] _) (
   .ck _ <|
   .look (default:Bool) _ [] (aRj K (gd a0.bK a1)) (fun _=>rfl) fun r2 =>
   .ite _ (
    .ret [] _) (
    .lt _ fun x3 =>
    .call [] (oY _ _ _) fun r4 =>
    .ite _ (
     .ret [] _) (
     .lt _ fun x5 =>
     .bk 0 (fun u9=>⟨[sI 1 a1,sP 2 0 0 0],[.cells (dM.cs a0)],[],0⟩) (
      .ite _ (
       .call [] (aRl _ _ _) fun jY =>
       .ret [] _) (
       .ite _ (
        .call [] (aRP _ _ _) fun r11 =>
        .ret [] _) (
        .ite _ (
         .call [] (aRy _ _ _) fun r12 =>
         .ret [] _) (
         .nil [0] _)))) fun u9 =>
     .call [] (aRz _ _ _) fun r13 =>
     .ret [] _))))
def F34 (K:Nat) (a0:cZ):Option (((List nV)) ⊕ ((List nV))) :=
 (bL (bJ ((iter K (fun (dU:(List nV) × Int)=>(bN (decide ((dU.2:Int)<(Int.ofNat a0.bK.length))) (fun (l4:Bool)=>(if l4=true then (bL (bJ ((bT (F77 K a0 dU.2)).bind (fun xF=>(if ((xF:Int) != 0)=true then (bW [room ((dU.1.length+([(⟨xF,dU.2⟩:nV)].length)) * 16)] (some (.inr ((dU.1++[(⟨xF,dU.2⟩:nV)]))))) else (some (.inr (dU.1))))))) (fun (eY:(List nV))=>(some (.inr (eY,(IntKind.i64.wrap (dU.2+1))))))) else (some (.inl (Sum.inl (dU.1)))))))) ([],0)).map .inl)) (fun (u16:(List nV))=>(some (.inl (u16)))))
theorem aUX (K:Nat) (a0:cZ):bS Tryz.prog 34 [.agg (dM.cs a0)] [] (bT (F34 K a0)) (fun r=>.c (tB.tree r)) (fun r=>[]):=by
 refine bS.it Tryz.f34 (fun r=>⟨[(2,.c (tB.tree r))],[],[],0⟩) ?_
 unfold F34
 exact Ref.pt (
  .bk 0 (fun u16=>⟨[(3,.c (.own 0 u16.length))],[tB.row u16],[],0⟩) (
   .ad 2 0 3 tB.ty tB.w (tB.at []) <|
   .lp [0,1] (fun dU=>⟨[sP 1 0 0 0,(3,.c (.own 1 dU.1.length)),sI 4 dU.2],[.cells (dM.cs a0),tB.row dU.1],[],0⟩) fun dU =>
   .lt _ fun l4 =>
   .ite _ (
    .bk 1 (fun eY=>⟨[sP 1 0 0 0,(3,.c (.own 1 eY.length)),sI 4 dU.2],[.cells (dM.cs a0),tB.row eY],[],0⟩) (
     .call [] (aUW _ _ _) fun xF =>
     .ite _ (
      .ob 7 2 2 (x:=.row 73 2 1 (gY [[iC xF,iC dU.2]])) (y:=(tB.row [(⟨xF,dU.2⟩:nV)])) (El.bZ tB [(⟨xF,dU.2⟩:nV)] rfl (by kernel_rfl)) <|
      .sl 7 2 22 (x:=.c (.own 2 1)) (y:=(.c (.own 2 ([(⟨xF,dU.2⟩:nV)].length)))) (eA.c (dY.own (by first | (simp;done) | (simp;omega) | omega))) <|
      .ck _ <|
      .ob 7 1 3 (x:=.row 73 2 (dU.1.length+([(⟨xF,dU.2⟩:nV)].length)) fun i j=>bif Nat.blt i dU.1.length then tB.at dU.1 i j else (tB.at [(⟨xF,dU.2⟩:nV)]) (i - dU.1.length) j) (y:=(tB.row (dU.1++[(⟨xF,dU.2⟩:nV)]))) (El.cI tB dU.1 [(⟨xF,dU.2⟩:nV)] rfl rfl) <|
      .sl 7 1 23 (x:=.c (.own 3 (dU.1.length+([(⟨xF,dU.2⟩:nV)].length)))) (y:=(.c (.own 3 ((dU.1++[(⟨xF,dU.2⟩:nV)]).length)))) (eA.c (dY.own (by first | (simp;done) | (simp;omega) | omega))) <|
      .nil [0,3] _) (
      .nil [0,1] _)) fun eY =>
    .nil [0,1] _) (
    .ret [1] _)) fun u16 =>
  .fz 8 0 0 <|
  .ret [] _)
end Go.Proofs.YtdbfbedholdjaaaGreat
