/- No conditions. -/
import Derived.Test.YtdbfbedholdjaaaGreatLE
import Derived.Test.YtdbfbedholdjaaaGreatDE
import Derived.Test.YtdbfbedholdjaaaGreatProg
set_option linter.unusedVariables false
set_option linter.unusedSimpArgs false
set_option linter.unusedSectionVars false
namespace Go.Proofs.YtdbfbedholdjaaaGreat
open Go Go.Proofs Go.Dl
variable [eC]
set_option maxRecDepth 100000
set_option maxHeartbeats 4000000
def aOC (K:Nat) (a0:dD) (a1:Int):Option ((Bool) ⊕ (Bool)) :=
 ((bU (aLT K a0 a1)).bind (fun r1=>(bM (bL ((iter K (fun (fF:Int)=>(bO (decide ((fF:Int)<(Int.ofNat r1.length))) (fun (aUz:Bool)=>(if aUz=true then (bM (bL (bW [cS fF r1.length] (bW [cS (r1.getD (fF:Int).toNat default) a0.bK.length] (bM (bL ((iter K (fun (j3:Int)=>(bO (decide ((j3:Int)<(Int.ofNat ((a0.bK.getD ((r1.getD (fF:Int).toNat default):Int).toNat default).bN).length))) (fun (aOD:Bool)=>(if aOD=true then (bM (bL (bW [cS j3 ((a0.bK.getD ((r1.getD (fF:Int).toNat default):Int).toNat default).bN).length] ((bU (aEF K a0 a1 ((((a0.bK.getD ((r1.getD (fF:Int).toNat default):Int).toNat default).bN).getD (j3:Int).toNat default).cG))).bind (fun gU=>(bW [!(!(!gU.2)) || cS j3 ((a0.bK.getD ((r1.getD (fF:Int).toNat default):Int).toNat default).bN).length] ((cK (!(!gU.2)) (bU (F63 K a0 gU.1)) default).bind (fun aI0=>((cK (!(!gU.2)) (bU (aGS K aI0 (((a0.bK.getD ((r1.getD (fF:Int).toNat default):Int).toNat default).bN).getD (j3:Int).toNat default))) default).bind (fun aI1=>(if ((!gU.2) || (!aI1))=true then (some (.inl (Sum.inr (Sum.inr (Sum.inr (Sum.inr (false))))))) else (some (.inr ())))))))))))) (fun (aUA:Unit)=>(some (.inr ((IntKind.i64.wrap (j3+1))))))) else (some (.inl (Sum.inl ()))))))) (0)).map .inl)) (fun (aUB:Unit)=>(some (.inr ()))))))) (fun (aXm:Unit)=>(some (.inr ((IntKind.i64.wrap (fF+1))))))) else (some (.inl (Sum.inl ()))))))) (0)).map .inl)) (fun (aXn:Unit)=>(some (.inl (true)))))))
abbrev j4 (v0:dD) (v1:(List Int)) (v2:Int):List Go.Dl.Obj:=[.cells (dQ.cs v0),iY.o (v0.bK.getD ((gd v1 v2):Int).toNat default)]
abbrev jM (v0:Int) (v1:(List Int)) (v2:Int):List (Nat × D):=[sI 1 v0,sP 2 0 0 0,(5,.c (E3.tree v1)),sI 6 v2,sP 7 1 0 0]
abbrev aDT (v0:dX × Bool):List (Nat × D):=[(35,.iV [.agg (dS.cs v0.1),.c (bC v0.2)]),(45,.agg (dS.cs v0.1))]
theorem aRq (K:Nat) (a0:dD) (a1:Int):bR Tryz.prog 152 [.agg (dQ.cs a0),.c (.val (.int .i64 a1))] [] (bU (aOC K a0 a1)) (fun r=>.c (.val (.bool r))) (fun r=>[]):=by
 refine bR.it Tryz.f152 (fun r=>⟨[sB 4 r],[],[],0⟩) ?_
 unfold aOC
 exact Ref.pt (
  .call [] (aJ7 _ _ _) fun r1 =>
  .bk 0 (fun aXn=>⟨[],[],[],0⟩) (
   .lp [0] (fun fF=>⟨[sI 1 a1,sP 2 0 0 0,(5,.c (E3.tree r1)),sI 6 fF],[.cells (dQ.cs a0)],[],0⟩) fun fF =>
   .lt _ fun aUz =>
   .ite _ (
    .bk 1 (fun aXm=>⟨[sI 1 a1,sP 2 0 0 0,(5,.c (E3.tree r1)),sI 6 fF],[.cells (dQ.cs a0)],[],0⟩) (
     .esc [0] [(cd (bd Tryz.f152) [1,1,0,1,0,0,1,0,0,0]),(cd (bd Tryz.f152) [1,1,0,1,0,0,1,0,0,1])] ⟨[sI 1 a1,sP 2 0 0 0,(5,.c (E3.tree r1)),sI 6 fF,sB 17 aUz],[.cells (dQ.cs a0)],[],0⟩ (by
      refine Ref.eR 5 (by kernel_rfl) (by kernel_rfl) ?_
      refine dV.evC (vs:=[cS fF r1.length]) (cR:=⟨[sI 1 a1,sP 2 0 0 0,(5,.c (E3.tree r1)),sI 6 fF,sP 20 0 0 0,(24,.c (E3.ep (gd r1 fF) 0))],[.cells (dQ.cs a0)],[],0⟩) (fuel':=6) [0,2,3,4] [1,2,5,6,20,24] [0] rfl (by kernel_rfl) (by kernel_rfl) ?_
      refine dV.rG [9] ?_
      refine bQ.aC9 (⟨jM a1 r1 fF,j4 a0 r1 fF,[],0⟩) ((bM (bL ((iter K (fun (j3:Int)=>(bO (decide ((j3:Int)<(Int.ofNat ((a0.bK.getD ((gd r1 fF):Int).toNat default).bN).length))) (fun (aOD:Bool)=>(if aOD=true then (bM (bL (bW [cS j3 ((a0.bK.getD ((gd r1 fF):Int).toNat default).bN).length] ((bU (aEF K a0 a1 ((((a0.bK.getD ((gd r1 fF):Int).toNat default).bN).getD (j3:Int).toNat default).cG))).bind (fun gU=>(bW [!(!(!gU.2)) || cS j3 ((a0.bK.getD ((gd r1 fF):Int).toNat default).bN).length] ((cK (!(!gU.2)) (bU (F63 K a0 gU.1)) default).bind (fun aI0=>((cK (!(!gU.2)) (bU (aGS K aI0 (((a0.bK.getD ((gd r1 fF):Int).toNat default).bN).getD (j3:Int).toNat default))) default).bind (fun aI1=>(if ((!gU.2) || (!aI1))=true then (some (.inl (Sum.inr (Sum.inr (Sum.inr (Sum.inr (false))))))) else (some (.inr ())))))))))))) (fun (aUA:Unit)=>(some (.inr ((IntKind.i64.wrap (j3+1))))))) else (some (.inl (Sum.inl ()))))))) (0)).map .inl)) (fun (aUB:Unit)=>(some (.inr ()))))) ?_ (fun hk=>?_)
      ·
       exact Ref.pt (
        .bk 2 (fun aUB=>⟨[sI 1 a1,sP 2 0 0 0,(5,.c (E3.tree r1)),sI 6 fF],[.cells (dQ.cs a0)],[],0⟩) (
         .lp [0,1] (fun j3=>⟨jM a1 r1 fF++[sI 8 j3],j4 a0 r1 fF,[],0⟩) fun j3 =>
         .lt _ fun aOD =>
         .ite _ (
          .bk 3 (fun aUA=>⟨jM a1 r1 fF++[sI 8 j3],j4 a0 r1 fF,[],0⟩) (
           .esc [0,1] [(cd (bd Tryz.f152) [1,1,0,1,0,0,1,0,0,1,1,0,0,1,0,0,0]),(cd (bd Tryz.f152) [1,1,0,1,0,0,1,0,0,1,1,0,0,1,0,0,1])] ⟨jM a1 r1 fF++[sI 8 j3,sB 32 aOD],j4 a0 r1 fF,[],0⟩ (by
            refine Ref.eR 9 (by kernel_rfl) (by kernel_rfl) ?_
            refine dV.fE (cR:=⟨jM a1 r1 fF++[sI 8 j3,sI 37 a1,sP 38 1 0 7,sI 40 j3],j4 a0 r1 fF,[],0⟩) (fuel':=12) [1,2,4] [1,2,5,6,7,8,37,38,40] [0,1] rfl (by kernel_rfl) (by kernel_rfl) ?_
            refine dV.rG [8,13] ?_
            refine bQ.iD (fun (gU:dX × Bool)=>⟨jM a1 r1 fF++[sI 8 j3,sP 9 2 0 0,sB 10 gU.2],j4 a0 r1 fF++[.cells (dS.cs gU.1)],[],0⟩) (fun (gU:dX × Bool)=>(bW [!(!(!gU.2)) || cS j3 ((a0.bK.getD ((gd r1 fF):Int).toNat default).bN).length] ((cK (!(!gU.2)) (bU (F63 K a0 gU.1)) default).bind (fun aI0=>((cK (!(!gU.2)) (bU (aGS K aI0 (((a0.bK.getD ((gd r1 fF):Int).toNat default).bN).getD (j3:Int).toNat default))) default).bind (fun aI1=>(if ((!gU.2) || (!aI1))=true then (some (.inl (Sum.inr (Sum.inr (Sum.inr (Sum.inr (false))))))) else (some (.inr ()))))))))) (fun gU=>?_) (fun hk=>?_)
            ·
             exact Ref.pt (
              .esc [0,1,2] [(cd (bd Tryz.f152) [1,1,0,1,0,0,1,0,0,1,1,0,0,1,0,0,1,0]),(cd (bd Tryz.f152) [1,1,0,1,0,0,1,0,0,1,1,0,0,1,0,0,1,1])] ⟨jM a1 r1 fF++[sI 8 j3,sP 9 2 0 0,sB 10 gU.2],j4 a0 r1 fF++[.cells (dS.cs gU.1)],[],0⟩ (by
               refine Ref.eR 10 (by kernel_rfl) (by kernel_rfl) ?_
               refine dV.fE (cR:=⟨jM a1 r1 fF++[sI 8 j3,sP 9 2 0 0,sB 49 (!gU.2),sP 53 1 0 7,sI 55 j3],j4 a0 r1 fF++[.cells (dS.cs gU.1)],[(55,[(49,false)]),(53,[(49,false)])],0⟩) (fuel':=9) [0,1,2,6,8] [1,2,5,6,7,8,9,49,53,55] [0,1,2] rfl (by kernel_rfl) (by kernel_rfl) ?_
               refine dV.rG [] ?_
               refine bQ.evC (vs:=[!(!(!gU.2)) || cS j3 ((a0.bK.getD ((gd r1 fF):Int).toNat default).bN).length]) (cR:=⟨jM a1 r1 fF++[sI 8 j3,sB 49 (!gU.2),(50,.agg (dQ.cs a0)),(51,.agg (dS.cs gU.1)),(57,.agg (kT.cs (((a0.bK.getD ((gd r1 fF):Int).toNat default).bN).getD (j3:Int).toNat default)))],j4 a0 r1 fF,[(57,[(49,false)]),(51,[(49,false)]),(50,[(49,false)])],0⟩) (fuel':=4) [3,4,7,9,10] [1,2,5,6,7,8,49,50,51,57] [0,1] rfl (by kernel_rfl) (by kernel_rfl) ?_
               refine bQ.aNx (t:=52) (g:=[(49,false)]) (b:=(!(!gU.2))) (fuel':=3) 5 (default:iI) rfl (by kernel_rfl) (by kernel_rfl) (bR.aJ6 (aDp K a0 gU.1) (fun _=>rfl)) (fun aI0=>?_)
               refine bQ.lV (t:=58) (g:=[(49,false)]) (b:=(!(!gU.2))) (fuel':=2) 11 [] (default:Bool) rfl (by kernel_rfl) (by kernel_rfl) (aJ9 K aI0 (((a0.bK.getD ((gd r1 fF):Int).toNat default).bN).getD (j3:Int).toNat default)) (fun _=>rfl) (fun aI1=>?_)
               refine bQ.fE (cR:=⟨jM a1 r1 fF++[sI 8 j3,sB 60 ((!gU.2) || (!aI1))],j4 a0 r1 fF,[],0⟩) (fuel':=0) [12,13] [1,2,5,6,7,8,60] [0,1] rfl (by kernel_rfl) (by kernel_rfl) ?_
               refine bQ.done (by kernel_rfl) ?_
               exact Ref.pt (
                .ite _ (
                 .ret [] _) (
                 .nil [0,1] _))))
            ·
             refine bQ.v1 (fuel':=7) [cS j3 ((a0.bK.getD ((gd r1 fF):Int).toNat default).bN).length] [0,3,5,6,7] [1,2,5,6,7,8,36,37,43] [0,1] ?_
             refine bQ.lW (fuel':=6) 8 12 (by kernel_rfl) ?_ ?_
             ·
              refine cE.cF (t:=44) 8 [] rfl (by kernel_rfl) (pU K a0 a1 ((((a0.bK.getD ((gd r1 fF):Int).toNat default).bN).getD (j3:Int).toNat default).cG)) (fun gU=>?_)
              refine bQ.fE (cR:=⟨jM a1 r1 fF++(sI 8 j3::aDT gU),j4 a0 r1 fF,[],0⟩) (fuel':=4) [9,10] [1,2,5,6,7,8,35,45] [0,1] rfl (by kernel_rfl) (by kernel_rfl) ?_
              refine bQ.iT (fuel':=3) [[],[(11,46)]] [(11,46)] [1,2,5,6,7,8,35,45] [0,1] ⟨jM a1 r1 fF++(sI 8 j3::(aDT gU++[sB 46 gU.2])),j4 a0 r1 fF,[],0⟩ ?_
              refine cQ.cP (fuel':=2) 12 ?_
              refine dP.kC (cR:=⟨jM a1 r1 fF++(sI 8 j3::sP 9 2 0 0::(aDT gU++[sB 46 gU.2])),j4 a0 r1 fF++[.cells [iC 0,iC 0]],[],0⟩) 12 [1,2,5,6,7,8,9,35,45,46] [0,1,2] (by kernel_rfl) (by kernel_rfl) ?_
              refine cQ.cP (fuel':=1) 13 ?_
              refine dP.iA (cR:=⟨jM a1 r1 fF++[sI 8 j3,sP 9 2 0 0,(35,.iV [.agg (dS.cs gU.1),.c (bC gU.2)]),sB 46 gU.2],j4 a0 r1 fF++[.cells (dS.cs gU.1)],[],0⟩) 13 [1,2,5,6,7,8,9,35,46] [0,1,2] (by kernel_rfl) (by kernel_rfl) ?_
              refine cQ.close ?_
              refine bQ.v0 (fuel':=0) [14] [1,2,5,6,7,8,9,10] [0,1,2] ?_
              refine bQ.done (by kernel_rfl) ?_
              refine Ref.ck ⟨jM a1 r1 fF++[sI 8 j3,sP 9 2 0 0,sB 10 gU.2],j4 a0 r1 fF++[.cells (dS.cs gU.1)],[],0⟩ [1,2,5,6,7,8,9,10] [0,1,2] ?_
              exact hk gU
             ·
              refine cE.a0 12 [1,2,5,6,7,8,9,36,37,43] [0,1,2] ?_
              refine bQ.cP (fuel':=5) 8 (by kernel_rfl) ?_
              refine cE.cF (t:=44) 8 [] rfl (by kernel_rfl) (pU K a0 a1 ((((a0.bK.getD ((gd r1 fF):Int).toNat default).bN).getD (j3:Int).toNat default).cG)) (fun gU=>?_)
              refine bQ.fE (cR:=⟨jM a1 r1 fF++(sI 8 j3::sP 9 2 0 0::aDT gU),j4 a0 r1 fF++[.cells [iC 0,iC 0]],[],0⟩) (fuel':=3) [9,10] [1,2,5,6,7,8,9,35,45] [0,1,2] rfl (by kernel_rfl) (by kernel_rfl) ?_
              refine bQ.iT (fuel':=2) [[],[(11,46)]] [(11,46)] [1,2,5,6,7,8,9,35,45] [0,1,2] ⟨jM a1 r1 fF++(sI 8 j3::sP 9 2 0 0::(aDT gU++[sB 46 gU.2])),j4 a0 r1 fF++[.cells [iC 0,iC 0]],[],0⟩ ?_
              refine cQ.cP (fuel':=1) 13 ?_
              refine dP.iA (cR:=⟨jM a1 r1 fF++[sI 8 j3,sP 9 2 0 0,(35,.iV [.agg (dS.cs gU.1),.c (bC gU.2)]),sB 46 gU.2],j4 a0 r1 fF++[.cells (dS.cs gU.1)],[],0⟩) 13 [1,2,5,6,7,8,9,35,46] [0,1,2] (by kernel_rfl) (by kernel_rfl) ?_
              refine cQ.close ?_
              refine bQ.v0 (fuel':=0) [14] [1,2,5,6,7,8,9,10] [0,1,2] ?_
              refine bQ.done (by kernel_rfl) ?_
              refine Ref.ck ⟨jM a1 r1 fF++[sI 8 j3,sP 9 2 0 0,sB 10 gU.2],j4 a0 r1 fF++[.cells (dS.cs gU.1)],[],0⟩ [1,2,5,6,7,8,9,10] [0,1,2] ?_
              exact hk gU)) fun aUA =>
          .nil [0,1] _) (
          .ret [0] _)) fun aUB =>
        .nil [0] _)
      ·
       refine bQ.v1 (fuel':=2) [cS (gd r1 fF) a0.bK.length] [1,5,6,7] [1,2,5,6,27] [0] ?_
       refine bQ.cP (fuel':=1) 8 (by kernel_rfl) ?_
       refine cE.kC (cR:=⟨jM a1 r1 fF++[(27,.agg (iY.cs (a0.bK.getD ((gd r1 fF):Int).toNat default)))],[.cells (dQ.cs a0),oX3],[],0⟩) 8 [1,2,5,6,7,27] [0,1] (by kernel_rfl) (by kernel_rfl) ?_
       refine bQ.qM [9] rfl (by kernel_rfl) ?_
       refine cY.en 0 1 ⟨jM a1 r1 fF,j4 a0 r1 fF,[],0⟩ [1,2,5,6,7] [0,1] ?_
       refine Ref.ck ⟨jM a1 r1 fF,j4 a0 r1 fF,[],0⟩ [1,2,5,6,7] [0,1] ?_
       exact hk)) fun aXm =>
    .nil [0] _) (
    .ret [] _)) fun aXn =>
  .ret [] _)
end Go.Proofs.YtdbfbedholdjaaaGreat

namespace Go.Proofs.YtdbfbedholdjaaaGreat
open Go Go.Proofs Go.Dl
variable [eC]
set_option maxRecDepth 100000
set_option maxHeartbeats 4000000
def aOF (K:Nat) (a0:dD) (a1:Int):Option ((Int) ⊕ (Int)) :=
 (bW [cS a1 a0.bK.length] (bO (!(((a0.bK.getD (a1:Int).toNat default).lE) == ([]:Bytes))) (fun (x1:Bool)=>(bM (if x1=true then (bO ((a0.bK.getD (a1:Int).toNat default).lE) (fun (x7:Bytes)=>((bU (F61 K a0 x7)).bind (fun r8=>((bU (F68 K a0 r8)).bind (fun r9=>(bW [!(!(((r9:Int) != 2) || (decide ((r8:Int) ≥ a1)))) || cS r8 a0.bK.length] (bO ((((r9:Int) != 2) || (decide ((r8:Int) ≥ a1))) || ((a0.bK.getD (r8:Int).toNat default).wD)) (fun (x10:Bool)=>(if x10=true then (some (.inl (7))) else (some (.inr ())))))))))))) else (some (.inr ()))) (fun (u6:Unit)=>(bM (bL ((iter K (fun (gZ:Int)=>(bO (decide ((gZ:Int)<(Int.ofNat ((a0.bK.getD (a1:Int).toNat default).dZ).length))) (fun (x58:Bool)=>(if x58=true then (bM (bL (bW [cS gZ ((a0.bK.getD (a1:Int).toNat default).dZ).length] (bO (((a0.bK.getD (a1:Int).toNat default).dZ).getD (gZ:Int).toNat default) (fun (x63:Bytes)=>((cK true (bU (F61 K a0 x63)) default).bind (fun vB=>((cK true (bU (F68 K a0 vB)) default).bind (fun r65=>(if ((r65:Int) != 1)=true then (some (.inl (Sum.inr (Sum.inr (8))))) else (some (.inr ()))))))))))) (fun (u62:Unit)=>(some (.inr ((IntKind.i64.wrap (gZ+1))))))) else (some (.inl (Sum.inl ()))))))) (0)).map .inl)) (fun (s9:Unit)=>(bO ((a0.bK.getD (a1:Int).toNat default).dZ) (fun (x66:(List Bytes))=>((bU (aDq K x66)).bind (fun mF=>(if mF=true then (some (.inl (8))) else ((bU (aNL K a0 (a0.bK.getD (a1:Int).toNat default))).bind (fun r68=>(if ((r68:Int) != 0)=true then (some (.inl (r68))) else ((bU (F70 K a0 a1)).bind (fun r69=>((bU (aGW K r69)).bind (fun r70=>((bU (aDq K r70)).bind (fun r71=>((cK (!r71) (bU (aIQ K (a0.bK.getD (a1:Int).toNat default))) default).bind (fun r72=>((cK (!r71) (bU (aDq K r72)) default).bind (fun r73=>(bM (bL ((iter K (fun (aAs:Bool × Int)=>(bO (decide ((aAs.2:Int)<(Int.ofNat ((a0.bK.getD (a1:Int).toNat default).bN).length))) (fun (aXp:Bool)=>(if aXp=true then (bM (bL ((cK (!aAs.1) (bU (aLU K a0 (⟨a1,aAs.2⟩:dX))) default).bind (fun kF=>((cK (!aAs.1) (bU (aGW K kF)) default).bind (fun vC=>((cK (!aAs.1) (bU (aDq K vC)) default).bind (fun pF=>(some (.inr ((aAs.1 || pF))))))))))) (fun (sY:Bool)=>(some (.inr (sY,(IntKind.i64.wrap (aAs.2+1))))))) else (some (.inl (Sum.inl (aAs.1)))))))) ((r71 || r73),0)).map .inl)) (fun (aRr:Bool)=>(if aRr=true then (some (.inl (6))) else ((bU (aNN K a0 a1)).bind (fun aXq=>(if aXq=true then (some (.inl (12))) else ((bU (aNO K a0 a1)).bind (fun aNP=>(if aNP=true then (some (.inl (11))) else ((bU (aOC K a0 a1)).bind (fun aDE=>(if (!aDE)=true then (some (.inl (8))) else (bM (bL ((iter K (fun (aCc:Int)=>(bO (decide ((aCc:Int)<(Int.ofNat ((a0.bK.getD (a1:Int).toNat default).bN).length))) (fun (aXr:Bool)=>(if aXr=true then (bM (bL (bW [cS aCc ((a0.bK.getD (a1:Int).toNat default).bN).length] (bO ((((a0.bK.getD (a1:Int).toNat default).bN).getD (aCc:Int).toNat default).eN) (fun (aXs:Bool)=>(if aXs=true then (some (.inl (Sum.inl ()))) else (bW [cS aCc ((a0.bK.getD (a1:Int).toNat default).bN).length] (bO ((((a0.bK.getD (a1:Int).toNat default).bN).getD (aCc:Int).toNat default).uV) (fun (aUD:(List cJ))=>((cK true (bU (aL8 K a0 (⟨a1,aCc⟩:dX) aUD)) default).bind (fun aUE=>(if ((aUE:Int) != 0)=true then (some (.inl (Sum.inr (Sum.inr (aUE))))) else (some (.inr ()))))))))))))) (fun (aXt:Unit)=>(some (.inr ((IntKind.i64.wrap (aCc+1))))))) else (some (.inl (Sum.inl ()))))))) (0)).map .inl)) (fun (aNJ:Unit)=>(some (.inl (0))))))))))))))))))))))))))))))))))))))))))
abbrev uH (v0:dD) (v1:Int):List Go.Dl.Obj:=[.cells (dQ.cs v0),iY.o (gd v0.bK v1)]
abbrev uI (v0:Int):List (Nat × D):=[sI 1 v0,sP 2 0 0 0,sP 5 1 0 0]
theorem aRs (K:Nat) (a0:dD) (a1:Int):bR Tryz.prog 118 [.agg (dQ.cs a0),.c (.val (.int .i64 a1))] [] (bU (aOF K a0 a1)) (fun r=>.c (.val (.int .i64 r))) (fun r=>[]):=by
 refine bR.it Tryz.f118 (fun r=>⟨[sI 4 r],[],[],0⟩) ?_
 unfold aOF
 exact Ref.pt (
  .ck _ <|
  .lt _ fun x1 =>
  .jn (fun u6=>⟨uI a1,uH a0 a1,[],0⟩) (
   .ite _ (
    .lt _ fun x7 =>
    .call [] (oZ _ _ _) fun r8 =>
    .call [] (o9 _ _ _) fun r9 =>
    .ck _ <|
    .lt _ fun x10 =>
    .ite _ (
     .ret [] _) (
     .nil [0,1] _)) (
    .nil [0,1] _)) fun u6 =>
  .bk 0 (fun s9=>⟨uI a1,uH a0 a1,[],0⟩) (
   .lp [0,1] (fun gZ=>⟨uI a1++[sI 7 gZ],uH a0 a1,[],0⟩) fun gZ =>
   .lt _ fun x58 =>
   .ite _ (
    .bk 1 (fun u62=>⟨uI a1++[sI 7 gZ],uH a0 a1,[],0⟩) (
     .ex [2,4] <|
     .tx [] <|
     .mT [0,1,3,5,6] _ <|
     .lt _ fun x63 =>
     .gB 7 (default:Int) _ [] (oZ K a0 x63) (fun _=>rfl) fun vB =>
     .gB 8 (default:Int) _ [] (o9 K a0 vB) (fun _=>rfl) fun r65 =>
     .ex [9] <|
     .ite _ (
      .ret [] _) (
      .nil [0,1] _)) fun u62 =>
    .nil [0,1] _) (
    .ret [0,1] _)) fun s9 =>
  .lt _ fun x66 =>
  .call [] (uC _ _) fun mF =>
  .ite _ (
   .ret [] _) (
   .call [] (aQZ _ _ _) fun r68 =>
   .ite _ (
    .ret [] _) (
    .call [] (aNE _ _ _) fun r69 =>
    .call [] (aCA _ _) fun r70 =>
    .call [] (uC _ _) fun r71 =>
    .yA (default:(List Bytes)) _ (aFS K (gd a0.bK a1)) fun r72 =>
    .look (default:Bool) _ [] (uC K r72) (fun _=>rfl) fun r73 =>
    .bk 2 (fun aRr=>⟨uI a1++[sB 9 aRr],uH a0 a1,[],0⟩) (
     .lp [0,1] (fun aAs=>⟨uI a1++[sB 9 aAs.1,sI 10 aAs.2],uH a0 a1,[],0⟩) fun aAs =>
     .lt _ fun aXp =>
     .ite _ (
      .bk 3 (fun sY=>⟨uI a1++[sB 9 sY,sI 10 aAs.2],uH a0 a1,[],0⟩) (
       .yA (default:(List fG)) _ (aKb K a0 (⟨a1,aAs.2⟩:dX)) fun kF =>
       .yA (default:(List Bytes)) _ (aCA K kF) fun vC =>
       .look (default:Bool) _ [] (uC K vC) (fun _=>rfl) fun pF =>
       .nil [0,1] _) fun sY =>
      .nil [0,1] _) (
      .ret [0,1] _)) fun aRr =>
    .ite _ (
     .ret [] _) (
     .call [] (aQ1 _ _ _) fun aXq =>
     .ite _ (
      .ret [] _) (
      .call [] (aQ2 _ _ _) fun aNP =>
      .ite _ (
       .ret [] _) (
       .call [] (aRq _ _ _) fun aDE =>
       .ite _ (
        .ret [] _) (
        .bk 4 (fun aNJ=>⟨[],[],[],0⟩) (
         .lp [0,1] (fun aCc=>⟨uI a1++[sI 11 aCc],uH a0 a1,[],0⟩) fun aCc =>
         .lt _ fun aXr =>
         .ite _ (
          .bk 5 (fun aXt=>⟨uI a1++[sI 11 aCc],uH a0 a1,[],0⟩) (
           .ck _ <|
           .lt _ fun aXs =>
           .ite _ (
            .ret [0,1] _) (
            .ex [1,2,3,4,6] <|
            .tx [] <|
            .mT [0,5,7,8,9] _ <|
            .lt _ fun aUD =>
            .gB 10 (default:Int) _ [] (aKu K a0 (⟨a1,aCc⟩:dX) aUD) (fun _=>rfl) fun aUE =>
            .ex [11] <|
            .ite _ (
             .ret [] _) (
             .nil [0,1] _))) fun aXt =>
          .nil [0,1] _) (
          .ret [] _)) fun aNJ =>
        .ret [] _)))))))
def F77 (K:Nat) (a0:dD) (a1:Int):Option ((Int) ⊕ (Int)) :=
 (bW [!(!((decide ((a1:Int)<0)) || (decide ((a1:Int) ≥ (Int.ofNat a0.bK.length))))) || cS a1 a0.bK.length,!(!(((decide ((a1:Int)<0)) || (decide ((a1:Int) ≥ (Int.ofNat a0.bK.length)))) || (decide ((((a0.bK.getD (a1:Int).toNat default).bP):Int)<1)))) || cS a1 a0.bK.length] (bO ((((decide ((a1:Int)<0)) || (decide ((a1:Int) ≥ (Int.ofNat a0.bK.length)))) || (decide ((((a0.bK.getD (a1:Int).toNat default).bP):Int)<1))) || (decide ((((a0.bK.getD (a1:Int).toNat default).bP):Int) > 4))) (fun (x1:Bool)=>(if x1=true then (some (.inl (22))) else (bW [cS a1 a0.bK.length] ((cK (!(decide ((a1:Int) ≥ 12))) (bU (aNH K (a0.bK.getD (a1:Int).toNat default))) default).bind (fun r2=>(if ((decide ((a1:Int) ≥ 12)) || r2)=true then (some (.inl (5))) else (bO ((a0.bK.getD (a1:Int).toNat default).cG) (fun (x3:Bytes)=>((bU (F61 K a0 x3)).bind (fun r4=>(if (decide ((r4:Int)<a1))=true then (some (.inl (6))) else (bO ((a0.bK.getD (a1:Int).toNat default).bP) (fun (x5:Int)=>(bM (bL (if ((x5:Int) == 1)=true then ((bU (aNK K a0 (a0.bK.getD (a1:Int).toNat default))).bind (fun jZ=>(some (.inl (Sum.inr (jZ)))))) else (if ((x5:Int) == 2)=true then ((bU (aOF K a0 a1)).bind (fun r11=>(some (.inl (Sum.inr (r11)))))) else (if ((x5:Int) == 3)=true then ((bU (aNZ K a0 a1)).bind (fun r12=>(some (.inl (Sum.inr (r12)))))) else (some (.inr ())))))) (fun (u9:Unit)=>((bU (aN1 K a0 a1)).bind (fun r13=>(some (.inl (r13))))))))))))))))))))))
theorem aUF (K:Nat) (a0:dD) (a1:Int):bR Tryz.prog 77 [.agg (dQ.cs a0),.c (.val (.int .i64 a1))] [] (bU (F77 K a0 a1)) (fun r=>.c (.val (.int .i64 r))) (fun r=>[]):=by
 refine bR.it Tryz.f77 (fun r=>⟨[sI 4 r],[],[],0⟩) ?_
 unfold F77
 exact Ref.pt (
  .ck _ <|
  .lt _ fun x1 =>
  .ite _ (
   .ret [] _) (
   .ck _ <|
   .look (default:Bool) _ [] (aQW K (gd a0.bK a1)) (fun _=>rfl) fun r2 =>
   .ite _ (
    .ret [] _) (
    .lt _ fun x3 =>
    .call [] (oZ _ _ _) fun r4 =>
    .ite _ (
     .ret [] _) (
     .lt _ fun x5 =>
     .bk 0 (fun u9=>⟨[sI 1 a1,sP 2 0 0 0],[.cells (dQ.cs a0)],[],0⟩) (
      .ite _ (
       .call [] (aQY _ _ _) fun jZ =>
       .ret [] _) (
       .ite _ (
        .call [] (aRs _ _ _) fun r11 =>
        .ret [] _) (
        .ite _ (
         .call [] (aRb _ _ _) fun r12 =>
         .ret [] _) (
         .nil [0] _)))) fun u9 =>
     .call [] (aRc _ _ _) fun r13 =>
     .ret [] _))))
def F34 (K:Nat) (a0:dD):Option (((List oC)) ⊕ ((List oC))) :=
 (bM (bL ((iter K (fun (dY:(List oC) × Int)=>(bO (decide ((dY.2:Int)<(Int.ofNat a0.bK.length))) (fun (l8:Bool)=>(if l8=true then (bM (bL ((bU (F77 K a0 dY.2)).bind (fun xC=>(if ((xC:Int) != 0)=true then (bW [room ((dY.1.length+([(⟨xC,dY.2⟩:oC)].length)) * 16)] (some (.inr ((dY.1++[(⟨xC,dY.2⟩:oC)]))))) else (some (.inr (dY.1))))))) (fun (eZ:(List oC))=>(some (.inr (eZ,(IntKind.i64.wrap (dY.2+1))))))) else (some (.inl (Sum.inl (dY.1)))))))) ([],0)).map .inl)) (fun (u16:(List oC))=>(some (.inl (u16)))))
theorem aUG (K:Nat) (a0:dD):bR Tryz.prog 34 [.agg (dQ.cs a0)] [] (bU (F34 K a0)) (fun r=>.c (tA.tree r)) (fun r=>[]):=by
 refine bR.it Tryz.f34 (fun r=>⟨[(2,.c (tA.tree r))],[],[],0⟩) ?_
 unfold F34
 exact Ref.pt (
  .bk 0 (fun u16=>⟨[(3,.c (.own 0 u16.length))],[tA.row u16],[],0⟩) (
   .ad 2 0 3 tA.ty tA.w (tA.at []) <|
   .lp [0,1] (fun dY=>⟨[sP 1 0 0 0,(3,.c (.own 1 dY.1.length)),sI 4 dY.2],[.cells (dQ.cs a0),tA.row dY.1],[],0⟩) fun dY =>
   .lt _ fun l8 =>
   .ite _ (
    .bk 1 (fun eZ=>⟨[sP 1 0 0 0,(3,.c (.own 1 eZ.length)),sI 4 dY.2],[.cells (dQ.cs a0),tA.row eZ],[],0⟩) (
     .call [] (aUF _ _ _) fun xC =>
     .ite _ (
      .ob 7 2 2 (x:=.row 73 2 1 (hG [[iC xC,iC dY.2]])) (y:=(tA.row [(⟨xC,dY.2⟩:oC)])) (El.bZ tA [(⟨xC,dY.2⟩:oC)] rfl (by kernel_rfl)) <|
      .sl 7 2 22 (x:=.c (.own 2 1)) (y:=(.c (.own 2 ([(⟨xC,dY.2⟩:oC)].length)))) (eG.c (eD.own (by first | (simp;done) | (simp;omega) | omega))) <|
      .ck _ <|
      .ob 7 1 3 (x:=.row 73 2 (dY.1.length+([(⟨xC,dY.2⟩:oC)].length)) fun i j=>bif Nat.blt i dY.1.length then tA.at dY.1 i j else (tA.at [(⟨xC,dY.2⟩:oC)]) (i - dY.1.length) j) (y:=(tA.row (dY.1++[(⟨xC,dY.2⟩:oC)]))) (El.cH tA dY.1 [(⟨xC,dY.2⟩:oC)] rfl rfl) <|
      .sl 7 1 23 (x:=.c (.own 3 (dY.1.length+([(⟨xC,dY.2⟩:oC)].length)))) (y:=(.c (.own 3 ((dY.1++[(⟨xC,dY.2⟩:oC)]).length)))) (eG.c (eD.own (by first | (simp;done) | (simp;omega) | omega))) <|
      .nil [0,3] _) (
      .nil [0,1] _)) fun eZ =>
    .nil [0,1] _) (
    .ret [1] _)) fun u16 =>
  .fz 8 0 0 <|
  .ret [] _)
end Go.Proofs.YtdbfbedholdjaaaGreat
