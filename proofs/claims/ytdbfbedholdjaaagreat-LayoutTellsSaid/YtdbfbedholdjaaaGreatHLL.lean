/- No conditions. -/
import Derived.Test.YtdbfbedholdjaaaGreatHLE
import Derived.Test.YtdbfbedholdjaaaGreatHDE
import Derived.Test.YtdbfbedholdjaaaGreatProg
set_option linter.unusedVariables false
set_option linter.unusedSimpArgs false
set_option linter.unusedSectionVars false
namespace Go.Proofs.YtdbfbedholdjaaaGreat
open Go Go.Proofs Go.Dl
variable [dO]
set_option maxRecDepth 100000
set_option maxHeartbeats 4000000
def aPj (K:Nat) (a0:cK) (a1:Int):Option ((Bool) ⊕ (Bool)) :=
 ((bX (aIW K a0 a1)).bind (fun r1=>(bT (bQ ((iter K (fun (kN:Int)=>(bR (decide ((kN:Int)<(Int.ofNat r1.length))) (fun (a1X:Bool)=>(if a1X=true then (bT (bQ (bY [cP kN r1.length] (bY [cP (r1.getD (kN:Int).toNat default) a0.bP.length] (bT (bQ ((iter K (fun (rN:Int)=>(bR (decide ((rN:Int)<(Int.ofNat ((a0.bP.getD ((r1.getD (kN:Int).toNat default):Int).toNat default).bS).length))) (fun (a1Y:Bool)=>(if a1Y=true then (bT (bQ (bY [cP rN ((a0.bP.getD ((r1.getD (kN:Int).toNat default):Int).toNat default).bS).length] ((bX (aEd K a0 a1 ((((a0.bP.getD ((r1.getD (kN:Int).toNat default):Int).toNat default).bS).getD (rN:Int).toNat default).cD))).bind (fun rO=>(bY [!(!(!rO.2)) || cP rN ((a0.bP.getD ((r1.getD (kN:Int).toNat default):Int).toNat default).bS).length] ((cE (!(!rO.2)) (bX (F63 K a0 rO.1)) default).bind (fun aXX=>((cE (!(!rO.2)) (bX (aL8 K aXX (((a0.bP.getD ((r1.getD (kN:Int).toNat default):Int).toNat default).bS).getD (rN:Int).toNat default))) default).bind (fun aXY=>(if ((!rO.2) || (!aXY))=true then (some (.inl (Sum.inr (Sum.inr (Sum.inr (Sum.inr (false))))))) else (some (.inr ())))))))))))) (fun (a1Z:Unit)=>(some (.inr ((IntKind.i64.wrap (rN+1))))))) else (some (.inl (Sum.inl ()))))))) (0)).map .inl)) (fun (a10:Unit)=>(some (.inr ()))))))) (fun (a11:Unit)=>(some (.inr ((IntKind.i64.wrap (kN+1))))))) else (some (.inl (Sum.inl ()))))))) (0)).map .inl)) (fun (a13:Unit)=>(some (.inl (true)))))))
abbrev tX (v0:cK) (v1:(List Int)) (v2:Int):List Go.Dl.Obj:=[.cells (c9.cs v0),gW.o (v0.bP.getD ((gd v1 v2):Int).toNat default)]
abbrev oM (v0:Int) (v1:(List Int)) (v2:Int):List (Nat × D):=[sI 1 v0,sP 2 0 0 0,(5,.c (E3.tree v1)),sI 6 v2]
theorem aTF (K:Nat) (a0:cK) (a1:Int):bV Tryz.prog 152 [.agg (c9.cs a0),.c (.val (.int .i64 a1))] [] (bX (aPj K a0 a1)) (fun r=>.c (.val (.bool r))) (fun r=>[]):=by
 refine bV.it Tryz.f152 (fun r=>⟨[sB 4 r],[],[],0⟩) ?_
 unfold aPj
 exact Ref.pt (
  .call [] (aFD _ _ _) fun r1 =>
  .bk 0 (fun a13=>⟨[],[],[],0⟩) (
   .lp [0] (fun kN=>⟨oM a1 r1 kN,[.cells (c9.cs a0)],[],0⟩) fun kN =>
   .lt _ fun a1X =>
   .ite _ (
    .bk 1 (fun a11=>⟨oM a1 r1 kN,[.cells (c9.cs a0)],[],0⟩) (
     .hO [0,2,3,4] _ <|
     .tx [9] <|
     .hO [1,5,6,7] _ <|
     .all [1,2,5,6,27,7] (rg (cd (bd Tryz.f152) [1,1,0,1,0,0,1,0,0,0])) [true,true,true,true,true,true,true,true,false,false] (hl []) ⟨oM a1 r1 kN++[sP 7 1 0 0],tX a0 r1 kN,[],0⟩ [.s 2,.s 7] <|
     .bk 2 (fun a10=>⟨oM a1 r1 kN,[.cells (c9.cs a0)],[],0⟩) (
      .lp [0,1] (fun rN=>⟨oM a1 r1 kN++[sP 7 1 0 0,sI 8 rN],tX a0 r1 kN,[],0⟩) fun rN =>
      .lt _ fun a1Y =>
      .ite _ (
       .bk 3 (fun a1Z=>⟨oM a1 r1 kN++[sP 7 1 0 0,sI 8 rN],tX a0 r1 kN,[],0⟩) (
        .ex [1,2,4] <|
        .tx [8,13] <|
        .hO [0,3,5,6,7] _ <|
        .kn fun rO a14 =>
        .all [1,2,5,6,7,8,36,37,43,44,35,45,46,9,10] (rg (cd (bd Tryz.f152) [1,1,0,1,0,0,1,0,0,1,1,0,0,1,0,0,0])) [true,true,true,true,true,true,true,true,false,false,false,false,false,false,false] (hl [(8,.kc [] (bV.eq (uT _ _ _ _) a14) [])]) ⟨oM a1 r1 kN++[sP 7 1 0 0,sI 8 rN,sP 9 2 0 0,sB 10 rO.2],tX a0 r1 kN++[.cells (dY.cs rO.1)],[],0⟩ [.s 2,.s 7,.s 9] <|
        .esc [0,1,2] [(cd (bd Tryz.f152) [1,1,0,1,0,0,1,0,0,1,1,0,0,1,0,0,1,0]),(cd (bd Tryz.f152) [1,1,0,1,0,0,1,0,0,1,1,0,0,1,0,0,1,1])] ⟨oM a1 r1 kN++[sP 7 1 0 0,sI 8 rN,sP 9 2 0 0,sB 10 rO.2],tX a0 r1 kN++[.cells (dY.cs rO.1)],[],0⟩ (by
         refine Ref.wA 10 (by kernel_rfl) (by kernel_rfl) ?_
         refine gI.aAa (dD:=⟨oM a1 r1 kN++[sP 7 1 0 0,sI 8 rN,sP 9 2 0 0,sB 49 (!rO.2),sP 53 1 0 7,sI 55 rN],tX a0 r1 kN++[.cells (dY.cs rO.1)],[(55,[(49,false)]),(53,[(49,false)])],0⟩) (fuel':=9) [0,1,2,6,8] [1,2,5,6,7,8,9,49,53,55] [0,1,2] rfl (by kernel_rfl) (by kernel_rfl) ?_
         refine gI.toX [] ?_
         refine cX.evC (vs:=[!(!(!rO.2)) || cP rN ((a0.bP.getD ((gd r1 kN):Int).toNat default).bS).length]) (dD:=⟨oM a1 r1 kN++[sP 7 1 0 0,sI 8 rN,sB 49 (!rO.2),(50,.agg (c9.cs a0)),(51,.agg (dY.cs rO.1)),(57,.agg (jO.cs (((a0.bP.getD ((gd r1 kN):Int).toNat default).bS).getD (rN:Int).toNat default)))],tX a0 r1 kN,[(57,[(49,false)]),(51,[(49,false)]),(50,[(49,false)])],0⟩) (fuel':=4) [3,4,7,9,10] [1,2,5,6,7,8,49,50,51,57] [0,1] rfl (by kernel_rfl) (by kernel_rfl) ?_
         refine cX.aN2 (t:=52) (g:=[(49,false)]) (b:=(!(!rO.2))) (fuel':=3) 5 (default:hU) rfl (by kernel_rfl) (by kernel_rfl) (bV.aKg (wL K a0 rO.1) (fun _=>rfl)) (fun aXX=>?_)
         refine cX.aJ7 (t:=58) (g:=[(49,false)]) (b:=(!(!rO.2))) (fuel':=2) 11 [] (default:Bool) rfl (by kernel_rfl) (by kernel_rfl) (aKs K aXX (((a0.bP.getD ((gd r1 kN):Int).toNat default).bS).getD (rN:Int).toNat default)) (fun _=>rfl) (fun aXY=>?_)
         refine cX.aAa (dD:=⟨oM a1 r1 kN++[sP 7 1 0 0,sI 8 rN,sB 60 ((!rO.2) || (!aXY))],tX a0 r1 kN,[],0⟩) (fuel':=0) [12,13] [1,2,5,6,7,8,60] [0,1] rfl (by kernel_rfl) (by kernel_rfl) ?_
         refine cX.done (by kernel_rfl) ?_
         exact Ref.pt (
          .ite _ (
           .ret [] _) (
           .nil [0,1] _)))) fun a1Z =>
       .nil [0,1] _) (
       .ret [0] _)) fun a10 =>
     .nil [0] _) fun a11 =>
    .nil [0] _) (
    .ret [] _)) fun a13 =>
  .ret [] _)
end Go.Proofs.YtdbfbedholdjaaaGreat

namespace Go.Proofs.YtdbfbedholdjaaaGreat
open Go Go.Proofs Go.Dl
variable [dO]
set_option maxRecDepth 100000
set_option maxHeartbeats 4000000
def aPk (K:Nat) (a0:cK) (a1:Int):Option ((Int) ⊕ (Int)) :=
 (bY [cP a1 a0.bP.length] (bR (!(((a0.bP.getD (a1:Int).toNat default).gF) == ([]:Bytes))) (fun (x1:Bool)=>(bT (if x1=true then (bR ((a0.bP.getD (a1:Int).toNat default).gF) (fun (x7:Bytes)=>((bX (F61 K a0 x7)).bind (fun r8=>((bX (F68 K a0 r8)).bind (fun r9=>(bY [!(!(((r9:Int) != 2) || (decide ((r8:Int) ≥ a1)))) || cP r8 a0.bP.length] (bR ((((r9:Int) != 2) || (decide ((r8:Int) ≥ a1))) || ((a0.bP.getD (r8:Int).toNat default).tR)) (fun (x10:Bool)=>(if x10=true then (some (.inl (7))) else (some (.inr ())))))))))))) else (some (.inr ()))) (fun (u6:Unit)=>(bT (bQ ((iter K (fun (l5:Int)=>(bR (decide ((l5:Int)<(Int.ofNat ((a0.bP.getD (a1:Int).toNat default).cL).length))) (fun (x58:Bool)=>(if x58=true then (bT (bQ (bY [cP l5 ((a0.bP.getD (a1:Int).toNat default).cL).length] (bR (((a0.bP.getD (a1:Int).toNat default).cL).getD (l5:Int).toNat default) (fun (x63:Bytes)=>((cE true (bX (F61 K a0 x63)) default).bind (fun r64=>((cE true (bX (F68 K a0 r64)) default).bind (fun r65=>(if ((r65:Int) != 1)=true then (some (.inl (Sum.inr (Sum.inr (8))))) else (some (.inr ()))))))))))) (fun (u62:Unit)=>(some (.inr ((IntKind.i64.wrap (l5+1))))))) else (some (.inl (Sum.inl ()))))))) (0)).map .inl)) (fun (sY:Unit)=>(bR ((a0.bP.getD (a1:Int).toNat default).cL) (fun (x66:(List Bytes))=>((bX (aCL K x66)).bind (fun pK=>(if pK=true then (some (.inl (8))) else ((bX (aOq K a0 (a0.bP.getD (a1:Int).toNat default))).bind (fun r68=>(if ((r68:Int) != 0)=true then (some (.inl (r68))) else ((bX (F70 K a0 a1)).bind (fun r69=>((bX (aG6 K r69)).bind (fun r70=>((bX (aCL K r70)).bind (fun r71=>((cE (!r71) (bX (aI1 K (a0.bP.getD (a1:Int).toNat default))) default).bind (fun r72=>((cE (!r71) (bX (aCL K r72)) default).bind (fun r73=>(bT (bQ ((iter K (fun (yR:Bool × Int)=>(bR (decide ((yR.2:Int)<(Int.ofNat ((a0.bP.getD (a1:Int).toNat default).bS).length))) (fun (a16:Bool)=>(if a16=true then (bT (bQ ((cE (!yR.1) (bX (aL9 K a0 (⟨a1,yR.2⟩:dS))) default).bind (fun aBe=>((cE (!yR.1) (bX (aG6 K aBe)) default).bind (fun aEh=>((cE (!yR.1) (bX (aCL K aEh)) default).bind (fun wM=>(some (.inr ((yR.1 || wM))))))))))) (fun (pX:Bool)=>(some (.inr (pX,(IntKind.i64.wrap (yR.2+1))))))) else (some (.inl (Sum.inl (yR.1)))))))) ((r71 || r73),0)).map .inl)) (fun (aTG:Bool)=>(if aTG=true then (some (.inl (6))) else ((bX (aOs K a0 a1)).bind (fun a17=>(if a17=true then (some (.inl (12))) else ((bX (aOt K a0 a1)).bind (fun aOu=>(if aOu=true then (some (.inl (11))) else ((bX (aPj K a0 a1)).bind (fun aCS=>(if (!aCS)=true then (some (.inl (8))) else (bT (bQ ((iter K (fun (aBh:Int)=>(bR (decide ((aBh:Int)<(Int.ofNat ((a0.bP.getD (a1:Int).toNat default).bS).length))) (fun (a18:Bool)=>(if a18=true then (bT (bQ (bY [cP aBh ((a0.bP.getD (a1:Int).toNat default).bS).length] (bR ((((a0.bP.getD (a1:Int).toNat default).bS).getD (aBh:Int).toNat default).eT) (fun (a19:Bool)=>(if a19=true then (some (.inl (Sum.inl ()))) else (bY [cP aBh ((a0.bP.getD (a1:Int).toNat default).bS).length] (bR ((((a0.bP.getD (a1:Int).toNat default).bS).getD (aBh:Int).toNat default).sC) (fun (aXZ:(List cI))=>((cE true (bX (aMn K a0 (⟨a1,aBh⟩:dS) aXZ)) default).bind (fun aX0=>(if ((aX0:Int) != 0)=true then (some (.inl (Sum.inr (Sum.inr (aX0))))) else (some (.inr ()))))))))))))) (fun (a2a:Unit)=>(some (.inr ((IntKind.i64.wrap (aBh+1))))))) else (some (.inl (Sum.inl ()))))))) (0)).map .inl)) (fun (aOo:Unit)=>(some (.inl (0))))))))))))))))))))))))))))))))))))))))))
abbrev rP (v0:cK) (v1:Int):List Go.Dl.Obj:=[.cells (c9.cs v0),gW.o (gd v0.bP v1)]
abbrev rQ (v0:Int):List (Nat × D):=[sI 1 v0,sP 2 0 0 0,sP 5 1 0 0]
theorem aTH (K:Nat) (a0:cK) (a1:Int):bV Tryz.prog 118 [.agg (c9.cs a0),.c (.val (.int .i64 a1))] [] (bX (aPk K a0 a1)) (fun r=>.c (.val (.int .i64 r))) (fun r=>[]):=by
 refine bV.it Tryz.f118 (fun r=>⟨[sI 4 r],[],[],0⟩) ?_
 unfold aPk
 exact Ref.pt (
  .ck _ <|
  .lt _ fun x1 =>
  .jn (fun u6=>⟨rQ a1,rP a0 a1,[],0⟩) (
   .ite _ (
    .lt _ fun x7 =>
    .call [] (lB _ _ _) fun r8 =>
    .call [] (lC _ _ _) fun r9 =>
    .ck _ <|
    .lt _ fun x10 =>
    .ite _ (
     .ret [] _) (
     .nil [0,1] _)) (
    .nil [0,1] _)) fun u6 =>
  .bk 0 (fun sY=>⟨rQ a1,rP a0 a1,[],0⟩) (
   .lp [0,1] (fun l5=>⟨rQ a1++[sI 7 l5],rP a0 a1,[],0⟩) fun l5 =>
   .lt _ fun x58 =>
   .ite _ (
    .bk 1 (fun u62=>⟨rQ a1++[sI 7 l5],rP a0 a1,[],0⟩) (
     .ex [2,4] <|
     .tx [] <|
     .hO [0,1,3,5,6] _ <|
     .lt _ fun x63 =>
     .dQ 7 (default:Int) _ [] (lB K a0 x63) (fun _=>rfl) fun r64 =>
     .dQ 8 (default:Int) _ [] (lC K a0 r64) (fun _=>rfl) fun r65 =>
     .ex [9] <|
     .ite _ (
      .ret [] _) (
      .nil [0,1] _)) fun u62 =>
    .nil [0,1] _) (
    .ret [0,1] _)) fun sY =>
  .lt _ fun x66 =>
  .call [] (rK _ _) fun pK =>
  .ite _ (
   .ret [] _) (
   .call [] (aTa _ _ _) fun r68 =>
   .ite _ (
    .ret [] _) (
    .call [] (aFE _ _ _) fun r69 =>
    .call [] (aBO _ _) fun r70 =>
    .call [] (rK _ _) fun r71 =>
    .vN (default:(List Bytes)) _ (aFI K (gd a0.bP a1)) fun r72 =>
    .look (default:Bool) _ [] (rK K r72) (fun _=>rfl) fun r73 =>
    .bk 2 (fun aTG=>⟨rQ a1++[sB 9 aTG],rP a0 a1,[],0⟩) (
     .lp [0,1] (fun yR=>⟨rQ a1++[sB 9 yR.1,sI 10 yR.2],rP a0 a1,[],0⟩) fun yR =>
     .lt _ fun a16 =>
     .ite _ (
      .bk 3 (fun pX=>⟨rQ a1++[sB 9 pX,sI 10 yR.2],rP a0 a1,[],0⟩) (
       .vN (default:(List eZ)) _ (aKt K a0 (⟨a1,yR.2⟩:dS)) fun aBe =>
       .vN (default:(List Bytes)) _ (aBO K aBe) fun aEh =>
       .look (default:Bool) _ [] (rK K aEh) (fun _=>rfl) fun wM =>
       .nil [0,1] _) fun pX =>
      .nil [0,1] _) (
      .ret [0,1] _)) fun aTG =>
    .ite _ (
     .ret [] _) (
     .call [] (aTb _ _ _) fun a17 =>
     .ite _ (
      .ret [] _) (
      .call [] (aTc _ _ _) fun aOu =>
      .ite _ (
       .ret [] _) (
       .call [] (aTF _ _ _) fun aCS =>
       .ite _ (
        .ret [] _) (
        .bk 4 (fun aOo=>⟨[],[],[],0⟩) (
         .lp [0,1] (fun aBh=>⟨rQ a1++[sI 11 aBh],rP a0 a1,[],0⟩) fun aBh =>
         .lt _ fun a18 =>
         .ite _ (
          .bk 5 (fun a2a=>⟨rQ a1++[sI 11 aBh],rP a0 a1,[],0⟩) (
           .ck _ <|
           .lt _ fun a19 =>
           .ite _ (
            .ret [0,1] _) (
            .ex [1,2,3,4,6] <|
            .tx [] <|
            .hO [0,5,7,8,9] _ <|
            .lt _ fun aXZ =>
            .dQ 10 (default:Int) _ [] (aKD K a0 (⟨a1,aBh⟩:dS) aXZ) (fun _=>rfl) fun aX0 =>
            .ex [11] <|
            .ite _ (
             .ret [] _) (
             .nil [0,1] _))) fun a2a =>
          .nil [0,1] _) (
          .ret [] _)) fun aOo =>
        .ret [] _)))))))
def F77 (K:Nat) (a0:cK) (a1:Int):Option ((Int) ⊕ (Int)) :=
 (bY [!(!((decide ((a1:Int)<0)) || (decide ((a1:Int) ≥ (Int.ofNat a0.bP.length))))) || cP a1 a0.bP.length,!(!(((decide ((a1:Int)<0)) || (decide ((a1:Int) ≥ (Int.ofNat a0.bP.length)))) || (decide ((((a0.bP.getD (a1:Int).toNat default).bU):Int)<1)))) || cP a1 a0.bP.length] (bR ((((decide ((a1:Int)<0)) || (decide ((a1:Int) ≥ (Int.ofNat a0.bP.length)))) || (decide ((((a0.bP.getD (a1:Int).toNat default).bU):Int)<1))) || (decide ((((a0.bP.getD (a1:Int).toNat default).bU):Int) > 4))) (fun (x1:Bool)=>(if x1=true then (some (.inl (22))) else (bY [cP a1 a0.bP.length] ((cE (!(decide ((a1:Int) ≥ 12))) (bX (aOm K (a0.bP.getD (a1:Int).toNat default))) default).bind (fun r2=>(if ((decide ((a1:Int) ≥ 12)) || r2)=true then (some (.inl (5))) else (bR ((a0.bP.getD (a1:Int).toNat default).cD) (fun (x3:Bytes)=>((bX (F61 K a0 x3)).bind (fun r4=>(if (decide ((r4:Int)<a1))=true then (some (.inl (6))) else (bR ((a0.bP.getD (a1:Int).toNat default).bU) (fun (x5:Int)=>(bT (bQ (if ((x5:Int) == 1)=true then ((bX (aOp K a0 (a0.bP.getD (a1:Int).toNat default))).bind (fun j7=>(some (.inl (Sum.inr (j7)))))) else (if ((x5:Int) == 2)=true then ((bX (aPk K a0 a1)).bind (fun r11=>(some (.inl (Sum.inr (r11)))))) else (if ((x5:Int) == 3)=true then ((bX (aOF K a0 a1)).bind (fun r12=>(some (.inl (Sum.inr (r12)))))) else (some (.inr ())))))) (fun (u9:Unit)=>((bX (aOH K a0 a1)).bind (fun r13=>(some (.inl (r13))))))))))))))))))))))
theorem aX1 (K:Nat) (a0:cK) (a1:Int):bV Tryz.prog 77 [.agg (c9.cs a0),.c (.val (.int .i64 a1))] [] (bX (F77 K a0 a1)) (fun r=>.c (.val (.int .i64 r))) (fun r=>[]):=by
 refine bV.it Tryz.f77 (fun r=>⟨[sI 4 r],[],[],0⟩) ?_
 unfold F77
 exact Ref.pt (
  .ck _ <|
  .lt _ fun x1 =>
  .ite _ (
   .ret [] _) (
   .ck _ <|
   .look (default:Bool) _ [] (aS6 K (gd a0.bP a1)) (fun _=>rfl) fun r2 =>
   .ite _ (
    .ret [] _) (
    .lt _ fun x3 =>
    .call [] (lB _ _ _) fun r4 =>
    .ite _ (
     .ret [] _) (
     .lt _ fun x5 =>
     .bk 0 (fun u9=>⟨[sI 1 a1,sP 2 0 0 0],[.cells (c9.cs a0)],[],0⟩) (
      .ite _ (
       .call [] (aS8 _ _ _) fun j7 =>
       .ret [] _) (
       .ite _ (
        .call [] (aTH _ _ _) fun r11 =>
        .ret [] _) (
        .ite _ (
         .call [] (aTm _ _ _) fun r12 =>
         .ret [] _) (
         .nil [0] _)))) fun u9 =>
     .call [] (aTn _ _ _) fun r13 =>
     .ret [] _))))
def F34 (K:Nat) (a0:cK):Option (((List uV)) ⊕ ((List uV))) :=
 (bT (bQ ((iter K (fun (eA:(List uV) × Int)=>(bR (decide ((eA.2:Int)<(Int.ofNat a0.bP.length))) (fun (kI:Bool)=>(if kI=true then (bT (bQ ((bX (F77 K a0 eA.2)).bind (fun w9=>(if ((w9:Int) != 0)=true then (bY [room ((eA.1.length+([(⟨w9,eA.2⟩:uV)].length)) * 16)] (some (.inr ((eA.1++[(⟨w9,eA.2⟩:uV)]))))) else (some (.inr (eA.1))))))) (fun (eW:(List uV))=>(some (.inr (eW,(IntKind.i64.wrap (eA.2+1))))))) else (some (.inl (Sum.inl (eA.1)))))))) ([],0)).map .inl)) (fun (u16:(List uV))=>(some (.inl (u16)))))
theorem aX2 (K:Nat) (a0:cK):bV Tryz.prog 34 [.agg (c9.cs a0)] [] (bX (F34 K a0)) (fun r=>.c (E73.tree r)) (fun r=>[]):=by
 refine bV.it Tryz.f34 (fun r=>⟨[(2,.c (E73.tree r))],[],[],0⟩) ?_
 unfold F34
 exact Ref.pt (
  .bk 0 (fun u16=>⟨[(3,.c (.own 0 u16.length))],[E73.row u16],[],0⟩) (
   .ad 2 0 3 E73.ty E73.w (E73.at []) <|
   .lp [0,1] (fun eA=>⟨[sP 1 0 0 0,(3,.c (.own 1 eA.1.length)),sI 4 eA.2],[.cells (c9.cs a0),E73.row eA.1],[],0⟩) fun eA =>
   .lt _ fun kI =>
   .ite _ (
    .bk 1 (fun eW=>⟨[sP 1 0 0 0,(3,.c (.own 1 eW.length)),sI 4 eA.2],[.cells (c9.cs a0),E73.row eW],[],0⟩) (
     .call [] (aX1 _ _ _) fun w9 =>
     .ite _ (
      .ob 7 2 2 (El.b9 E73 [(⟨w9,eA.2⟩:uV)] rfl rfl) <|
      .ck _ <|
      .ap 7 1 3 23 E73 eA.1 [(⟨w9,eA.2⟩:uV)] <|
      .nil [0,3] _) (
      .nil [0,1] _)) fun eW =>
    .nil [0,1] _) (
    .ret [1] _)) fun u16 =>
  .fz 8 0 0 <|
  .ret [] _)
end Go.Proofs.YtdbfbedholdjaaaGreat
