/- No conditions. -/
import Derived.Test.YtdbfbedholdjaaaGreatGLA
import Derived.Test.YtdbfbedholdjaaaGreatProg
set_option linter.unusedVariables false
set_option linter.unusedSimpArgs false
set_option linter.unusedSectionVars false
namespace Go.Proofs.YtdbfbedholdjaaaGreat
open Go Go.Proofs Go.Dl
variable [dK]
set_option maxRecDepth 100000
set_option maxHeartbeats 4000000
def aLi (K:Nat) (a0:cM) (a1:dR) (a2:cI):Option ((Int × Int) ⊕ (Int × Int)) :=
 ((bV (aCi K a0 a1.c6)).bind (fun r1=>(bP (bN (if ((a2.fN:Int) == 0)=true then ((bV (aIp K a0 a1 a2.cD)).bind (fun jL=>(if (!jL.2)=true then (some (.inl (Sum.inr (0,13)))) else (bO (((jL.1.cO.bR:Int) != 6) && (((jL.1.cO.bR:Int) != 5) || (jL.1.cO.cD == ([]:Bytes)))) (fun (x11:Bool)=>(if x11=true then (some (.inl (Sum.inr (0,14)))) else ((bV (aIq K a0 jL.1.cO.cD)).bind (fun r12=>(if (!r12)=true then (some (.inl (Sum.inr (0,13)))) else ((bV (F61 K a0 jL.1.cO.cD)).bind (fun r13=>(some (.inl (Sum.inr (r13,0))))))))))))))) else (if ((a2.fN:Int) == 1)=true then ((bV (aIo K a0 a1)).bind (fun r14=>(if (!r14)=true then (some (.inl (Sum.inr (0,15)))) else (some (.inl (Sum.inr (a1.c6,0))))))) else (if ((a2.fN:Int) == 2)=true then ((bV (aIo K a0 a1)).bind (fun r15=>(bO ((!r15) || (decide (((Int.ofNat r1.length):Int)<2))) (fun (x16:Bool)=>(if x16=true then (some (.inl (Sum.inr (0,15)))) else (bW [cY 1 r1.length] (some (.inl (Sum.inr ((r1.getD (1:Int).toNat default),0)))))))))) else (some (.inr ())))))) (fun (u9:Unit)=>(some (.inl (0,14)))))))
theorem aJY (K:Nat) (a0:cM) (a1:dR) (a2:cI):bS Tryz.prog 159 [.agg (dP.cs a0),.agg (eD.cs a1),.agg (cL.cs a2)] [] (bV (aLi K a0 a1 a2)) (fun r=>.kC [.c (.val (.int .i64 r.1)),.c (.val (.int .i64 r.2))]) (fun r=>[]):=by
 refine bS.it Tryz.f159 (fun r=>⟨[sI 6 r.1,sI 7 r.2],[],[],0⟩) ?_
 unfold aLi
 exact Ref.pt (
  .call [] (rD _ _ _) fun r1 =>
  .bk 0 (fun u9=>⟨[],[],[],0⟩) (
   .ite _ (
    .call [] (aE9 _ _ _ _) fun jL =>
    .ite _ (
     .ret [] _) (
     .lt _ fun x11 =>
     .ite _ (
      .ret [] _) (
      .call [] (aJR _ _ _) fun r12 =>
      .ite _ (
       .ret [] _) (
       .call [] (nF _ _ _) fun r13 =>
       .ret [] _)))) (
    .ite _ (
     .call [] (aE8 _ _ _) fun r14 =>
     .ite _ (
      .ret [] _) (
      .ret [] _)) (
     .ite _ (
      .call [] (aE8 _ _ _) fun r15 =>
      .lt _ fun x16 =>
      .ite _ (
       .ret [] _) (
       .ck _ <|
       .ret [] _)) (
      .nil [] _)))) fun u9 =>
  .ret [] _)
mutual
def aFe:(K:Nat)→(cM)→(dR)→(cI)→Option ((fU × Int) ⊕ (fU × Int))
 | 0,_,_,_=>none
 | K+1,a0,a1,a2 =>
 ((bV (aLi K a0 a1 a2)).bind (fun r1=>(if ((r1.2:Int) != 0)=true then (some (.inl ((⟨0,0,0,([]:Bytes)⟩:fU),r1.2))) else ((bV (aE6 K a0 r1.1 a2.xS)).bind (fun r2=>(if (!r2.2)=true then (some (.inl ((⟨0,0,0,([]:Bytes)⟩:fU),15))) else ((bV (F63 K a0 r2.1)).bind (fun r3=>(if (((a2.fN:Int) == 2) && r3.eQ)=true then (some (.inl ((⟨0,0,0,([]:Bytes)⟩:fU),15))) else ((bV (aDE K a0 a1 a2.fM)).bind (fun r4=>(if ((r4.2:Int) != 0)=true then (some (.inl ((⟨0,0,0,([]:Bytes)⟩:fU),r4.2))) else (bO (((Int.ofNat r4.1.length):Int) != (Int.ofNat r3.cN.length)) (fun (x5:Bool)=>(if x5=true then (some (.inl ((⟨0,0,0,([]:Bytes)⟩:fU),15))) else (bP (bN ((iter K (fun (u27:Int)=>(bO (decide ((u27:Int)<(Int.ofNat r4.1.length))) (fun (x33:Bool)=>(if x33=true then (bP (bN (bW [cY u27 r4.1.length] (bW [cY u27 r3.cN.length] ((cF true (bV (aGx K a0 ((r3.cN.getD (u27:Int).toNat default).cO) (r4.1.getD (u27:Int).toNat default))) default).bind (fun r36=>(if (!r36)=true then (some (.inl (Sum.inr (Sum.inr ((⟨0,0,0,([]:Bytes)⟩:fU),15))))) else (some (.inr ())))))))) (fun (u35:Unit)=>(some (.inr ((IntKind.i64.wrap (u27+1))))))) else (some (.inl (Sum.inl ()))))))) (0)).map .inl)) (fun (iF:Unit)=>(some (.inl (r3.eY,0))))))))))))))))))))
def aDE:(K:Nat)→(cM)→(dR)→((List cI))→Option (((List fU) × Int) ⊕ ((List fU) × Int))
 | 0,_,_,_=>none
 | K+1,a0,a1,a2 =>
 (bP (bN ((iter K (fun (jG:(List fU) × Int)=>(bO (decide ((jG.2:Int)<(Int.ofNat a2.length))) (fun (x36:Bool)=>(if x36=true then (bP (bN (bW [cY jG.2 a2.length] ((bV (aAR K a0 a1 (a2.getD (jG.2:Int).toNat default))).bind (fun r40=>(if ((r40.2:Int) != 0)=true then (some (.inl (Sum.inr (Sum.inr ([],r40.2))))) else (bW [room ((jG.1.length+([r40.1].length)) * 40)] (some (.inr ((jG.1++[r40.1])))))))))) (fun (u39:(List fU))=>(some (.inr (u39,(IntKind.i64.wrap (jG.2+1))))))) else (some (.inl (Sum.inl (jG.1)))))))) ([],0)).map .inl)) (fun (iF:(List fU))=>(some (.inl (iF,0)))))
def aAR:(K:Nat)→(cM)→(dR)→(cI)→Option ((fU × Int) ⊕ (fU × Int))
 | 0,_,_,_=>none
 | K+1,a0,a1,a2 =>
 ((bV (aGw K a0 a1)).bind (fun r1=>(if (!r1)=true then (some (.inl ((⟨0,0,0,([]:Bytes)⟩:fU),22))) else (if ((a2.bR:Int) == 13)=true then ((bV (aFe K a0 a1 a2)).bind (fun r2=>(bO (((r2.2:Int) == 0) && ((r2.1.bR:Int) == 0)) (fun (x3:Bool)=>(if x3=true then (some (.inl ((⟨0,0,0,([]:Bytes)⟩:fU),14))) else (some (.inl (r2.1,r2.2)))))))) else ((bV (aNx K a2.bR)).bind (fun r4=>(bO ((decide ((r4:Int)<0)) || (((Int.ofNat a2.fM.length):Int) != r4)) (fun (x5:Bool)=>(if x5=true then (some (.inl ((⟨0,0,0,([]:Bytes)⟩:fU),14))) else ((bV (aIp K a0 a1 a2.cD)).bind (fun r6=>(bP (bN (if ((a2.bR:Int) == 1)=true then (some (.inl (Sum.inr ((⟨1,0,0,([]:Bytes)⟩:fU),0)))) else (bP (if ((a2.bR:Int) == 2)=true then (some (.inr (((a2.bR:Int) == 2)))) else (some (.inr (((a2.bR:Int) == 3))))) (fun (u12:Bool)=>(if u12=true then (some (.inl (Sum.inr ((⟨2,0,0,([]:Bytes)⟩:fU),0)))) else (if ((a2.bR:Int) == 4)=true then (some (.inl (Sum.inr ((⟨5,0,0,([]:Bytes)⟩:fU),0)))) else (bP (if ((a2.bR:Int) == 5)=true then (some (.inr (((a2.bR:Int) == 5)))) else (if ((a2.bR:Int) == 6)=true then (some (.inr (((a2.bR:Int) == 6)))) else (if ((a2.bR:Int) == 10)=true then (some (.inr (((a2.bR:Int) == 10)))) else (if ((a2.bR:Int) == 11)=true then (some (.inr (((a2.bR:Int) == 11)))) else (some (.inr (((a2.bR:Int) == 12)))))))) (fun (y3:Bool)=>(if y3=true then (if (!r6.2)=true then (some (.inl (Sum.inr ((⟨0,0,0,([]:Bytes)⟩:fU),13)))) else ((bV (aIu K a0 a1 a2 r6.1)).bind (fun r14=>(some (.inl (Sum.inr (r14.1,r14.2))))))) else (if ((a2.bR:Int) == 14)=true then ((bV (aIq K a0 a2.cD)).bind (fun r15=>(if (!r15)=true then (some (.inl (Sum.inr ((⟨0,0,0,([]:Bytes)⟩:fU),13)))) else (some (.inr ()))))) else (some (.inr ())))))))))))) (fun (u11:Unit)=>(bW [c5 a2.fM.length 0 r4] ((bV (aDE K a0 a1 ((a2.fM.drop (0:Int).toNat).take ((r4:Int).toNat - (0:Int).toNat)))).bind (fun lZ=>(if ((lZ.2:Int) != 0)=true then (some (.inl ((⟨0,0,0,([]:Bytes)⟩:fU),lZ.2))) else (bP (bN (bW [!((a2.bR:Int) == 7) || cY 0 lZ.1.length,!(((a2.bR:Int) == 8) && (!(((a2.bR:Int) == 7) && ((((lZ.1.getD (0:Int).toNat default).bR):Int) == 1)))) || cY 0 lZ.1.length] (bO ((((a2.bR:Int) == 7) && ((((lZ.1.getD (0:Int).toNat default).bR):Int) == 1)) || (((a2.bR:Int) == 8) && ((((lZ.1.getD (0:Int).toNat default).bR):Int) == 2))) (fun (x23:Bool)=>(if x23=true then (bW [cY 0 lZ.1.length] (some (.inl (Sum.inr ((lZ.1.getD (0:Int).toNat default),0))))) else (if ((a2.bR:Int) == 9)=true then (bW [cY 0 lZ.1.length,cY 1 lZ.1.length] ((bV (aLa K a2.fN (lZ.1.getD (0:Int).toNat default) (lZ.1.getD (1:Int).toNat default))).bind (fun zT=>(some (.inl (Sum.inr (zT.1,zT.2))))))) else (bW [!((a2.bR:Int) == 14) || cY 0 lZ.1.length] (bO (((a2.bR:Int) == 14) && ((((lZ.1.getD (0:Int).toNat default).bR):Int) == 5)) (fun (vY:Bool)=>(if vY=true then (some (.inl (Sum.inr ((⟨5,0,0,a2.cD⟩:fU),0)))) else (some (.inr ())))))))))))) (fun (dZ:Unit)=>(some (.inl ((⟨0,0,0,([]:Bytes)⟩:fU),14))))))))))))))))))))))
def aIu:(K:Nat)→(cM)→(dR)→(cI)→(fE)→Option ((fU × Int) ⊕ (fU × Int))
 | 0,_,_,_,_=>none
 | K+1,a0,a1,a2,a3 =>
 (bP (bN (if ((a2.bR:Int) == 5)=true then (bP (bN (bP (if ((a3.cO.bR:Int) == 1)=true then (some (.inr (((a3.cO.bR:Int) == 1)))) else (some (.inr (((a3.cO.bR:Int) == 3))))) (fun (u9:Bool)=>(if u9=true then (some (.inl (Sum.inr (Sum.inr ((⟨1,0,0,([]:Bytes)⟩:fU),0))))) else (if ((a3.cO.bR:Int) == 2)=true then (some (.inl (Sum.inr (Sum.inr ((⟨2,0,0,([]:Bytes)⟩:fU),0))))) else (if ((a3.cO.bR:Int) == 5)=true then (some (.inl (Sum.inr (Sum.inr (a3.cO,0))))) else (some (.inr ())))))))) (fun (u8:Unit)=>(some (.inr ())))) else (if ((a2.bR:Int) == 6)=true then (if ((a3.cO.bR:Int) != 4)=true then (some (.inl (Sum.inr ((⟨0,0,0,([]:Bytes)⟩:fU),14)))) else (bW [cY 0 a2.fM.length] ((bV (aAR K a0 a1 (a2.fM.getD (0:Int).toNat default))).bind (fun jL=>(if ((jL.2:Int) != 0)=true then (some (.inl (Sum.inr ((⟨0,0,0,([]:Bytes)⟩:fU),jL.2)))) else (if ((jL.1.bR:Int) == 1)=true then (some (.inl (Sum.inr ((⟨1,0,0,([]:Bytes)⟩:fU),0)))) else (some (.inr ())))))))) else (if ((a2.bR:Int) == 10)=true then (if ((a3.cO.bR:Int) == 6)=true then (some (.inl (Sum.inr ((⟨5,0,0,a3.cO.cD⟩:fU),0)))) else (some (.inr ()))) else (if ((a2.bR:Int) == 11)=true then (if ((a3.cO.bR:Int) == 7)=true then (some (.inl (Sum.inr ((⟨2,0,0,([]:Bytes)⟩:fU),0)))) else (some (.inr ()))) else (if ((a2.bR:Int) == 12)=true then (if ((a3.cO.bR:Int) == 7)=true then (some (.inl (Sum.inr ((⟨1,0,0,([]:Bytes)⟩:fU),0)))) else (some (.inr ()))) else (some (.inr ())))))))) (fun (u6:Unit)=>(some (.inl ((⟨0,0,0,([]:Bytes)⟩:fU),14)))))
end
abbrev aCp (v0:fU × Int):List (Nat × D):=[(37,.kC [.agg (kD.cs v0.1),.c (iC v0.2)]),(45,.agg (kD.cs v0.1))]
abbrev pT (v0:cM) (v1:dR):List Go.Dl.Obj:=[.cells (dP.cs v0),.cells (eD.cs v1)]
abbrev aCq:List (Nat × D):=[sP 3 0 0 0,sP 4 1 0 0,sP 5 2 0 0,sP 6 3 0 0]
theorem aFf:∀ K:Nat,(∀ (a0:cM),∀ (a1:dR),∀ (a2:cI),bS Tryz.prog 220 [.agg (dP.cs a0),.agg (eD.cs a1),.agg (cL.cs a2)] [] (bV (aFe K a0 a1 a2)) (fun r=>.kC [.agg (kD.cs r.1),.c (.val (.int .i64 r.2))]) (fun r=>[.cells (kD.cs r.1)]))∧(∀ (a0:cM),∀ (a1:dR),∀ (a2:(List cI)),bS Tryz.prog 224 [.agg (dP.cs a0),.agg (eD.cs a1),.c (cL.tree a2)] [] (bV (aDE K a0 a1 a2)) (fun r=>.kC [.c (kD.tree r.1),.c (.val (.int .i64 r.2))]) (fun r=>[]))∧(∀ (a0:cM),∀ (a1:dR),∀ (a2:cI),bS Tryz.prog 226 [.agg (dP.cs a0),.agg (eD.cs a1),.agg (cL.cs a2)] [] (bV (aAR K a0 a1 a2)) (fun r=>.kC [.agg (kD.cs r.1),.c (.val (.int .i64 r.2))]) (fun r=>[.cells (kD.cs r.1)]))∧(∀ (a0:cM),∀ (a1:dR),∀ (a2:cI),∀ (a3:fE),bS Tryz.prog 228 [.agg (dP.cs a0),.agg (eD.cs a1),.agg (cL.cs a2),.agg (eX.cs a3)] [] (bV (aIu K a0 a1 a2 a3)) (fun r=>.kC [.agg (kD.cs r.1),.c (.val (.int .i64 r.2))]) (fun r=>[.cells (kD.cs r.1)])):=by
 intro K
 induction K with
 | zero=>exact ⟨fun a0 a1 a2=>bS.none (by rw[aFe];rfl),fun a0 a1 a2=>bS.none (by rw[aDE];rfl),fun a0 a1 a2=>bS.none (by rw[aAR];rfl),fun a0 a1 a2 a3=>bS.none (by rw[aIu];rfl)⟩
 | succ K ih =>
  obtain ⟨aYR,aTD,aNK,aYS⟩:=ih
  refine ⟨?_,?_,?_,?_⟩
  ·
   intro a0 a1 a2
   refine bS.it Tryz.f220 (fun r=>⟨[sP 6 0 0 0,sI 7 r.2],[.cells (kD.cs r.1)],[],0⟩) ?_
   rw[aFe]
   exact Ref.pt (
    .call [] (aJY _ _ _ _) fun r1 =>
    .ite _ (
     .ret [3] _) (
     .call [] (xQ _ _ _ _) fun r2 =>
     .ite _ (
      .ret [3] _) (
      .call [] (aCj _ _ _) fun r3 =>
      .ite _ (
       .ret [3] _) (
       .sl 10 6 52 (x:=.c (qH a2.fM)) (y:=(.c (cL.tree a2.fM))) (jR.c (tF _)) <|
       .call [] (aTD _ _ _) fun r4 =>
       .ite _ (
        .ret [3] _) (
        .lt _ fun x5 =>
        .ite _ (
         .ret [3] _) (
         .bk 0 (fun iF=>⟨[sP 6 0 0 0,sP 12 1 0 0],[uI,j3.o r3],[],0⟩) (
          .lp [0,3,7] (fun u27=>⟨[sP 3 0 0 0,sP 6 1 0 0,sP 12 2 0 0,(13,.c (kD.tree r4.1)),sI 14 u27],[.cells (dP.cs a0),uI,j3.o r3],[],0⟩) fun u27 =>
          .lt _ fun x33 =>
          .ite _ (
           .bk 1 (fun u35=>⟨[sP 3 0 0 0,sP 6 1 0 0,sP 12 2 0 0,(13,.c (kD.tree r4.1)),sI 14 u27],[.cells (dP.cs a0),uI,j3.o r3],[],0⟩) (
            .iU [1,3,7,8,9] _ <|
            .tx [] <|
            .iU [0,2,4,5,6,10] _ <|
            .eH 11 (default:Bool) _ [] (aFa K a0 ((gd r3.cN u27).cO) (gd r4.1 u27)) (fun _=>rfl) fun r36 =>
            .ex [12] <|
            .ite _ (
             .ret [1] _) (
             .nil [0,1,2] _)) fun u35 =>
           .nil [0,1,2] _) (
           .ret [1,2] _)) fun iF =>
         .ret [0] _))))))
  ·
   intro a0 a1 a2
   refine bS.it Tryz.f224 (fun r=>⟨[(6,.c (kD.tree r.1)),sI 7 r.2],[],[],0⟩) ?_
   rw[aDE]
   exact Ref.pt (
    .bk 0 (fun iF=>⟨[(8,.c (.own 0 iF.length))],[kD.row iF],[],0⟩) (
     .ad 2 0 8 kD.ty kD.w (kD.at []) <|
     .lp [0,1,2] (fun jG=>⟨[(2,.c (cL.tree a2)),sP 3 0 0 0,sP 4 1 0 0,(8,.c (.own 2 jG.1.length)),sI 9 jG.2],pT a0 a1++[kD.row jG.1],[],0⟩) fun jG =>
     .lt _ fun x36 =>
     .ite _ (
      .bk 1 (fun u39=>⟨[(2,.c (cL.tree a2)),sP 3 0 0 0,sP 4 1 0 0,(8,.c (.own 2 u39.length)),sI 9 jG.2],pT a0 a1++[kD.row u39],[],0⟩) (
       .ex [2,3] <|
       .tx [6,11] <|
       .iU [0,1,4,5] _ <|
       .kn fun r40 a2N =>
       .all [2,3,4,8,9,19,20,24,25,18,26,27,10,11] (rg (cd (bd Tryz.f224) [1,1,0,1,0,0,1,0,0,0])) [true,true,true,true,true,true,false,false,false,false,false,false,false] (hl [(6,.kc [] (bS.eq (aNK _ _ _) a2N) [])]) ⟨[(2,.c (cL.tree a2)),sP 3 0 0 0,sP 4 1 0 0,(8,.c (.own 2 jG.1.length)),sI 9 jG.2,sP 10 3 0 0,sI 11 r40.2],pT a0 a1++[kD.row jG.1,.cells (kD.cs r40.1)],[],0⟩ [.s 3,.s 4,.s 8,.s 10] <|
       .ite _ (
        .sl 7 0 6 (x:=.c (.nil)) (y:=(.c (kD.tree []))) (jR.c (El.cE kD)) <|
        .ret [] _) (
        .ob 8 2 4 (El.cB kD [r40.1] rfl rfl) <|
        .ck _ <|
        .ap 8 1 5 34 kD jG.1 [r40.1] <|
        .nil [0,1,5] _)) fun u39 =>
      .nil [0,1,2] _) (
      .ret [2] _)) fun iF =>
    .fz 9 0 0 <|
    .ret [] _)
  ·
   intro a0 a1 a2
   refine bS.it Tryz.f226 (fun r=>⟨[sP 6 0 0 0,sI 7 r.2],[.cells (kD.cs r.1)],[],0⟩) ?_
   rw[aAR]
   exact Ref.pt (
    .call [] (aBq _ _ _) fun r1 =>
    .ite _ (
     .ret [3] _) (
     .ite _ (
      .call [] (aYR _ _ _) fun r2 =>
      .lt _ fun x3 =>
      .ite _ (
       .ret [3] _) (
       .ret [3] _)) (
      .call [] (aRB _ _) fun r4 =>
      .lt _ fun x5 =>
      .ite _ (
       .ret [3] _) (
       .call [] (aE9 _ _ _ _) fun r6 =>
       .bk 0 (fun u11=>⟨aCq++[sI 10 r4],pT a0 a1++[cL.o a2,uI],[],0⟩) (
        .ite _ (
         .ret [3] _) (
         .jn (fun u12=>⟨aCq++[sI 10 r4,sP 11 4 0 0,sB 12 r6.2,sI 62 a2.bR,sB 66 u12],pT a0 a1++[cL.o a2,uI,eX.o r6.1],[],0⟩) (
          .ite _ (
           .nil [0,1,2,3,5] _) (
           .nil [0,1,2,3,5] _)) fun u12 =>
         .ite _ (
          .ret [3] _) (
          .ite _ (
           .ret [3] _) (
           .jn (fun y3=>⟨aCq++[sI 10 r4,sP 11 4 0 0,sB 12 r6.2,sI 62 a2.bR,sB 73 y3],pT a0 a1++[cL.o a2,uI,eX.o r6.1],[],0⟩) (
            .ite _ (
             .nil [0,1,2,3,4] _) (
             .ite _ (
              .nil [0,1,2,3,4] _) (
              .ite _ (
               .nil [0,1,2,3,4] _) (
               .ite _ (
                .nil [0,1,2,3,4] _) (
                .nil [0,1,2,3,4] _))))) fun y3 =>
           .ite _ (
            .ite _ (
             .ret [3] _) (
             .call [] (aYS _ _ _ _) fun r14 =>
             .ret [3] _)) (
            .ite _ (
             .call [] (aJR _ _ _) fun r15 =>
             .ite _ (
              .ret [3] _) (
              .nil [0,1,2,3] _)) (
             .nil [0,1,2,3] _)))))) fun u11 =>
       .esc [0,1,2,3] [(cd (bd Tryz.f226) [1,1,1,1,1,1,1,0]),(cd (bd Tryz.f226) [1,1,1,1,1,1,1,1])] ⟨aCq++[sI 10 r4],pT a0 a1++[cL.o a2,uI],[],0⟩ (by
        refine Ref.vM 31 (by kernel_rfl) (by kernel_rfl) ?_
        refine gH.zH (dD:=⟨aCq++[sP 100 2 0 4,sI 102 r4],pT a0 a1++[cL.o a2,uI],[],0⟩) (fuel':=10) [2,4] [3,4,5,6,100,102] [0,1,2,3] rfl (by kernel_rfl) (by kernel_rfl) ?_
        refine gH.toX [6] ?_
        refine cW.aEM (fun (lZ:(List fU) × Int)=>⟨[sP 5 0 0 0,sP 6 1 0 0,(13,.c (kD.tree lZ.1)),sI 14 lZ.2],[cL.o a2,uI],[],0⟩) (fun (lZ:(List fU) × Int)=>(if ((lZ.2:Int) != 0)=true then (some (.inl ((⟨0,0,0,([]:Bytes)⟩:fU),lZ.2))) else (bP (bN (bW [!((a2.bR:Int) == 7) || cY 0 lZ.1.length,!(((a2.bR:Int) == 8) && (!(((a2.bR:Int) == 7) && ((((gd lZ.1 0).bR):Int) == 1)))) || cY 0 lZ.1.length] (bO ((((a2.bR:Int) == 7) && ((((gd lZ.1 0).bR):Int) == 1)) || (((a2.bR:Int) == 8) && ((((gd lZ.1 0).bR):Int) == 2))) (fun (x23:Bool)=>(if x23=true then (bW [cY 0 lZ.1.length] (some (.inl (Sum.inr ((gd lZ.1 0),0))))) else (if ((a2.bR:Int) == 9)=true then (bW [cY 0 lZ.1.length,cY 1 lZ.1.length] ((bV (aLa K a2.fN (gd lZ.1 0) (gd lZ.1 1))).bind (fun zT=>(some (.inl (Sum.inr (zT.1,zT.2))))))) else (bW [!((a2.bR:Int) == 14) || cY 0 lZ.1.length] (bO (((a2.bR:Int) == 14) && ((((gd lZ.1 0).bR):Int) == 5)) (fun (vY:Bool)=>(if vY=true then (some (.inl (Sum.inr ((⟨5,0,0,a2.cD⟩:fU),0)))) else (some (.inr ())))))))))))) (fun (dZ:Unit)=>(some (.inl ((⟨0,0,0,([]:Bytes)⟩:fU),14))))))) (fun lZ=>?_) (fun hk=>?_)
        ·
         exact Ref.pt (
          .ite _ (
           .ret [1] _) (
           .bk 1 (fun dZ=>⟨[sP 6 0 0 0],[uI],[],0⟩) (
            .ck _ <|
            .lt _ fun x23 =>
            .ite _ (
             .ck _ <|
             .ret [1] _) (
             .ite _ (
              .iU [0,2,3,5,6] _ <|
              .tx [8,11] <|
              .ex [1,4,7] <|
              .kn fun zT aVK =>
              .all [6,142,145,148,149,150,151,7] (rg (cd (bd Tryz.f226) [1,1,1,1,1,1,1,1,1,0,0,1,1,1,0,0])) [true,true,true,true,true,true,true,true,false,false,false,false,false] (hl [(8,.kc [] (bS.eq (aRC _ _ _ _) aVK) [])]) ⟨[sP 6 0 0 0,sI 7 zT.2],[.cells (kD.cs zT.1)],[],0⟩ [.s 6] <|
              .ret [0] _) (
              .ck _ <|
              .lt _ fun vY =>
              .ite _ (
               .ret [1] _) (
               .nil [1] _)))) fun dZ =>
           .ret [0] _))
        ·
         refine cW.zH (dD:=⟨[sP 5 0 0 0,sP 6 1 0 0,(98,.agg (dP.cs a0)),(99,.agg (eD.cs a1)),(101,.c (qH a2.fM)),sI 102 r4],[cL.o a2,uI],[],0⟩) (fuel':=7) [0,1,3] [5,6,98,99,101,102] [2,3] rfl (by kernel_rfl) (by kernel_rfl) ?_
         refine cW.conv (Conv.sl 101 (.c (cL.tree a2.fM)) (jR.c (tF _))) ?_
         refine cW.evH (vs:=[c5 a2.fM.length 0 r4]) (dD:=⟨[sP 5 0 0 0,sP 6 1 0 0,(98,.agg (dP.cs a0)),(99,.agg (eD.cs a1)),(103,.c (.tree cL.w ((r4:Int).toNat - (0:Int).toNat) fun i j=>cL.at a2.fM ((0:Int).toNat+i) j))],[cL.o a2,uI],[],0⟩) (fuel':=6) [5] [5,6,98,99,103] [0,1] rfl (by kernel_rfl) (by kernel_rfl) (fun hv=>?_)
         refine cW.conv (Conv.sl 103 (.c (cL.tree ((a2.fM.drop (0:Int).toNat).take ((r4:Int).toNat - (0:Int).toNat)))) (jR.c (El.oC cL _ (sZ (hv _ (List.Mem.head _)))))) ?_
         refine cW.mS (fuel':=5) 6 (by kernel_rfl) ?_
         refine eG.dA (t:=104) 6 [] rfl (by kernel_rfl) (aTD a0 a1 ((a2.fM.drop (0:Int).toNat).take ((r4:Int).toNat - (0:Int).toNat))) (fun lZ=>?_)
         refine cW.v0 (fuel':=0) [7,8,9,10,11] [5,6,13,14] [0,1] ?_
         refine cW.done (by kernel_rfl) ?_
         refine Ref.ck ⟨[sP 5 0 0 0,sP 6 1 0 0,(13,.c (kD.tree lZ.1)),sI 14 lZ.2],[cL.o a2,uI],[],0⟩ [5,6,13,14] [0,1] ?_
         exact hk lZ)))))
  ·
   intro a0 a1 a2 a3
   refine bS.it Tryz.f228 (fun r=>⟨[sP 8 0 0 0,sI 9 r.2],[.cells (kD.cs r.1)],[],0⟩) ?_
   rw[aIu]
   exact Ref.pt (
    .bk 0 (fun u6=>⟨[sP 8 0 0 0],[uI],[],0⟩) (
     .ite _ (
      .bk 1 (fun u8=>⟨[sP 8 0 0 0],[uI],[],0⟩) (
       .jn (fun u9=>⟨[sP 7 0 0 0,sP 8 1 0 0,sI 20 a3.cO.bR,sB 21 u9],[eX.o a3,uI],[],0⟩) (
        .ite _ (
         .nil [3,4] _) (
         .nil [3,4] _)) fun u9 =>
       .ite _ (
        .ret [1] _) (
        .ite _ (
         .ret [1] _) (
         .ite _ (
          .ret [1] _) (
          .nil [1] _)))) fun u8 =>
      .nil [0] _) (
      .ite _ (
       .ite _ (
        .ret [4] _) (
        .esc [0,1,2,4] [(cd (bd Tryz.f228) [1,1,0,1,0,1,1,1,0,1,0]),(cd (bd Tryz.f228) [1,1,0,1,0,1,1,1,0,1,1])] ⟨[sP 4 0 0 0,sP 5 1 0 0,sP 6 2 0 0,sP 8 3 0 0,sB 35 ((a3.cO.bR:Int) != 4)],pT a0 a1++[cL.o a2,uI],[],0⟩ (by
         refine Ref.vM 15 (by kernel_rfl) (by kernel_rfl) ?_
         refine gH.zH (dD:=⟨[sP 4 0 0 0,sP 5 1 0 0,sP 8 3 0 0,sP 40 2 0 4],pT a0 a1++[cL.o a2,uI],[],0⟩) (fuel':=12) [2] [4,5,8,40] [0,1,2,3] rfl (by kernel_rfl) (by kernel_rfl) ?_
         refine gH.toX [6,11] ?_
         refine cW.aEM (fun (jL:fU × Int)=>⟨[sP 8 0 0 0,sP 11 1 0 0,sI 12 jL.2],[uI,.cells (kD.cs jL.1)],[],0⟩) (fun (jL:fU × Int)=>(if ((jL.2:Int) != 0)=true then (some (.inl (Sum.inr ((⟨0,0,0,([]:Bytes)⟩:fU),jL.2)))) else (if ((jL.1.bR:Int) == 1)=true then (some (.inl (Sum.inr ((⟨1,0,0,([]:Bytes)⟩:fU),0)))) else (some (.inr ()))))) (fun jL=>?_) (fun hk=>?_)
         ·
          exact Ref.pt (
           .ite _ (
            .ret [0] _) (
            .ite _ (
             .ret [0] _) (
             .nil [0] _)))
         ·
          refine cW.zH (dD:=⟨[sP 8 0 0 0,(38,.agg (dP.cs a0)),(39,.agg (eD.cs a1)),(41,.c (qH a2.fM))],[uI],[],0⟩) (fuel':=9) [0,1,3] [8,38,39,41] [3] rfl (by kernel_rfl) (by kernel_rfl) ?_
          refine cW.conv (Conv.sl 41 (.c (cL.tree a2.fM)) (jR.c (tF _))) ?_
          refine cW.v1 (fuel':=7) [cY 0 a2.fM.length] [4,5] [8,38,39,43] [0] ?_
          refine cW.aTo (fuel':=6) 6 10 (by kernel_rfl) ?_ ?_
          ·
           refine eG.dA (t:=44) 6 [] rfl (by kernel_rfl) (aNK a0 a1 (gd a2.fM 0)) (fun jL=>?_)
           refine cW.zH (dD:=⟨sP 8 0 0 0::aCp jL,[uI],[],0⟩) (fuel':=4) [7,8] [8,37,45] [0] rfl (by kernel_rfl) (by kernel_rfl) ?_
           refine cW.aMN (fuel':=3) [[],[(9,46)]] [(9,46)] [8,37,45] [0] ⟨sP 8 0 0 0::(aCp jL++[sI 46 jL.2]),[uI],[],0⟩ ?_
           refine gN.mS (fuel':=2) 10 ?_
           refine gS.aD0 (dD:=⟨sP 8 0 0 0::sP 11 1 0 0::(aCp jL++[sI 46 jL.2]),[uI,uI],[],0⟩) 10 [8,11,37,45,46] [0,1] (by kernel_rfl) (by kernel_rfl) ?_
           refine gN.mS (fuel':=1) 11 ?_
           refine gS.aA9 (dD:=⟨[sP 8 0 0 0,sP 11 1 0 0,(37,.kC [.agg (kD.cs jL.1),.c (iC jL.2)]),sI 46 jL.2],[uI,.cells (kD.cs jL.1)],[],0⟩) 11 [8,11,37,46] [0,1] (by kernel_rfl) (by kernel_rfl) ?_
           refine gN.close ?_
           refine cW.v0 (fuel':=0) [12] [8,11,12] [0,1] ?_
           refine cW.done (by kernel_rfl) ?_
           refine Ref.ck ⟨[sP 8 0 0 0,sP 11 1 0 0,sI 12 jL.2],[uI,.cells (kD.cs jL.1)],[],0⟩ [8,11,12] [0,1] ?_
           exact hk jL
          ·
           refine eG.a0 10 [8,11,38,39,43] [0,1] ?_
           refine cW.mS (fuel':=5) 6 (by kernel_rfl) ?_
           refine eG.dA (t:=44) 6 [] rfl (by kernel_rfl) (aNK a0 a1 (gd a2.fM 0)) (fun jL=>?_)
           refine cW.zH (dD:=⟨sP 8 0 0 0::sP 11 1 0 0::aCp jL,[uI,uI],[],0⟩) (fuel':=3) [7,8] [8,11,37,45] [0,1] rfl (by kernel_rfl) (by kernel_rfl) ?_
           refine cW.aMN (fuel':=2) [[],[(9,46)]] [(9,46)] [8,11,37,45] [0,1] ⟨sP 8 0 0 0::sP 11 1 0 0::(aCp jL++[sI 46 jL.2]),[uI,uI],[],0⟩ ?_
           refine gN.mS (fuel':=1) 11 ?_
           refine gS.aA9 (dD:=⟨[sP 8 0 0 0,sP 11 1 0 0,(37,.kC [.agg (kD.cs jL.1),.c (iC jL.2)]),sI 46 jL.2],[uI,.cells (kD.cs jL.1)],[],0⟩) 11 [8,11,37,46] [0,1] (by kernel_rfl) (by kernel_rfl) ?_
           refine gN.close ?_
           refine cW.v0 (fuel':=0) [12] [8,11,12] [0,1] ?_
           refine cW.done (by kernel_rfl) ?_
           refine Ref.ck ⟨[sP 8 0 0 0,sP 11 1 0 0,sI 12 jL.2],[uI,.cells (kD.cs jL.1)],[],0⟩ [8,11,12] [0,1] ?_
           exact hk jL))) (
       .ite _ (
        .ite _ (
         .ret [4] _) (
         .nil [4] _)) (
        .ite _ (
         .ite _ (
          .ret [4] _) (
          .nil [4] _)) (
         .ite _ (
          .ite _ (
           .ret [4] _) (
           .nil [4] _)) (
          .nil [4] _)))))) fun u6 =>
    .ret [0] _)
theorem aRO (K:Nat) (a0:cM) (a1:dR) (a2:cI):bS Tryz.prog 220 [.agg (dP.cs a0),.agg (eD.cs a1),.agg (cL.cs a2)] [] (bV (aFe K a0 a1 a2)) (fun r=>.kC [.agg (kD.cs r.1),.c (.val (.int .i64 r.2))]) (fun r=>[.cells (kD.cs r.1)]):=(aFf K).1 a0 a1 a2
theorem aRP (K:Nat) (a0:cM) (a1:dR) (a2:(List cI)):bS Tryz.prog 224 [.agg (dP.cs a0),.agg (eD.cs a1),.c (cL.tree a2)] [] (bV (aDE K a0 a1 a2)) (fun r=>.kC [.c (kD.tree r.1),.c (.val (.int .i64 r.2))]) (fun r=>[]):=(aFf K).2.1 a0 a1 a2
theorem aFg (K:Nat) (a0:cM) (a1:dR) (a2:cI):bS Tryz.prog 226 [.agg (dP.cs a0),.agg (eD.cs a1),.agg (cL.cs a2)] [] (bV (aAR K a0 a1 a2)) (fun r=>.kC [.agg (kD.cs r.1),.c (.val (.int .i64 r.2))]) (fun r=>[.cells (kD.cs r.1)]):=(aFf K).2.2.1 a0 a1 a2
def aIv (K:Nat) (a0:cM) (a1:dR) (a2:cI):Option ((Int) ⊕ (Int)) :=
 ((bV (aAR K a0 a1 a2)).bind (fun r1=>(bO (((r1.2:Int) == 0) && ((r1.1.bR:Int) != 2)) (fun (x2:Bool)=>(if x2=true then (some (.inl (14))) else (some (.inl (r1.2))))))))
theorem aJZ (K:Nat) (a0:cM) (a1:dR) (a2:cI):bS Tryz.prog 221 [.agg (dP.cs a0),.agg (eD.cs a1),.agg (cL.cs a2)] [] (bV (aIv K a0 a1 a2)) (fun r=>.c (.val (.int .i64 r))) (fun r=>[]):=by
 refine bS.it Tryz.f221 (fun r=>⟨[sI 6 r],[],[],0⟩) ?_
 unfold aIv
 exact Ref.pt (
  .call [] (aFg _ _ _ _) fun r1 =>
  .lt _ fun x2 =>
  .ite _ (
   .ret [] _) (
   .ret [] _))
def aNL (K:Nat) (a0:cM) (a1:dR) (a2:cG):Option ((Int) ⊕ (Int)) :=
 (bP (if (decide ((a1.dJ:Int) ≥ 0))=true then (bW [cY a1.c6 a0.bM.length,cY a1.dJ ((a0.bM.getD (a1.c6:Int).toNat default).bQ).length] (some (.inr (((((a0.bM.getD (a1.c6:Int).toNat default).bQ).getD (a1.dJ:Int).toNat default).eY).bR,((((a0.bM.getD (a1.c6:Int).toNat default).bQ).getD (a1.dJ:Int).toNat default).eY).fLo,((((a0.bM.getD (a1.c6:Int).toNat default).bQ).getD (a1.dJ:Int).toNat default).eY).fHi,((((a0.bM.getD (a1.c6:Int).toNat default).bQ).getD (a1.dJ:Int).toNat default).eY).cD)))) else (some (.inr (0,0,0,([]:Bytes))))) (fun (u1:Int × Int × Int × Bytes)=>(if (((Int.ofNat a2.cT.length):Int) == 0)=true then (if ((u1.1:Int) != 0)=true then (some (.inl (14))) else (some (.inl (0)))) else (bW [cY 0 a2.cT.length] ((bV (aAR K a0 a1 (a2.cT.getD (0:Int).toNat default))).bind (fun r2=>(if ((r2.2:Int) != 0)=true then (some (.inl (r2.2))) else ((cF (!((u1.1:Int) == 0)) (bV (aGx K a0 (⟨u1.1,u1.2.1,u1.2.2.1,u1.2.2.2⟩:fU) r2.1)) default).bind (fun r4=>(if (((u1.1:Int) == 0) || (!r4))=true then (some (.inl (14))) else (some (.inl (0)))))))))))))
theorem aRQ (K:Nat) (a0:cM) (a1:dR) (a2:cG):bS Tryz.prog 223 [.agg (dP.cs a0),.agg (eD.cs a1),.agg (dO.cs a2)] [] (bV (aNL K a0 a1 a2)) (fun r=>.c (.val (.int .i64 r))) (fun r=>[]):=by
 refine bS.it Tryz.f223 (fun r=>⟨[sI 6 r],[],[],0⟩) ?_
 unfold aNL
 exact Ref.pt (
  .jn (fun u1=>⟨[sP 3 0 0 0,sP 4 1 0 0,sP 5 2 0 0,sP 7 3 0 0],[.cells (dP.cs a0),.cells (eD.cs a1),dO.o a2,.cells [iC u1.1,iC u1.2.1,iC u1.2.2.1,.str u1.2.2.2]],[],0⟩) (
   .ite _ (
    .ex [0,2,7] <|
    .tx [12] <|
    .iU [1,3,4,5,6,8,9,10,11] _ <|
    .tl [12] <|
    .nil [0,1,2,3] _) (
    .nil [0,1,2,3] _)) fun u1 =>
  .ite _ (
   .ite _ (
    .ret [] _) (
    .ret [] _)) (
   .ex [2] <|
   .tx [6,11] <|
   .ex [0,1,3] <|
   .iU [4,5] _ <|
   .kn fun r2 er2 =>
   .all [3,7,34,35,39,40,33,41,42,8,9] (rg (cd (bd Tryz.f223) [1,1,1,1,0])) [true,true,true,true,true,true,false,false,false,false,false,false,false] (hl [(6,.kc [] (bS.eq (aFg _ _ _ _) er2) [])]) ⟨[sP 3 0 0 0,sP 7 1 0 0,sP 8 2 0 0,sI 9 r2.2],[.cells (dP.cs a0),.cells [iC u1.1,iC u1.2.1,iC u1.2.2.1,.str u1.2.2.2],.cells (kD.cs r2.1)],[],0⟩ [.s 3,.s 7,.s 8] <|
   .ite _ (
    .ret [] _) (
    .look (default:Bool) _ [] (aFa K a0 (⟨u1.1,u1.2.1,u1.2.2.1,u1.2.2.2⟩:fU) r2.1) (fun _=>rfl) fun r4 =>
    .ite _ (
     .ret [] _) (
     .ret [] _))))
def aNM (K:Nat) (a0:cG):Option ((Bool) ⊕ (Bool)) :=
 (if ((a0.bR:Int) == 6)=true then (bP (bN ((iter K (fun (dZ:Int)=>(bO (decide ((dZ:Int)<(Int.ofNat a0.eT.length))) (fun (kP:Bool)=>(if kP=true then (bP (bN (bW [cY dZ a0.eT.length] (bO (((Int.ofNat (a0.eT.getD (dZ:Int).toNat default).length):Int) == 0) (fun (x31:Bool)=>(if x31=true then (some (.inl (Sum.inr (Sum.inr (false))))) else (some (.inr ()))))))) (fun (eS:Unit)=>(some (.inr ((IntKind.i64.wrap (dZ+1))))))) else (some (.inl (Sum.inl ()))))))) (0)).map .inl)) (fun (u16:Unit)=>(bO ((((Int.ofNat a0.cT.length):Int) == 1) && (((Int.ofNat a0.bY.length):Int) == (IntKind.i64.wrap ((Int.ofNat a0.eT.length)+1)))) (fun (x32:Bool)=>(some (.inl (x32))))))) else (bO (decide (((Int.ofNat a0.eT.length):Int) > 0)) (fun (x33:Bool)=>(if x33=true then (some (.inl (false))) else (bP (bN (bP (if ((a0.bR:Int) == 1)=true then (some (.inr (((a0.bR:Int) == 1)))) else (some (.inr (((a0.bR:Int) == 3))))) (fun (u46:Bool)=>(if u46=true then (bO ((((Int.ofNat a0.cT.length):Int) == 1) && (((Int.ofNat a0.bY.length):Int) == 0)) (fun (x47:Bool)=>(some (.inl (Sum.inr (x47)))))) else (bP (if ((a0.bR:Int) == 2)=true then (some (.inr (((a0.bR:Int) == 2)))) else (some (.inr (((a0.bR:Int) == 11))))) (fun (l6:Bool)=>(if l6=true then (bO ((((Int.ofNat a0.cT.length):Int) == 2) && (((Int.ofNat a0.bY.length):Int) == 0)) (fun (x49:Bool)=>(some (.inl (Sum.inr (x49)))))) else (if ((a0.bR:Int) == 4)=true then (bO ((((Int.ofNat a0.cT.length):Int) == 1) && (((Int.ofNat a0.bY.length):Int) == 0)) (fun (x50:Bool)=>(bW [!x50 || cY 0 a0.cT.length] (bO (x50 && ((((a0.cT.getD (0:Int).toNat default).bR):Int) == 13)) (fun (x51:Bool)=>(some (.inl (Sum.inr (x51))))))))) else (if ((a0.bR:Int) == 5)=true then (bO ((decide (((Int.ofNat a0.cT.length):Int) ≥ 1)) && (((Int.ofNat a0.bY.length):Int) == (IntKind.i64.wrap ((Int.ofNat a0.cT.length)+1)))) (fun (x52:Bool)=>(some (.inl (Sum.inr (x52)))))) else (if ((a0.bR:Int) == 7)=true then (bO ((((Int.ofNat a0.cT.length):Int) == 1) && (((Int.ofNat a0.bY.length):Int) == 1)) (fun (x53:Bool)=>(some (.inl (Sum.inr (x53)))))) else (if ((a0.bR:Int) == 8)=true then (bO ((((Int.ofNat a0.cT.length):Int) == 2) && (((Int.ofNat a0.bY.length):Int) == 1)) (fun (x54:Bool)=>(some (.inl (Sum.inr (x54)))))) else (if ((a0.bR:Int) == 9)=true then (bO ((decide (((Int.ofNat a0.cT.length):Int)≤1)) && (((Int.ofNat a0.bY.length):Int) == 0)) (fun (x55:Bool)=>(some (.inl (Sum.inr (x55)))))) else (if ((a0.bR:Int) == 10)=true then (bO ((((Int.ofNat a0.cT.length):Int) == 0) && (((Int.ofNat a0.bY.length):Int) == 0)) (fun (x56:Bool)=>(some (.inl (Sum.inr (x56)))))) else (some (.inr ()))))))))))))))) (fun (u45:Unit)=>(some (.inl (false)))))))))
theorem aRR (K:Nat) (a0:cG):bS Tryz.prog 218 [.agg (dO.cs a0)] [] (bV (aNM K a0)) (fun r=>.c (.val (.bool r))) (fun r=>[]):=by
 refine bS.it Tryz.f218 (fun r=>⟨[sB 2 r],[],[],0⟩) ?_
 unfold aNM
 exact Ref.pt (
  .ex [0,3,6] <|
  .tx [] <|
  .ex [1,2,4,5,7,8,9,10,11] <|
  .ite _ (
   .bk 0 (fun u16=>⟨[sI 3 (Int.ofNat a0.cT.length),sI 4 (Int.ofNat a0.bY.length),sI 5 (Int.ofNat a0.eT.length)],[],[],0⟩) (
    .lp [0] (fun dZ=>⟨[sP 1 0 0 0,sI 3 (Int.ofNat a0.cT.length),sI 4 (Int.ofNat a0.bY.length),sI 5 (Int.ofNat a0.eT.length),sI 6 dZ],[dO.o a0],[],0⟩) fun dZ =>
    .lt _ fun kP =>
    .ite _ (
     .bk 1 (fun eS=>⟨[sP 1 0 0 0,sI 3 (Int.ofNat a0.cT.length),sI 4 (Int.ofNat a0.bY.length),sI 5 (Int.ofNat a0.eT.length),sI 6 dZ],[dO.o a0],[],0⟩) (
      .ck _ <|
      .lt _ fun x31 =>
      .ite _ (
       .ret [] _) (
       .nil [0] _)) fun eS =>
     .nil [0] _) (
     .ret [] _)) fun u16 =>
   .lt _ fun x32 =>
   .ret [] _) (
   .lt _ fun x33 =>
   .ite _ (
    .ret [] _) (
    .bk 2 (fun u45=>⟨[],[],[],0⟩) (
     .jn (fun u46=>⟨[sP 1 0 0 0,sI 3 (Int.ofNat a0.cT.length),sI 4 (Int.ofNat a0.bY.length),sI 42 a0.bR,sB 43 u46],[dO.o a0],[],0⟩) (
      .ite _ (
       .nil [0] _) (
       .nil [0] _)) fun u46 =>
     .ite _ (
      .lt _ fun x47 =>
      .ret [] _) (
      .jn (fun l6=>⟨[sP 1 0 0 0,sI 3 (Int.ofNat a0.cT.length),sI 4 (Int.ofNat a0.bY.length),sI 42 a0.bR,sB 52 l6],[dO.o a0],[],0⟩) (
       .ite _ (
        .nil [0] _) (
        .nil [0] _)) fun l6 =>
      .ite _ (
       .lt _ fun x49 =>
       .ret [] _) (
       .ite _ (
        .lt _ fun x50 =>
        .ck _ <|
        .lt _ fun x51 =>
        .ret [] _) (
        .ite _ (
         .lt _ fun x52 =>
         .ret [] _) (
         .ite _ (
          .lt _ fun x53 =>
          .ret [] _) (
          .ite _ (
           .lt _ fun x54 =>
           .ret [] _) (
           .ite _ (
            .lt _ fun x55 =>
            .ret [] _) (
            .ite _ (
             .lt _ fun x56 =>
             .ret [] _) (
             .nil [] _))))))))) fun u45 =>
    .ret [] _)))
end Go.Proofs.YtdbfbedholdjaaaGreat
