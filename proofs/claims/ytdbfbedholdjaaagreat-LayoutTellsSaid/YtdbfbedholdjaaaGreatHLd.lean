/- No conditions. -/
import Derived.Test.YtdbfbedholdjaaaGreatHLA
import Derived.Test.YtdbfbedholdjaaaGreatProg
set_option linter.unusedVariables false
set_option linter.unusedSimpArgs false
set_option linter.unusedSectionVars false
namespace Go.Proofs.YtdbfbedholdjaaaGreat
open Go Go.Proofs Go.Dl
variable [dO]
set_option maxRecDepth 100000
set_option maxHeartbeats 4000000
def aMi (K:Nat) (a0:cK) (a1:dS) (a2:cM):Option ((Int × Int) ⊕ (Int × Int)) :=
 ((bX (aBb K a0 a1.cZ)).bind (fun r1=>(bT (bQ (if ((a2.fN:Int) == 0)=true then ((bX (aIZ K a0 a1 a2.cD)).bind (fun j7=>(if (!j7.2)=true then (some (.inl (Sum.inr (0,13)))) else (bR (((j7.1.cB.bU:Int) != 6) && (((j7.1.cB.bU:Int) != 5) || (j7.1.cB.cD == ([]:Bytes)))) (fun (x11:Bool)=>(if x11=true then (some (.inl (Sum.inr (0,14)))) else ((bX (aI0 K a0 j7.1.cB.cD)).bind (fun r12=>(if (!r12)=true then (some (.inl (Sum.inr (0,13)))) else ((bX (F61 K a0 j7.1.cB.cD)).bind (fun r13=>(some (.inl (Sum.inr (r13,0))))))))))))))) else (if ((a2.fN:Int) == 1)=true then ((bX (aIY K a0 a1)).bind (fun r14=>(if (!r14)=true then (some (.inl (Sum.inr (0,15)))) else (some (.inl (Sum.inr (a1.cZ,0))))))) else (if ((a2.fN:Int) == 2)=true then ((bX (aIY K a0 a1)).bind (fun r15=>(bR ((!r15) || (decide (((Int.ofNat r1.length):Int)<2))) (fun (x16:Bool)=>(if x16=true then (some (.inl (Sum.inr (0,15)))) else (bY [cP 1 r1.length] (some (.inl (Sum.inr ((r1.getD (1:Int).toNat default),0)))))))))) else (some (.inr ())))))) (fun (u9:Unit)=>(some (.inl (0,14)))))))
theorem aKB (K:Nat) (a0:cK) (a1:dS) (a2:cM):bV Tryz.prog 159 [.agg (c9.cs a0),.agg (dY.cs a1),.agg (cN.cs a2)] [] (bX (aMi K a0 a1 a2)) (fun r=>.jW [.c (.val (.int .i64 r.1)),.c (.val (.int .i64 r.2))]) (fun r=>[]):=by
 refine bV.it Tryz.f159 (fun r=>⟨[sI 6 r.1,sI 7 r.2],[],[],0⟩) ?_
 unfold aMi
 exact Ref.pt (
  .call [] (pN _ _ _) fun r1 =>
  .bk 0 (fun u9=>⟨[],[],[],0⟩) (
   .ite _ (
    .call [] (aFG _ _ _ _) fun j7 =>
    .ite _ (
     .ret [] _) (
     .lt _ fun x11 =>
     .ite _ (
      .ret [] _) (
      .call [] (aKu _ _ _) fun r12 =>
      .ite _ (
       .ret [] _) (
       .call [] (lB _ _ _) fun r13 =>
       .ret [] _)))) (
    .ite _ (
     .call [] (aFF _ _ _) fun r14 =>
     .ite _ (
      .ret [] _) (
      .ret [] _)) (
     .ite _ (
      .call [] (aFF _ _ _) fun r15 =>
      .lt _ fun x16 =>
      .ite _ (
       .ret [] _) (
       .ck _ <|
       .ret [] _)) (
      .nil [] _)))) fun u9 =>
  .ret [] _)
mutual
def aFL:(K:Nat)→(cK)→(dS)→(cM)→Option ((fS × Int) ⊕ (fS × Int))
 | 0,_,_,_=>none
 | K+1,a0,a1,a2 =>
 ((bX (aMi K a0 a1 a2)).bind (fun r1=>(if ((r1.2:Int) != 0)=true then (some (.inl ((⟨0,0,0,([]:Bytes)⟩:fS),r1.2))) else ((bX (aEd K a0 r1.1 a2.yL)).bind (fun r2=>(if (!r2.2)=true then (some (.inl ((⟨0,0,0,([]:Bytes)⟩:fS),15))) else ((bX (F63 K a0 r2.1)).bind (fun r3=>(if (((a2.fN:Int) == 2) && r3.eT)=true then (some (.inl ((⟨0,0,0,([]:Bytes)⟩:fS),15))) else ((bX (aEe K a0 a1 a2.fP)).bind (fun r4=>(if ((r4.2:Int) != 0)=true then (some (.inl ((⟨0,0,0,([]:Bytes)⟩:fS),r4.2))) else (bR (((Int.ofNat r4.1.length):Int) != (Int.ofNat r3.cG.length)) (fun (x5:Bool)=>(if x5=true then (some (.inl ((⟨0,0,0,([]:Bytes)⟩:fS),15))) else (bT (bQ ((iter K (fun (rL:Int)=>(bR (decide ((rL:Int)<(Int.ofNat r4.1.length))) (fun (x33:Bool)=>(if x33=true then (bT (bQ (bY [cP rL r4.1.length] (bY [cP rL r3.cG.length] ((cE true (bX (aG3 K a0 ((r3.cG.getD (rL:Int).toNat default).cB) (r4.1.getD (rL:Int).toNat default))) default).bind (fun r36=>(if (!r36)=true then (some (.inl (Sum.inr (Sum.inr ((⟨0,0,0,([]:Bytes)⟩:fS),15))))) else (some (.inr ())))))))) (fun (u35:Unit)=>(some (.inr ((IntKind.i64.wrap (rL+1))))))) else (some (.inl (Sum.inl ()))))))) (0)).map .inl)) (fun (gT:Unit)=>(some (.inl (r3.eU,0))))))))))))))))))))
def aEe:(K:Nat)→(cK)→(dS)→((List cM))→Option (((List fS) × Int) ⊕ ((List fS) × Int))
 | 0,_,_,_=>none
 | K+1,a0,a1,a2 =>
 (bT (bQ ((iter K (fun (jG:(List fS) × Int)=>(bR (decide ((jG.2:Int)<(Int.ofNat a2.length))) (fun (x36:Bool)=>(if x36=true then (bT (bQ (bY [cP jG.2 a2.length] ((bX (aBf K a0 a1 (a2.getD (jG.2:Int).toNat default))).bind (fun r40=>(if ((r40.2:Int) != 0)=true then (some (.inl (Sum.inr (Sum.inr ([],r40.2))))) else (bY [room ((jG.1.length+([r40.1].length)) * 40)] (some (.inr ((jG.1++[r40.1])))))))))) (fun (u39:(List fS))=>(some (.inr (u39,(IntKind.i64.wrap (jG.2+1))))))) else (some (.inl (Sum.inl (jG.1)))))))) ([],0)).map .inl)) (fun (gT:(List fS))=>(some (.inl (gT,0)))))
def aBf:(K:Nat)→(cK)→(dS)→(cM)→Option ((fS × Int) ⊕ (fS × Int))
 | 0,_,_,_=>none
 | K+1,a0,a1,a2 =>
 ((bX (aG2 K a0 a1)).bind (fun r1=>(if (!r1)=true then (some (.inl ((⟨0,0,0,([]:Bytes)⟩:fS),22))) else (if ((a2.bU:Int) == 13)=true then ((bX (aFL K a0 a1 a2)).bind (fun r2=>(bR (((r2.2:Int) == 0) && ((r2.1.bU:Int) == 0)) (fun (x3:Bool)=>(if x3=true then (some (.inl ((⟨0,0,0,([]:Bytes)⟩:fS),14))) else (some (.inl (r2.1,r2.2)))))))) else ((bX (aOl K a2.bU)).bind (fun r4=>(bR ((decide ((r4:Int)<0)) || (((Int.ofNat a2.fP.length):Int) != r4)) (fun (x5:Bool)=>(if x5=true then (some (.inl ((⟨0,0,0,([]:Bytes)⟩:fS),14))) else ((bX (aIZ K a0 a1 a2.cD)).bind (fun r6=>(bT (bQ (if ((a2.bU:Int) == 1)=true then (some (.inl (Sum.inr ((⟨1,0,0,([]:Bytes)⟩:fS),0)))) else (bT (if ((a2.bU:Int) == 2)=true then (some (.inr (((a2.bU:Int) == 2)))) else (some (.inr (((a2.bU:Int) == 3))))) (fun (vO:Bool)=>(if vO=true then (some (.inl (Sum.inr ((⟨2,0,0,([]:Bytes)⟩:fS),0)))) else (if ((a2.bU:Int) == 4)=true then (some (.inl (Sum.inr ((⟨5,0,0,([]:Bytes)⟩:fS),0)))) else (bT (if ((a2.bU:Int) == 5)=true then (some (.inr (((a2.bU:Int) == 5)))) else (if ((a2.bU:Int) == 6)=true then (some (.inr (((a2.bU:Int) == 6)))) else (if ((a2.bU:Int) == 10)=true then (some (.inr (((a2.bU:Int) == 10)))) else (if ((a2.bU:Int) == 11)=true then (some (.inr (((a2.bU:Int) == 11)))) else (some (.inr (((a2.bU:Int) == 12)))))))) (fun (sD:Bool)=>(if sD=true then (if (!r6.2)=true then (some (.inl (Sum.inr ((⟨0,0,0,([]:Bytes)⟩:fS),13)))) else ((bX (aI3 K a0 a1 a2 r6.1)).bind (fun r14=>(some (.inl (Sum.inr (r14.1,r14.2))))))) else (if ((a2.bU:Int) == 14)=true then ((bX (aI0 K a0 a2.cD)).bind (fun r15=>(if (!r15)=true then (some (.inl (Sum.inr ((⟨0,0,0,([]:Bytes)⟩:fS),13)))) else (some (.inr ()))))) else (some (.inr ())))))))))))) (fun (u11:Unit)=>(bY [c5 a2.fP.length 0 r4] ((bX (aEe K a0 a1 ((a2.fP.drop (0:Int).toNat).take ((r4:Int).toNat - (0:Int).toNat)))).bind (fun mI=>(if ((mI.2:Int) != 0)=true then (some (.inl ((⟨0,0,0,([]:Bytes)⟩:fS),mI.2))) else (bT (bQ (bY [!((a2.bU:Int) == 7) || cP 0 mI.1.length,!(((a2.bU:Int) == 8) && (!(((a2.bU:Int) == 7) && ((((mI.1.getD (0:Int).toNat default).bU):Int) == 1)))) || cP 0 mI.1.length] (bR ((((a2.bU:Int) == 7) && ((((mI.1.getD (0:Int).toNat default).bU):Int) == 1)) || (((a2.bU:Int) == 8) && ((((mI.1.getD (0:Int).toNat default).bU):Int) == 2))) (fun (x23:Bool)=>(if x23=true then (bY [cP 0 mI.1.length] (some (.inl (Sum.inr ((mI.1.getD (0:Int).toNat default),0))))) else (if ((a2.bU:Int) == 9)=true then (bY [cP 0 mI.1.length,cP 1 mI.1.length] ((bX (aMa K a2.fN (mI.1.getD (0:Int).toNat default) (mI.1.getD (1:Int).toNat default))).bind (fun r24=>(some (.inl (Sum.inr (r24.1,r24.2))))))) else (bY [!((a2.bU:Int) == 14) || cP 0 mI.1.length] (bR (((a2.bU:Int) == 14) && ((((mI.1.getD (0:Int).toNat default).bU):Int) == 5)) (fun (uS:Bool)=>(if uS=true then (some (.inl (Sum.inr ((⟨5,0,0,a2.cD⟩:fS),0)))) else (some (.inr ())))))))))))) (fun (eA:Unit)=>(some (.inl ((⟨0,0,0,([]:Bytes)⟩:fS),14))))))))))))))))))))))
def aI3:(K:Nat)→(cK)→(dS)→(cM)→(eZ)→Option ((fS × Int) ⊕ (fS × Int))
 | 0,_,_,_,_=>none
 | K+1,a0,a1,a2,a3 =>
 (bT (bQ (if ((a2.bU:Int) == 5)=true then (bT (bQ (bT (if ((a3.cB.bU:Int) == 1)=true then (some (.inr (((a3.cB.bU:Int) == 1)))) else (some (.inr (((a3.cB.bU:Int) == 3))))) (fun (u9:Bool)=>(if u9=true then (some (.inl (Sum.inr (Sum.inr ((⟨1,0,0,([]:Bytes)⟩:fS),0))))) else (if ((a3.cB.bU:Int) == 2)=true then (some (.inl (Sum.inr (Sum.inr ((⟨2,0,0,([]:Bytes)⟩:fS),0))))) else (if ((a3.cB.bU:Int) == 5)=true then (some (.inl (Sum.inr (Sum.inr (a3.cB,0))))) else (some (.inr ())))))))) (fun (u8:Unit)=>(some (.inr ())))) else (if ((a2.bU:Int) == 6)=true then (if ((a3.cB.bU:Int) != 4)=true then (some (.inl (Sum.inr ((⟨0,0,0,([]:Bytes)⟩:fS),14)))) else (bY [cP 0 a2.fP.length] ((bX (aBf K a0 a1 (a2.fP.getD (0:Int).toNat default))).bind (fun j7=>(if ((j7.2:Int) != 0)=true then (some (.inl (Sum.inr ((⟨0,0,0,([]:Bytes)⟩:fS),j7.2)))) else (if ((j7.1.bU:Int) == 1)=true then (some (.inl (Sum.inr ((⟨1,0,0,([]:Bytes)⟩:fS),0)))) else (some (.inr ())))))))) else (if ((a2.bU:Int) == 10)=true then (if ((a3.cB.bU:Int) == 6)=true then (some (.inl (Sum.inr ((⟨5,0,0,a3.cB.cD⟩:fS),0)))) else (some (.inr ()))) else (if ((a2.bU:Int) == 11)=true then (if ((a3.cB.bU:Int) == 7)=true then (some (.inl (Sum.inr ((⟨2,0,0,([]:Bytes)⟩:fS),0)))) else (some (.inr ()))) else (if ((a2.bU:Int) == 12)=true then (if ((a3.cB.bU:Int) == 7)=true then (some (.inl (Sum.inr ((⟨1,0,0,([]:Bytes)⟩:fS),0)))) else (some (.inr ()))) else (some (.inr ())))))))) (fun (u6:Unit)=>(some (.inl ((⟨0,0,0,([]:Bytes)⟩:fS),14)))))
end
abbrev aCQ (v0:fS × Int):List (Nat × D):=[(37,.jW [.agg (jV.cs v0.1),.c (iC v0.2)]),(45,.agg (jV.cs v0.1))]
abbrev pY (v0:cK) (v1:dS):List Go.Dl.Obj:=[.cells (c9.cs v0),.cells (dY.cs v1)]
abbrev aCR:List (Nat × D):=[sP 3 0 0 0,sP 4 1 0 0,sP 5 2 0 0,sP 6 3 0 0]
theorem aFM:∀ K:Nat,(∀ (a0:cK),∀ (a1:dS),∀ (a2:cM),bV Tryz.prog 220 [.agg (c9.cs a0),.agg (dY.cs a1),.agg (cN.cs a2)] [] (bX (aFL K a0 a1 a2)) (fun r=>.jW [.agg (jV.cs r.1),.c (.val (.int .i64 r.2))]) (fun r=>[.cells (jV.cs r.1)]))∧(∀ (a0:cK),∀ (a1:dS),∀ (a2:(List cM)),bV Tryz.prog 224 [.agg (c9.cs a0),.agg (dY.cs a1),.c (cN.tree a2)] [] (bX (aEe K a0 a1 a2)) (fun r=>.jW [.c (jV.tree r.1),.c (.val (.int .i64 r.2))]) (fun r=>[]))∧(∀ (a0:cK),∀ (a1:dS),∀ (a2:cM),bV Tryz.prog 226 [.agg (c9.cs a0),.agg (dY.cs a1),.agg (cN.cs a2)] [] (bX (aBf K a0 a1 a2)) (fun r=>.jW [.agg (jV.cs r.1),.c (.val (.int .i64 r.2))]) (fun r=>[.cells (jV.cs r.1)]))∧(∀ (a0:cK),∀ (a1:dS),∀ (a2:cM),∀ (a3:eZ),bV Tryz.prog 228 [.agg (c9.cs a0),.agg (dY.cs a1),.agg (cN.cs a2),.agg (eX.cs a3)] [] (bX (aI3 K a0 a1 a2 a3)) (fun r=>.jW [.agg (jV.cs r.1),.c (.val (.int .i64 r.2))]) (fun r=>[.cells (jV.cs r.1)])):=by
 intro K
 induction K with
 | zero=>exact ⟨fun a0 a1 a2=>bV.none (by rw[aFL];rfl),fun a0 a1 a2=>bV.none (by rw[aEe];rfl),fun a0 a1 a2=>bV.none (by rw[aBf];rfl),fun a0 a1 a2 a3=>bV.none (by rw[aI3];rfl)⟩
 | succ K ih =>
  obtain ⟨a1o,aVf,aOx,a1p⟩:=ih
  refine ⟨?_,?_,?_,?_⟩
  ·
   intro a0 a1 a2
   refine bV.it Tryz.f220 (fun r=>⟨[sP 6 0 0 0,sI 7 r.2],[.cells (jV.cs r.1)],[],0⟩) ?_
   rw[aFL]
   exact Ref.pt (
    .call [] (aKB _ _ _ _) fun r1 =>
    .ite _ (
     .ret [3] _) (
     .call [] (uT _ _ _ _) fun r2 =>
     .ite _ (
      .ret [3] _) (
      .call [] (wL _ _ _) fun r3 =>
      .ite _ (
       .ret [3] _) (
       .sl 10 6 52 (x:=.c (qO a2.fP)) (y:=(.c (cN.tree a2.fP))) (jS.c (tS _)) <|
       .call [] (aVf _ _ _) fun r4 =>
       .ite _ (
        .ret [3] _) (
        .lt _ fun x5 =>
        .ite _ (
         .ret [3] _) (
         .bk 0 (fun gT=>⟨[sP 6 0 0 0,sP 12 1 0 0],[uU,jO.o r3],[],0⟩) (
          .lp [0,3,7] (fun rL=>⟨[sP 3 0 0 0,sP 6 1 0 0,sP 12 2 0 0,(13,.c (jV.tree r4.1)),sI 14 rL],[.cells (c9.cs a0),uU,jO.o r3],[],0⟩) fun rL =>
          .lt _ fun x33 =>
          .ite _ (
           .bk 1 (fun u35=>⟨[sP 3 0 0 0,sP 6 1 0 0,sP 12 2 0 0,(13,.c (jV.tree r4.1)),sI 14 rL],[.cells (c9.cs a0),uU,jO.o r3],[],0⟩) (
            .hO [1,3,7,8,9] _ <|
            .tx [] <|
            .hO [0,2,4,5,6,10] _ <|
            .dQ 11 (default:Bool) _ [] (aFH K a0 ((gd r3.cG rL).cB) (gd r4.1 rL)) (fun _=>rfl) fun r36 =>
            .ex [12] <|
            .ite _ (
             .ret [1] _) (
             .nil [0,1,2] _)) fun u35 =>
           .nil [0,1,2] _) (
           .ret [1,2] _)) fun gT =>
         .ret [0] _))))))
  ·
   intro a0 a1 a2
   refine bV.it Tryz.f224 (fun r=>⟨[(6,.c (jV.tree r.1)),sI 7 r.2],[],[],0⟩) ?_
   rw[aEe]
   exact Ref.pt (
    .bk 0 (fun gT=>⟨[(8,.c (.own 0 gT.length))],[jV.row gT],[],0⟩) (
     .ad 2 0 8 jV.ty jV.w (jV.at []) <|
     .lp [0,1,2] (fun jG=>⟨[(2,.c (cN.tree a2)),sP 3 0 0 0,sP 4 1 0 0,(8,.c (.own 2 jG.1.length)),sI 9 jG.2],pY a0 a1++[jV.row jG.1],[],0⟩) fun jG =>
     .lt _ fun x36 =>
     .ite _ (
      .bk 1 (fun u39=>⟨[(2,.c (cN.tree a2)),sP 3 0 0 0,sP 4 1 0 0,(8,.c (.own 2 u39.length)),sI 9 jG.2],pY a0 a1++[jV.row u39],[],0⟩) (
       .ex [2,3] <|
       .tx [6,11] <|
       .hO [0,1,4,5] _ <|
       .kn fun r40 a56 =>
       .all [2,3,4,8,9,19,20,24,25,18,26,27,10,11] (rg (cd (bd Tryz.f224) [1,1,0,1,0,0,1,0,0,0])) [true,true,true,true,true,true,false,false,false,false,false,false,false] (hl [(6,.kc [] (bV.eq (aOx _ _ _) a56) [])]) ⟨[(2,.c (cN.tree a2)),sP 3 0 0 0,sP 4 1 0 0,(8,.c (.own 2 jG.1.length)),sI 9 jG.2,sP 10 3 0 0,sI 11 r40.2],pY a0 a1++[jV.row jG.1,.cells (jV.cs r40.1)],[],0⟩ [.s 3,.s 4,.s 8,.s 10] <|
       .ite _ (
        .sl 7 0 6 (x:=.c (.nil)) (y:=(.c (jV.tree []))) (jS.c (El.cJ jV)) <|
        .ret [] _) (
        .ob 8 2 4 (El.b9 jV [r40.1] rfl rfl) <|
        .ck _ <|
        .ap 8 1 5 34 jV jG.1 [r40.1] <|
        .nil [0,1,5] _)) fun u39 =>
      .nil [0,1,2] _) (
      .ret [2] _)) fun gT =>
    .fz 9 0 0 <|
    .ret [] _)
  ·
   intro a0 a1 a2
   refine bV.it Tryz.f226 (fun r=>⟨[sP 6 0 0 0,sI 7 r.2],[.cells (jV.cs r.1)],[],0⟩) ?_
   rw[aBf]
   exact Ref.pt (
    .call [] (aBM _ _ _) fun r1 =>
    .ite _ (
     .ret [3] _) (
     .ite _ (
      .call [] (a1o _ _ _) fun r2 =>
      .lt _ fun x3 =>
      .ite _ (
       .ret [3] _) (
       .ret [3] _)) (
      .call [] (aS4 _ _) fun r4 =>
      .lt _ fun x5 =>
      .ite _ (
       .ret [3] _) (
       .call [] (aFG _ _ _ _) fun r6 =>
       .bk 0 (fun u11=>⟨aCR++[sI 10 r4],pY a0 a1++[cN.o a2,uU],[],0⟩) (
        .ite _ (
         .ret [3] _) (
         .jn (fun vO=>⟨aCR++[sI 10 r4,sP 11 4 0 0,sB 12 r6.2,sI 62 a2.bU,sB 66 vO],pY a0 a1++[cN.o a2,uU,eX.o r6.1],[],0⟩) (
          .ite _ (
           .nil [0,1,2,3,5] _) (
           .nil [0,1,2,3,5] _)) fun vO =>
         .ite _ (
          .ret [3] _) (
          .ite _ (
           .ret [3] _) (
           .jn (fun sD=>⟨aCR++[sI 10 r4,sP 11 4 0 0,sB 12 r6.2,sI 62 a2.bU,sB 73 sD],pY a0 a1++[cN.o a2,uU,eX.o r6.1],[],0⟩) (
            .ite _ (
             .nil [0,1,2,3,4] _) (
             .ite _ (
              .nil [0,1,2,3,4] _) (
              .ite _ (
               .nil [0,1,2,3,4] _) (
               .ite _ (
                .nil [0,1,2,3,4] _) (
                .nil [0,1,2,3,4] _))))) fun sD =>
           .ite _ (
            .ite _ (
             .ret [3] _) (
             .call [] (a1p _ _ _ _) fun r14 =>
             .ret [3] _)) (
            .ite _ (
             .call [] (aKu _ _ _) fun r15 =>
             .ite _ (
              .ret [3] _) (
              .nil [0,1,2,3] _)) (
             .nil [0,1,2,3] _)))))) fun u11 =>
       .esc [0,1,2,3] [(cd (bd Tryz.f226) [1,1,1,1,1,1,1,0]),(cd (bd Tryz.f226) [1,1,1,1,1,1,1,1])] ⟨aCR++[sI 10 r4],pY a0 a1++[cN.o a2,uU],[],0⟩ (by
        refine Ref.wA 31 (by kernel_rfl) (by kernel_rfl) ?_
        refine gI.aAa (dD:=⟨aCR++[sP 100 2 0 4,sI 102 r4],pY a0 a1++[cN.o a2,uU],[],0⟩) (fuel':=10) [2,4] [3,4,5,6,100,102] [0,1,2,3] rfl (by kernel_rfl) (by kernel_rfl) ?_
        refine gI.toX [6] ?_
        refine cX.aFo (fun (mI:(List fS) × Int)=>⟨[sP 5 0 0 0,sP 6 1 0 0,(13,.c (jV.tree mI.1)),sI 14 mI.2],[cN.o a2,uU],[],0⟩) (fun (mI:(List fS) × Int)=>(if ((mI.2:Int) != 0)=true then (some (.inl ((⟨0,0,0,([]:Bytes)⟩:fS),mI.2))) else (bT (bQ (bY [!((a2.bU:Int) == 7) || cP 0 mI.1.length,!(((a2.bU:Int) == 8) && (!(((a2.bU:Int) == 7) && ((((gd mI.1 0).bU):Int) == 1)))) || cP 0 mI.1.length] (bR ((((a2.bU:Int) == 7) && ((((gd mI.1 0).bU):Int) == 1)) || (((a2.bU:Int) == 8) && ((((gd mI.1 0).bU):Int) == 2))) (fun (x23:Bool)=>(if x23=true then (bY [cP 0 mI.1.length] (some (.inl (Sum.inr ((gd mI.1 0),0))))) else (if ((a2.bU:Int) == 9)=true then (bY [cP 0 mI.1.length,cP 1 mI.1.length] ((bX (aMa K a2.fN (gd mI.1 0) (gd mI.1 1))).bind (fun r24=>(some (.inl (Sum.inr (r24.1,r24.2))))))) else (bY [!((a2.bU:Int) == 14) || cP 0 mI.1.length] (bR (((a2.bU:Int) == 14) && ((((gd mI.1 0).bU):Int) == 5)) (fun (uS:Bool)=>(if uS=true then (some (.inl (Sum.inr ((⟨5,0,0,a2.cD⟩:fS),0)))) else (some (.inr ())))))))))))) (fun (eA:Unit)=>(some (.inl ((⟨0,0,0,([]:Bytes)⟩:fS),14))))))) (fun mI=>?_) (fun hk=>?_)
        ·
         exact Ref.pt (
          .ite _ (
           .ret [1] _) (
           .bk 1 (fun eA=>⟨[sP 6 0 0 0],[uU],[],0⟩) (
            .ck _ <|
            .lt _ fun x23 =>
            .ite _ (
             .ck _ <|
             .ret [1] _) (
             .ite _ (
              .hO [0,2,3,5,6] _ <|
              .tx [8,11] <|
              .ex [1,4,7] <|
              .kn fun r24 aXy =>
              .all [6,142,145,148,149,150,151,7] (rg (cd (bd Tryz.f226) [1,1,1,1,1,1,1,1,1,0,0,1,1,1,0,0])) [true,true,true,true,true,true,true,true,false,false,false,false,false] (hl [(8,.kc [] (bV.eq (aS5 _ _ _ _) aXy) [])]) ⟨[sP 6 0 0 0,sI 7 r24.2],[.cells (jV.cs r24.1)],[],0⟩ [.s 6] <|
              .ret [0] _) (
              .ck _ <|
              .lt _ fun uS =>
              .ite _ (
               .ret [1] _) (
               .nil [1] _)))) fun eA =>
           .ret [0] _))
        ·
         refine cX.aAa (dD:=⟨[sP 5 0 0 0,sP 6 1 0 0,(98,.agg (c9.cs a0)),(99,.agg (dY.cs a1)),(101,.c (qO a2.fP)),sI 102 r4],[cN.o a2,uU],[],0⟩) (fuel':=7) [0,1,3] [5,6,98,99,101,102] [2,3] rfl (by kernel_rfl) (by kernel_rfl) ?_
         refine cX.conv (Conv.sl 101 (.c (cN.tree a2.fP)) (jS.c (tS _))) ?_
         refine cX.evH (vs:=[c5 a2.fP.length 0 r4]) (dD:=⟨[sP 5 0 0 0,sP 6 1 0 0,(98,.agg (c9.cs a0)),(99,.agg (dY.cs a1)),(103,.c (.tree cN.w ((r4:Int).toNat - (0:Int).toNat) fun i j=>cN.at a2.fP ((0:Int).toNat+i) j))],[cN.o a2,uU],[],0⟩) (fuel':=6) [5] [5,6,98,99,103] [0,1] rfl (by kernel_rfl) (by kernel_rfl) (fun hv=>?_)
         refine cX.conv (Conv.sl 103 (.c (cN.tree ((a2.fP.drop (0:Int).toNat).take ((r4:Int).toNat - (0:Int).toNat)))) (jS.c (El.oH cN _ (tI (hv _ (List.Mem.head _)))))) ?_
         refine cX.mV (fuel':=5) 6 (by kernel_rfl) ?_
         refine eQ.c8 (t:=104) 6 [] rfl (by kernel_rfl) (aVf a0 a1 ((a2.fP.drop (0:Int).toNat).take ((r4:Int).toNat - (0:Int).toNat))) (fun mI=>?_)
         refine cX.v0 (fuel':=0) [7,8,9,10,11] [5,6,13,14] [0,1] ?_
         refine cX.done (by kernel_rfl) ?_
         refine Ref.ck ⟨[sP 5 0 0 0,sP 6 1 0 0,(13,.c (jV.tree mI.1)),sI 14 mI.2],[cN.o a2,uU],[],0⟩ [5,6,13,14] [0,1] ?_
         exact hk mI)))))
  ·
   intro a0 a1 a2 a3
   refine bV.it Tryz.f228 (fun r=>⟨[sP 8 0 0 0,sI 9 r.2],[.cells (jV.cs r.1)],[],0⟩) ?_
   rw[aI3]
   exact Ref.pt (
    .bk 0 (fun u6=>⟨[sP 8 0 0 0],[uU],[],0⟩) (
     .ite _ (
      .bk 1 (fun u8=>⟨[sP 8 0 0 0],[uU],[],0⟩) (
       .jn (fun u9=>⟨[sP 7 0 0 0,sP 8 1 0 0,sI 20 a3.cB.bU,sB 21 u9],[eX.o a3,uU],[],0⟩) (
        .ite _ (
         .nil [3,4] _) (
         .nil [3,4] _)) fun u9 =>
       .ite _ (
        .ret [1] _) (
        .ite _ (
         .ret [1] _) (
         .ite _ (
          .ret [1] _) (
          .nil [1] _)))) fun u8 =>
      .nil [0] _) (
      .ite _ (
       .ite _ (
        .ret [4] _) (
        .esc [0,1,2,4] [(cd (bd Tryz.f228) [1,1,0,1,0,1,1,1,0,1,0]),(cd (bd Tryz.f228) [1,1,0,1,0,1,1,1,0,1,1])] ⟨[sP 4 0 0 0,sP 5 1 0 0,sP 6 2 0 0,sP 8 3 0 0,sB 35 ((a3.cB.bU:Int) != 4)],pY a0 a1++[cN.o a2,uU],[],0⟩ (by
         refine Ref.wA 15 (by kernel_rfl) (by kernel_rfl) ?_
         refine gI.aAa (dD:=⟨[sP 4 0 0 0,sP 5 1 0 0,sP 8 3 0 0,sP 40 2 0 4],pY a0 a1++[cN.o a2,uU],[],0⟩) (fuel':=12) [2] [4,5,8,40] [0,1,2,3] rfl (by kernel_rfl) (by kernel_rfl) ?_
         refine gI.toX [6,11] ?_
         refine cX.aFo (fun (j7:fS × Int)=>⟨[sP 8 0 0 0,sP 11 1 0 0,sI 12 j7.2],[uU,.cells (jV.cs j7.1)],[],0⟩) (fun (j7:fS × Int)=>(if ((j7.2:Int) != 0)=true then (some (.inl (Sum.inr ((⟨0,0,0,([]:Bytes)⟩:fS),j7.2)))) else (if ((j7.1.bU:Int) == 1)=true then (some (.inl (Sum.inr ((⟨1,0,0,([]:Bytes)⟩:fS),0)))) else (some (.inr ()))))) (fun j7=>?_) (fun hk=>?_)
         ·
          exact Ref.pt (
           .ite _ (
            .ret [0] _) (
            .ite _ (
             .ret [0] _) (
             .nil [0] _)))
         ·
          refine cX.aAa (dD:=⟨[sP 8 0 0 0,(38,.agg (c9.cs a0)),(39,.agg (dY.cs a1)),(41,.c (qO a2.fP))],[uU],[],0⟩) (fuel':=9) [0,1,3] [8,38,39,41] [3] rfl (by kernel_rfl) (by kernel_rfl) ?_
          refine cX.conv (Conv.sl 41 (.c (cN.tree a2.fP)) (jS.c (tS _))) ?_
          refine cX.v1 (fuel':=7) [cP 0 a2.fP.length] [4,5] [8,38,39,43] [0] ?_
          refine cX.aU1 (fuel':=6) 6 10 (by kernel_rfl) ?_ ?_
          ·
           refine eQ.c8 (t:=44) 6 [] rfl (by kernel_rfl) (aOx a0 a1 (gd a2.fP 0)) (fun j7=>?_)
           refine cX.aAa (dD:=⟨sP 8 0 0 0::aCQ j7,[uU],[],0⟩) (fuel':=4) [7,8] [8,37,45] [0] rfl (by kernel_rfl) (by kernel_rfl) ?_
           refine cX.aNQ (fuel':=3) [[],[(9,46)]] [(9,46)] [8,37,45] [0] ⟨sP 8 0 0 0::(aCQ j7++[sI 46 j7.2]),[uU],[],0⟩ ?_
           refine gO.mV (fuel':=2) 10 ?_
           refine gU.aED (dD:=⟨sP 8 0 0 0::sP 11 1 0 0::(aCQ j7++[sI 46 j7.2]),[uU,uU],[],0⟩) 10 [8,11,37,45,46] [0,1] (by kernel_rfl) (by kernel_rfl) ?_
           refine gO.mV (fuel':=1) 11 ?_
           refine gU.aBA (dD:=⟨[sP 8 0 0 0,sP 11 1 0 0,(37,.jW [.agg (jV.cs j7.1),.c (iC j7.2)]),sI 46 j7.2],[uU,.cells (jV.cs j7.1)],[],0⟩) 11 [8,11,37,46] [0,1] (by kernel_rfl) (by kernel_rfl) ?_
           refine gO.close ?_
           refine cX.v0 (fuel':=0) [12] [8,11,12] [0,1] ?_
           refine cX.done (by kernel_rfl) ?_
           refine Ref.ck ⟨[sP 8 0 0 0,sP 11 1 0 0,sI 12 j7.2],[uU,.cells (jV.cs j7.1)],[],0⟩ [8,11,12] [0,1] ?_
           exact hk j7
          ·
           refine eQ.a0 10 [8,11,38,39,43] [0,1] ?_
           refine cX.mV (fuel':=5) 6 (by kernel_rfl) ?_
           refine eQ.c8 (t:=44) 6 [] rfl (by kernel_rfl) (aOx a0 a1 (gd a2.fP 0)) (fun j7=>?_)
           refine cX.aAa (dD:=⟨sP 8 0 0 0::sP 11 1 0 0::aCQ j7,[uU,uU],[],0⟩) (fuel':=3) [7,8] [8,11,37,45] [0,1] rfl (by kernel_rfl) (by kernel_rfl) ?_
           refine cX.aNQ (fuel':=2) [[],[(9,46)]] [(9,46)] [8,11,37,45] [0,1] ⟨sP 8 0 0 0::sP 11 1 0 0::(aCQ j7++[sI 46 j7.2]),[uU,uU],[],0⟩ ?_
           refine gO.mV (fuel':=1) 11 ?_
           refine gU.aBA (dD:=⟨[sP 8 0 0 0,sP 11 1 0 0,(37,.jW [.agg (jV.cs j7.1),.c (iC j7.2)]),sI 46 j7.2],[uU,.cells (jV.cs j7.1)],[],0⟩) 11 [8,11,37,46] [0,1] (by kernel_rfl) (by kernel_rfl) ?_
           refine gO.close ?_
           refine cX.v0 (fuel':=0) [12] [8,11,12] [0,1] ?_
           refine cX.done (by kernel_rfl) ?_
           refine Ref.ck ⟨[sP 8 0 0 0,sP 11 1 0 0,sI 12 j7.2],[uU,.cells (jV.cs j7.1)],[],0⟩ [8,11,12] [0,1] ?_
           exact hk j7))) (
       .ite _ (
        .ite _ (
         .ret [4] _) (
         .nil [4] _)) (
        .ite _ (
         .ite _ (
          .ret [4] _) (
          .nil [4] _)) (
         .ite _ (
          .ite _ (
           .ret [4] _) (
           .nil [4] _)) (
          .nil [4] _)))))) fun u6 =>
    .ret [0] _)
theorem aTg (K:Nat) (a0:cK) (a1:dS) (a2:cM):bV Tryz.prog 220 [.agg (c9.cs a0),.agg (dY.cs a1),.agg (cN.cs a2)] [] (bX (aFL K a0 a1 a2)) (fun r=>.jW [.agg (jV.cs r.1),.c (.val (.int .i64 r.2))]) (fun r=>[.cells (jV.cs r.1)]):=(aFM K).1 a0 a1 a2
theorem aTh (K:Nat) (a0:cK) (a1:dS) (a2:(List cM)):bV Tryz.prog 224 [.agg (c9.cs a0),.agg (dY.cs a1),.c (cN.tree a2)] [] (bX (aEe K a0 a1 a2)) (fun r=>.jW [.c (jV.tree r.1),.c (.val (.int .i64 r.2))]) (fun r=>[]):=(aFM K).2.1 a0 a1 a2
theorem aFN (K:Nat) (a0:cK) (a1:dS) (a2:cM):bV Tryz.prog 226 [.agg (c9.cs a0),.agg (dY.cs a1),.agg (cN.cs a2)] [] (bX (aBf K a0 a1 a2)) (fun r=>.jW [.agg (jV.cs r.1),.c (.val (.int .i64 r.2))]) (fun r=>[.cells (jV.cs r.1)]):=(aFM K).2.2.1 a0 a1 a2
def aI4 (K:Nat) (a0:cK) (a1:dS) (a2:cM):Option ((Int) ⊕ (Int)) :=
 ((bX (aBf K a0 a1 a2)).bind (fun r1=>(bR (((r1.2:Int) == 0) && ((r1.1.bU:Int) != 2)) (fun (x2:Bool)=>(if x2=true then (some (.inl (14))) else (some (.inl (r1.2))))))))
theorem aKC (K:Nat) (a0:cK) (a1:dS) (a2:cM):bV Tryz.prog 221 [.agg (c9.cs a0),.agg (dY.cs a1),.agg (cN.cs a2)] [] (bX (aI4 K a0 a1 a2)) (fun r=>.c (.val (.int .i64 r))) (fun r=>[]):=by
 refine bV.it Tryz.f221 (fun r=>⟨[sI 6 r],[],[],0⟩) ?_
 unfold aI4
 exact Ref.pt (
  .call [] (aFN _ _ _ _) fun r1 =>
  .lt _ fun x2 =>
  .ite _ (
   .ret [] _) (
   .ret [] _))
def aOy (K:Nat) (a0:cK) (a1:dS) (a2:cI):Option ((Int) ⊕ (Int)) :=
 (bT (if (decide ((a1.dF:Int) ≥ 0))=true then (bY [cP a1.cZ a0.bP.length,cP a1.dF ((a0.bP.getD (a1.cZ:Int).toNat default).bS).length] (some (.inr (((((a0.bP.getD (a1.cZ:Int).toNat default).bS).getD (a1.dF:Int).toNat default).eU).bU,((((a0.bP.getD (a1.cZ:Int).toNat default).bS).getD (a1.dF:Int).toNat default).eU).fLo,((((a0.bP.getD (a1.cZ:Int).toNat default).bS).getD (a1.dF:Int).toNat default).eU).zO,((((a0.bP.getD (a1.cZ:Int).toNat default).bS).getD (a1.dF:Int).toNat default).eU).cD)))) else (some (.inr (0,0,0,([]:Bytes))))) (fun (u1:Int × Int × Int × Bytes)=>(if (((Int.ofNat a2.cU.length):Int) == 0)=true then (if ((u1.1:Int) != 0)=true then (some (.inl (14))) else (some (.inl (0)))) else (bY [cP 0 a2.cU.length] ((bX (aBf K a0 a1 (a2.cU.getD (0:Int).toNat default))).bind (fun r2=>(if ((r2.2:Int) != 0)=true then (some (.inl (r2.2))) else ((cE (!((u1.1:Int) == 0)) (bX (aG3 K a0 (⟨u1.1,u1.2.1,u1.2.2.1,u1.2.2.2⟩:fS) r2.1)) default).bind (fun r4=>(if (((u1.1:Int) == 0) || (!r4))=true then (some (.inl (14))) else (some (.inl (0)))))))))))))
theorem aTi (K:Nat) (a0:cK) (a1:dS) (a2:cI):bV Tryz.prog 223 [.agg (c9.cs a0),.agg (dY.cs a1),.agg (dV.cs a2)] [] (bX (aOy K a0 a1 a2)) (fun r=>.c (.val (.int .i64 r))) (fun r=>[]):=by
 refine bV.it Tryz.f223 (fun r=>⟨[sI 6 r],[],[],0⟩) ?_
 unfold aOy
 exact Ref.pt (
  .jn (fun u1=>⟨[sP 3 0 0 0,sP 4 1 0 0,sP 5 2 0 0,sP 7 3 0 0],[.cells (c9.cs a0),.cells (dY.cs a1),dV.o a2,.cells [iC u1.1,iC u1.2.1,iC u1.2.2.1,.str u1.2.2.2]],[],0⟩) (
   .ite _ (
    .ex [0,2,7] <|
    .tx [12] <|
    .hO [1,3,4,5,6,8,9,10,11] _ <|
    .tl [12] <|
    .nil [0,1,2,3] _) (
    .nil [0,1,2,3] _)) fun u1 =>
  .ite _ (
   .ite _ (
    .ret [] _) (
    .ret [] _)) (
   .ex [2] <|
   .tx [6,11] <|
   .ex [0,1,3] <|
   .hO [4,5] _ <|
   .kn fun r2 er2 =>
   .all [3,7,34,35,39,40,33,41,42,8,9] (rg (cd (bd Tryz.f223) [1,1,1,1,0])) [true,true,true,true,true,true,false,false,false,false,false,false,false] (hl [(6,.kc [] (bV.eq (aFN _ _ _ _) er2) [])]) ⟨[sP 3 0 0 0,sP 7 1 0 0,sP 8 2 0 0,sI 9 r2.2],[.cells (c9.cs a0),.cells [iC u1.1,iC u1.2.1,iC u1.2.2.1,.str u1.2.2.2],.cells (jV.cs r2.1)],[],0⟩ [.s 3,.s 7,.s 8] <|
   .ite _ (
    .ret [] _) (
    .look (default:Bool) _ [] (aFH K a0 (⟨u1.1,u1.2.1,u1.2.2.1,u1.2.2.2⟩:fS) r2.1) (fun _=>rfl) fun r4 =>
    .ite _ (
     .ret [] _) (
     .ret [] _))))
def aOz (K:Nat) (a0:cI):Option ((Bool) ⊕ (Bool)) :=
 (if ((a0.bU:Int) == 6)=true then (bT (bQ ((iter K (fun (eA:Int)=>(bR (decide ((eA:Int)<(Int.ofNat a0.eY.length))) (fun (kI:Bool)=>(if kI=true then (bT (bQ (bY [cP eA a0.eY.length] (bR (((Int.ofNat (a0.eY.getD (eA:Int).toNat default).length):Int) == 0) (fun (x31:Bool)=>(if x31=true then (some (.inl (Sum.inr (Sum.inr (false))))) else (some (.inr ()))))))) (fun (eW:Unit)=>(some (.inr ((IntKind.i64.wrap (eA+1))))))) else (some (.inl (Sum.inl ()))))))) (0)).map .inl)) (fun (u16:Unit)=>(bR ((((Int.ofNat a0.cU.length):Int) == 1) && (((Int.ofNat a0.b8.length):Int) == (IntKind.i64.wrap ((Int.ofNat a0.eY.length)+1)))) (fun (x32:Bool)=>(some (.inl (x32))))))) else (bR (decide (((Int.ofNat a0.eY.length):Int) > 0)) (fun (x33:Bool)=>(if x33=true then (some (.inl (false))) else (bT (bQ (bT (if ((a0.bU:Int) == 1)=true then (some (.inr (((a0.bU:Int) == 1)))) else (some (.inr (((a0.bU:Int) == 3))))) (fun (u46:Bool)=>(if u46=true then (bR ((((Int.ofNat a0.cU.length):Int) == 1) && (((Int.ofNat a0.b8.length):Int) == 0)) (fun (x47:Bool)=>(some (.inl (Sum.inr (x47)))))) else (bT (if ((a0.bU:Int) == 2)=true then (some (.inr (((a0.bU:Int) == 2)))) else (some (.inr (((a0.bU:Int) == 11))))) (fun (l5:Bool)=>(if l5=true then (bR ((((Int.ofNat a0.cU.length):Int) == 2) && (((Int.ofNat a0.b8.length):Int) == 0)) (fun (x49:Bool)=>(some (.inl (Sum.inr (x49)))))) else (if ((a0.bU:Int) == 4)=true then (bR ((((Int.ofNat a0.cU.length):Int) == 1) && (((Int.ofNat a0.b8.length):Int) == 0)) (fun (x50:Bool)=>(bY [!x50 || cP 0 a0.cU.length] (bR (x50 && ((((a0.cU.getD (0:Int).toNat default).bU):Int) == 13)) (fun (x51:Bool)=>(some (.inl (Sum.inr (x51))))))))) else (if ((a0.bU:Int) == 5)=true then (bR ((decide (((Int.ofNat a0.cU.length):Int) ≥ 1)) && (((Int.ofNat a0.b8.length):Int) == (IntKind.i64.wrap ((Int.ofNat a0.cU.length)+1)))) (fun (x52:Bool)=>(some (.inl (Sum.inr (x52)))))) else (if ((a0.bU:Int) == 7)=true then (bR ((((Int.ofNat a0.cU.length):Int) == 1) && (((Int.ofNat a0.b8.length):Int) == 1)) (fun (x53:Bool)=>(some (.inl (Sum.inr (x53)))))) else (if ((a0.bU:Int) == 8)=true then (bR ((((Int.ofNat a0.cU.length):Int) == 2) && (((Int.ofNat a0.b8.length):Int) == 1)) (fun (x54:Bool)=>(some (.inl (Sum.inr (x54)))))) else (if ((a0.bU:Int) == 9)=true then (bR ((decide (((Int.ofNat a0.cU.length):Int)≤1)) && (((Int.ofNat a0.b8.length):Int) == 0)) (fun (x55:Bool)=>(some (.inl (Sum.inr (x55)))))) else (if ((a0.bU:Int) == 10)=true then (bR ((((Int.ofNat a0.cU.length):Int) == 0) && (((Int.ofNat a0.b8.length):Int) == 0)) (fun (x56:Bool)=>(some (.inl (Sum.inr (x56)))))) else (some (.inr ()))))))))))))))) (fun (u45:Unit)=>(some (.inl (false)))))))))
theorem aTj (K:Nat) (a0:cI):bV Tryz.prog 218 [.agg (dV.cs a0)] [] (bX (aOz K a0)) (fun r=>.c (.val (.bool r))) (fun r=>[]):=by
 refine bV.it Tryz.f218 (fun r=>⟨[sB 2 r],[],[],0⟩) ?_
 unfold aOz
 exact Ref.pt (
  .ex [0,3,6] <|
  .tx [] <|
  .ex [1,2,4,5,7,8,9,10,11] <|
  .ite _ (
   .bk 0 (fun u16=>⟨[sI 3 (Int.ofNat a0.cU.length),sI 4 (Int.ofNat a0.b8.length),sI 5 (Int.ofNat a0.eY.length)],[],[],0⟩) (
    .lp [0] (fun eA=>⟨[sP 1 0 0 0,sI 3 (Int.ofNat a0.cU.length),sI 4 (Int.ofNat a0.b8.length),sI 5 (Int.ofNat a0.eY.length),sI 6 eA],[dV.o a0],[],0⟩) fun eA =>
    .lt _ fun kI =>
    .ite _ (
     .bk 1 (fun eW=>⟨[sP 1 0 0 0,sI 3 (Int.ofNat a0.cU.length),sI 4 (Int.ofNat a0.b8.length),sI 5 (Int.ofNat a0.eY.length),sI 6 eA],[dV.o a0],[],0⟩) (
      .ck _ <|
      .lt _ fun x31 =>
      .ite _ (
       .ret [] _) (
       .nil [0] _)) fun eW =>
     .nil [0] _) (
     .ret [] _)) fun u16 =>
   .lt _ fun x32 =>
   .ret [] _) (
   .lt _ fun x33 =>
   .ite _ (
    .ret [] _) (
    .bk 2 (fun u45=>⟨[],[],[],0⟩) (
     .jn (fun u46=>⟨[sP 1 0 0 0,sI 3 (Int.ofNat a0.cU.length),sI 4 (Int.ofNat a0.b8.length),sI 42 a0.bU,sB 43 u46],[dV.o a0],[],0⟩) (
      .ite _ (
       .nil [0] _) (
       .nil [0] _)) fun u46 =>
     .ite _ (
      .lt _ fun x47 =>
      .ret [] _) (
      .jn (fun l5=>⟨[sP 1 0 0 0,sI 3 (Int.ofNat a0.cU.length),sI 4 (Int.ofNat a0.b8.length),sI 42 a0.bU,sB 52 l5],[dV.o a0],[],0⟩) (
       .ite _ (
        .nil [0] _) (
        .nil [0] _)) fun l5 =>
      .ite _ (
       .lt _ fun x49 =>
       .ret [] _) (
       .ite _ (
        .lt _ fun x50 =>
        .ck _ <|
        .lt _ fun x51 =>
        .ret [] _) (
        .ite _ (
         .lt _ fun x52 =>
         .ret [] _) (
         .ite _ (
          .lt _ fun x53 =>
          .ret [] _) (
          .ite _ (
           .lt _ fun x54 =>
           .ret [] _) (
           .ite _ (
            .lt _ fun x55 =>
            .ret [] _) (
            .ite _ (
             .lt _ fun x56 =>
             .ret [] _) (
             .nil [] _))))))))) fun u45 =>
    .ret [] _)))
end Go.Proofs.YtdbfbedholdjaaaGreat
