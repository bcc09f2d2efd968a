/- No conditions. -/
import Derived.Test.YtdbfbedholdjaaaGreatLr
import Derived.Test.YtdbfbedholdjaaaGreatLs
import Derived.Test.YtdbfbedholdjaaaGreatLq
import Derived.Test.YtdbfbedholdjaaaGreatProg
set_option linter.unusedVariables false
set_option linter.unusedSimpArgs false
set_option linter.unusedSectionVars false
namespace Go.Proofs.YtdbfbedholdjaaaGreat
open Go Go.Proofs Go.Dl
variable [eC]
set_option maxRecDepth 100000
set_option maxHeartbeats 4000000
def F7 (K:Nat):Option ((Bool) ⊕ (Bool)) :=
 ((bU (F31 K)).bind (fun r1=>((bU (F9 K r1)).bind (fun r2=>(bW [(r2.fM == ([105]:Bytes))] ((cK true (bU (F32 K r2.fY [3])) default).bind (fun r4=>(bW [!((true && r4) && (((Int.ofNat r2.fO.length):Int) == 1)) || cS 0 r2.fO.length] (bO (((true && r4) && (((Int.ofNat r2.fO.length):Int) == 1)) && ((((r2.fO.getD (0:Int).toNat default).aO0):Int) == (-1))) (fun (x5:Bool)=>(bW [x5] ((bU (F31 K)).bind (fun r7=>((cK true (bU (F17 K r7 0 ([120]:Bytes))) default).bind (fun r8=>(bW [(true && ((r8:Int) == 0))] ((bU (F31 K)).bind (fun jZ=>((cK true (bU (F17 K jZ 0 ([121]:Bytes))) default).bind (fun r11=>(some (.inl ((true && ((r11:Int) == (-1))))))))))))))))))))))))))
theorem aO1 (K:Nat):bR Tryz.prog 7 [] [] (bU (F7 K)) (fun r=>.c (.val (.bool r))) (fun r=>[]):=by
 refine bR.it Tryz.f7 (fun r=>⟨[sB 0 r],[],[],0⟩) ?_
 unfold F7
 exact Ref.pt (
  .call [] (aJl _) fun r1 =>
  .call [] (aS9 _ _) fun r2 =>
  .aEC [2] 2 (rg (cd (bd Tryz.f7) [1,1,0])) ((rg (cd (bd Tryz.f7) [1,1,0])).toList.drop 6) [(cd (bd Tryz.f7) [1,1,1])] ⟨[sP 1 0 0 0,sB 7 (r2.fM == ([105]:Bytes)),(9,.c (E3.tree r2.fY))],[.cells (E49.cs r2)],[(9,[(7,true)])],0⟩ (by
   refine cY.aFE (b:=(r2.fM == ([105]:Bytes))) (stf:=fun v3=>⟨[sP 1 0 0 0,sB 7 v3,(9,.c (E3.tree r2.fY))],[.cells (E49.cs r2)],[(9,[(7,true)])],0⟩) (by kernel_rfl) ?_
   refine cY.conv (Conv.clear (by kernel_rfl)) ?_
   refine cY.aFG 6 (by kernel_rfl) (by kernel_rfl) ?_
   exact cY.pt (id:=2) (
    .ob 2 27 1 (x:=.row 3 1 1 (hG [[iC 3]])) (y:=(E3.row [3])) (El.bZ E3 [3] rfl (by kernel_rfl)) <|
    .sl 2 27 10 (x:=.c (.own 1 1)) (y:=(.c (.own 1 ([3].length)))) (eG.c (eD.own (by first | (simp;done) | (simp;omega) | omega))) <|
    .look (default:Bool) _ [1] (aUW K r2.fY [3]) (fun _=>rfl) fun r4 =>
    .ck _ <|
    .lt _ fun x5 =>
    .aEC [] 2 (rg (cd (bd Tryz.f7) [1,1,0])) (((rg (cd (bd Tryz.f7) [1,1,0])).toList.set 6 (Oper.free (lB (rg (cd (bd Tryz.f7) [1,1,0])).toList 6))).drop 24) [(cd (bd Tryz.f7) [1,1,1])] ⟨[sB 27 x5],[],[],0⟩ (by
     refine cY.aFE (b:=x5) (stf:=fun v6=>⟨[sB 27 v6],[],[],0⟩) (by kernel_rfl) ?_
     refine cY.aFG 24 (by kernel_rfl) (by kernel_rfl) ?_
     exact cY.pt (id:=2) (
      .call [] (aJl _) fun r7 =>
      .look (default:Int) _ [] (aI2 K r7 0 wx) (fun _=>rfl) fun r8 =>
      .aEC [] 2 (rg (cd (bd Tryz.f7) [1,1,0])) ((((rg (cd (bd Tryz.f7) [1,1,0])).toList.set 6 (Oper.free (lB (rg (cd (bd Tryz.f7) [1,1,0])).toList 6))).set 24 (Oper.free (lB ((rg (cd (bd Tryz.f7) [1,1,0])).toList.set 6 (Oper.free (lB (rg (cd (bd Tryz.f7) [1,1,0])).toList 6))) 24))).drop 29) [(cd (bd Tryz.f7) [1,1,1])] ⟨[sB 32 (true && ((r8:Int) == 0))],[],[],0⟩ (by
       refine cY.aFE (b:=(true && ((r8:Int) == 0))) (stf:=fun v9=>⟨[sB 32 v9],[],[],0⟩) (by kernel_rfl) ?_
       refine cY.aFG 29 (by kernel_rfl) (by kernel_rfl) ?_
       exact cY.pt (id:=2) (
        .call [] (aJl _) fun jZ =>
        .look (default:Int) _ [] (aI2 K jZ 0 ([121]:Bytes)) (fun _=>rfl) fun r11 =>
        .ret [] _)))))))
def F3 (K:Nat) (a0:Bytes):Option ((Bool) ⊕ (Bool)) :=
 (bO (decide (((Int.ofNat a0.length):Int) > 6000)) (fun (x1:Bool)=>(if x1=true then ((bU (F7 K)).bind (fun r2=>(some (.inl (r2))))) else ((bU (F8 K a0)).bind (fun r3=>(bO (decide (((Int.ofNat r3.2.length):Int) > 0)) (fun (x4:Bool)=>(if x4=true then ((bU (F7 K)).bind (fun r5=>(some (.inl (r5))))) else (bM (bL ((iter K (fun (dM:Int × Int × Int × Int × Int × Int × Int × Int × Int × Int)=>(bO (decide ((dM.2.2.2.2.2.2.2.2.2:Int)<(Int.ofNat r3.1.bK.length))) (fun (aTa:Bool)=>(if aTa=true then (bM (bL (bW [cS dM.2.2.2.2.2.2.2.2.2 r3.1.bK.length] (bO ((r3.1.bK.getD (dM.2.2.2.2.2.2.2.2.2:Int).toNat default).bP) (fun (aHA:Int)=>(bM (bL (if ((aHA:Int) == 2)=true then (bW [cS 0 8,cS 0 8] (some (.inr ((IntKind.i64.wrap (dM.1+1)),dM.2.1,dM.2.2.1,dM.2.2.2.2.2.2.2.1)))) else (if ((aHA:Int) == 1)=true then (bW [cS 1 8,cS 1 8] (some (.inr (dM.1,(IntKind.i64.wrap (dM.2.1+1)),dM.2.2.1,dM.2.2.2.2.2.2.2.1)))) else (if ((aHA:Int) == 3)=true then (bW [cS 2 8,cS 2 8] (some (.inr (dM.1,dM.2.1,(IntKind.i64.wrap (dM.2.2.1+1)),dM.2.2.2.2.2.2.2.1)))) else (if ((aHA:Int) == 4)=true then (bW [cS 7 8,cS 7 8] (some (.inr (dM.1,dM.2.1,dM.2.2.1,(IntKind.i64.wrap (dM.2.2.2.2.2.2.2.1+1)))))) else (some (.inr (dM.1,dM.2.1,dM.2.2.1,dM.2.2.2.2.2.2.2.1)))))))) (fun (iQ:Int × Int × Int × Int)=>(bM (bL ((iter K (fun (uX:Int × Int)=>(bO ((decide ((uX.2:Int)<(Int.ofNat ((r3.1.bK.getD (dM.2.2.2.2.2.2.2.2.2:Int).toNat default).bN).length))) && ((((r3.1.bK.getD (dM.2.2.2.2.2.2.2.2.2:Int).toNat default).bP):Int) == 2)) (fun (aTb:Bool)=>(if aTb=true then (bM (bL (bW [cS uX.2 ((r3.1.bK.getD (dM.2.2.2.2.2.2.2.2.2:Int).toNat default).bN).length] (bO (!((((r3.1.bK.getD (dM.2.2.2.2.2.2.2.2.2:Int).toNat default).bN).getD (uX.2:Int).toNat default).eN)) (fun (aTc:Bool)=>(if aTc=true then (bW [cS 2 8,cS 2 8] (some (.inr ((IntKind.i64.wrap (uX.1+1)))))) else (some (.inr (uX.1)))))))) (fun (aKR:Int)=>(some (.inr (aKR,(IntKind.i64.wrap (uX.2+1))))))) else (some (.inl (Sum.inl (uX.1)))))))) (iQ.2.2.1,0)).map .inl)) (fun (aAF:Int)=>(bM (bL ((iter K (fun (fQ:Int × Int × Int × Int × Int × Int)=>(bO ((decide ((fQ.2.2.2.2.2:Int)<(Int.ofNat ((r3.1.bK.getD (dM.2.2.2.2.2.2.2.2.2:Int).toNat default).cU).length))) && ((((r3.1.bK.getD (dM.2.2.2.2.2.2.2.2.2:Int).toNat default).bP):Int) == 3)) (fun (aTd:Bool)=>(if aTd=true then (bM (bL (bW [cS fQ.2.2.2.2.2 ((r3.1.bK.getD (dM.2.2.2.2.2.2.2.2.2:Int).toNat default).cU).length] (bO (((((r3.1.bK.getD (dM.2.2.2.2.2.2.2.2.2:Int).toNat default).cU).getD (fQ.2.2.2.2.2:Int).toNat default).cI).bP) (fun (aKS:Int)=>(bM (bL (if ((aKS:Int) == 6)=true then (bW [cS 3 8,cS 3 8] (some (.inr ((IntKind.i64.wrap (fQ.1+1)),fQ.2.1,fQ.2.2.2.2.1)))) else (if ((aKS:Int) == 7)=true then (bW [cS 4 8,cS 4 8] (some (.inr (fQ.1,(IntKind.i64.wrap (fQ.2.1+1)),fQ.2.2.2.2.1)))) else (if ((aKS:Int) == 4)=true then (bW [cS fQ.2.2.2.2.2 ((r3.1.bK.getD (dM.2.2.2.2.2.2.2.2.2:Int).toNat default).cU).length] (bO (IntKind.i64.wrap ((IntKind.i64.wrap (fQ.2.2.2.2.1+(((((r3.1.bK.getD (dM.2.2.2.2.2.2.2.2.2:Int).toNat default).cU).getD (fQ.2.2.2.2.2:Int).toNat default).cI).vG)))+1)) (fun (aTe:Int)=>(some (.inr (fQ.1,fQ.2.1,aTe)))))) else (some (.inr (fQ.1,fQ.2.1,(IntKind.i64.wrap (fQ.2.2.2.2.1+1))))))))) (fun (sG:Int × Int × Int)=>(bW [cS fQ.2.2.2.2.2 ((r3.1.bK.getD (dM.2.2.2.2.2.2.2.2.2:Int).toNat default).cU).length] (bO ((((((r3.1.bK.getD (dM.2.2.2.2.2.2.2.2.2:Int).toNat default).cU).getD (fQ.2.2.2.2.2:Int).toNat default).l9):Int) == 1) (fun (aTf:Bool)=>(bM (if aTf=true then (bW [cS 5 8,cS 5 8] (some (.inr ((IntKind.i64.wrap (fQ.2.2.1+1)))))) else (some (.inr (fQ.2.2.1)))) (fun (aHB:Int)=>(bW [cS fQ.2.2.2.2.2 ((r3.1.bK.getD (dM.2.2.2.2.2.2.2.2.2:Int).toNat default).cU).length] (bO ((((((r3.1.bK.getD (dM.2.2.2.2.2.2.2.2.2:Int).toNat default).cU).getD (fQ.2.2.2.2.2:Int).toNat default).l9):Int) == 2) (fun (aTg:Bool)=>(if aTg=true then (bW [cS 6 8,cS 6 8] (some (.inr (sG.1,sG.2.1,aHB,(IntKind.i64.wrap (fQ.2.2.2.1+1)),sG.2.2)))) else (some (.inr (sG.1,sG.2.1,aHB,fQ.2.2.2.1,sG.2.2)))))))))))))))))) (fun (uY:Int × Int × Int × Int × Int)=>(some (.inr (uY.1,uY.2.1,uY.2.2.1,uY.2.2.2.1,uY.2.2.2.2,(IntKind.i64.wrap (fQ.2.2.2.2.2+1))))))) else (some (.inl (Sum.inl (fQ.1,fQ.2.1,fQ.2.2.1,fQ.2.2.2.1,fQ.2.2.2.2.1)))))))) (dM.2.2.2.1,dM.2.2.2.2.1,dM.2.2.2.2.2.1,dM.2.2.2.2.2.2.1,dM.2.2.2.2.2.2.2.2.1,0)).map .inl)) (fun (uZ:Int × Int × Int × Int × Int)=>(some (.inr (iQ.1,iQ.2.1,aAF,uZ.1,uZ.2.1,uZ.2.2.1,uZ.2.2.2.1,iQ.2.2.2,uZ.2.2.2.2))))))))))))) (fun (mQ:Int × Int × Int × Int × Int × Int × Int × Int × Int)=>(bO (IntKind.i64.wrap (dM.2.2.2.2.2.2.2.2.2+1)) (fun (aTh:Int)=>(some (.inr (mQ.1,mQ.2.1,mQ.2.2.1,mQ.2.2.2.1,mQ.2.2.2.2.1,mQ.2.2.2.2.2.1,mQ.2.2.2.2.2.2.1,mQ.2.2.2.2.2.2.2.1,mQ.2.2.2.2.2.2.2.2,aTh))))))) else (some (.inl (Sum.inl (dM.1,dM.2.1,dM.2.2.1,dM.2.2.2.1,dM.2.2.2.2.1,dM.2.2.2.2.2.1,dM.2.2.2.2.2.2.1,dM.2.2.2.2.2.2.2.1,dM.2.2.2.2.2.2.2.2.1)))))))) (0,0,0,0,0,0,0,0,0,0)).map .inl)) (fun (iX:Int × Int × Int × Int × Int × Int × Int × Int × Int)=>((bU (F9 K r3.1)).bind (fun gM=>(bW [cS 0 8,!(((Int.ofNat gM.dW.length):Int) == iX.1) || cS 1 8,!((((Int.ofNat gM.dW.length):Int) == iX.1) && (((Int.ofNat gM.dZ.length):Int) == iX.2.1)) || cS 2 8,!(((((Int.ofNat gM.dW.length):Int) == iX.1) && (((Int.ofNat gM.dZ.length):Int) == iX.2.1)) && (((Int.ofNat gM.fO.length):Int) == iX.2.2.1)) || cS 3 8,!((((((Int.ofNat gM.dW.length):Int) == iX.1) && (((Int.ofNat gM.dZ.length):Int) == iX.2.1)) && (((Int.ofNat gM.fO.length):Int) == iX.2.2.1)) && (((Int.ofNat gM.eO.length):Int) == iX.2.2.2.1)) || cS 4 8,!(((((((Int.ofNat gM.dW.length):Int) == iX.1) && (((Int.ofNat gM.dZ.length):Int) == iX.2.1)) && (((Int.ofNat gM.fO.length):Int) == iX.2.2.1)) && (((Int.ofNat gM.eO.length):Int) == iX.2.2.2.1)) && (((Int.ofNat gM.bX.length):Int) == iX.2.2.2.2.1)) || cS 5 8,!((((((((Int.ofNat gM.dW.length):Int) == iX.1) && (((Int.ofNat gM.dZ.length):Int) == iX.2.1)) && (((Int.ofNat gM.fO.length):Int) == iX.2.2.1)) && (((Int.ofNat gM.eO.length):Int) == iX.2.2.2.1)) && (((Int.ofNat gM.bX.length):Int) == iX.2.2.2.2.1)) && (((Int.ofNat gM.jN.length):Int) == iX.2.2.2.2.2.1)) || cS 6 8,!(((((((((Int.ofNat gM.dW.length):Int) == iX.1) && (((Int.ofNat gM.dZ.length):Int) == iX.2.1)) && (((Int.ofNat gM.fO.length):Int) == iX.2.2.1)) && (((Int.ofNat gM.eO.length):Int) == iX.2.2.2.1)) && (((Int.ofNat gM.bX.length):Int) == iX.2.2.2.2.1)) && (((Int.ofNat gM.jN.length):Int) == iX.2.2.2.2.2.1)) && (((Int.ofNat gM.fV.length):Int) == iX.2.2.2.2.2.2.1)) || cS 7 8] (bO ((((((((((((Int.ofNat gM.dW.length):Int) == iX.1) && (((Int.ofNat gM.dZ.length):Int) == iX.2.1)) && (((Int.ofNat gM.fO.length):Int) == iX.2.2.1)) && (((Int.ofNat gM.eO.length):Int) == iX.2.2.2.1)) && (((Int.ofNat gM.bX.length):Int) == iX.2.2.2.2.1)) && (((Int.ofNat gM.jN.length):Int) == iX.2.2.2.2.2.1)) && (((Int.ofNat gM.fV.length):Int) == iX.2.2.2.2.2.2.1)) && (((Int.ofNat gM.kJ.length):Int) == iX.2.2.2.2.2.2.2.1)) && (((Int.ofNat gM.fM.length):Int) == iX.2.2.2.2.2.2.2.2)) && (((Int.ofNat gM.fY.length):Int) == iX.2.2.2.2.2.2.2.2)) (fun (aO2:Bool)=>((cK aO2 (bU (F7 K)) default).bind (fun aTi=>(some (.inl ((aO2 && aTi)))))))))))))))))))))
abbrev aO3 (v0:Int × Int × Int × Int × Int × Int × Int × Int × Int × Int):List (Nat × D):=[sP 3 0 0 0,sP 5 1 0 0,sI 6 v0.2.2.2.2.2.2.2.2.1,sI 7 v0.2.2.2.2.2.2.2.2.2]
theorem aX6 (K:Nat) (a0:Bytes):bR Tryz.prog 3 [.c (.str a0)] [] (bU (F3 K a0)) (fun r=>.c (.val (.bool r))) (fun r=>[]):=by
 refine bR.it Tryz.f3 (fun r=>⟨[sB 2 r],[],[],0⟩) ?_
 unfold F3
 exact Ref.pt (
  .lt _ fun x1 =>
  .ite _ (
   .call [] (aO1 _) fun r2 =>
   .ret [] _) (
   .call [] (aX5 _ _) fun r3 =>
   .lt _ fun x4 =>
   .ite _ (
    .call [] (aO1 _) fun r5 =>
    .ret [] _) (
    .bk 0 (fun iX=>⟨[sP 3 0 0 0,sP 5 1 0 0,sI 6 iX.2.2.2.2.2.2.2.2],[.cells (dQ.cs r3.1),.cells [iC iX.1,iC iX.2.1,iC iX.2.2.1,iC iX.2.2.2.1,iC iX.2.2.2.2.1,iC iX.2.2.2.2.2.1,iC iX.2.2.2.2.2.2.1,iC iX.2.2.2.2.2.2.2.1]],[],0⟩) (
     .lp [1,2] (fun dM=>⟨aO3 dM,[.cells (dQ.cs r3.1),.cells [iC dM.1,iC dM.2.1,iC dM.2.2.1,iC dM.2.2.2.1,iC dM.2.2.2.2.1,iC dM.2.2.2.2.2.1,iC dM.2.2.2.2.2.2.1,iC dM.2.2.2.2.2.2.2.1]],[],0⟩) fun dM =>
     .lt _ fun aTa =>
     .ite _ (
      .bk 1 (fun mQ=>⟨[sP 3 0 0 0,sP 5 1 0 0,sI 6 mQ.2.2.2.2.2.2.2.2,sI 7 dM.2.2.2.2.2.2.2.2.2],[.cells (dQ.cs r3.1),.cells [iC mQ.1,iC mQ.2.1,iC mQ.2.2.1,iC mQ.2.2.2.1,iC mQ.2.2.2.2.1,iC mQ.2.2.2.2.2.1,iC mQ.2.2.2.2.2.2.1,iC mQ.2.2.2.2.2.2.2.1]],[],0⟩) (
       .ck _ <|
       .lt _ fun aHA =>
       .bk 2 (fun iQ=>⟨aO3 dM++[sP 8 2 0 0],[.cells (dQ.cs r3.1),.cells [iC iQ.1,iC iQ.2.1,iC iQ.2.2.1,iC dM.2.2.2.1,iC dM.2.2.2.2.1,iC dM.2.2.2.2.2.1,iC dM.2.2.2.2.2.2.1,iC iQ.2.2.2],iY.o (gd r3.1.bK dM.2.2.2.2.2.2.2.2.2)],[],0⟩) (
        .ite _ (
         .ck _ <|
         .nil [0,1,2] _) (
         .ite _ (
          .ck _ <|
          .nil [0,1,2] _) (
          .ite _ (
           .ck _ <|
           .nil [0,1,2] _) (
           .ite _ (
            .ck _ <|
            .nil [0,1,2] _) (
            .nil [0,1,2] _))))) fun iQ =>
       .bk 3 (fun aAF=>⟨aO3 dM++[sP 8 2 0 0],[.cells (dQ.cs r3.1),.cells [iC iQ.1,iC iQ.2.1,iC aAF,iC dM.2.2.2.1,iC dM.2.2.2.2.1,iC dM.2.2.2.2.2.1,iC dM.2.2.2.2.2.2.1,iC iQ.2.2.2],iY.o (gd r3.1.bK dM.2.2.2.2.2.2.2.2.2)],[],0⟩) (
        .lp [0,1,2] (fun uX=>⟨aO3 dM++[sP 8 2 0 0,sI 9 uX.2],[.cells (dQ.cs r3.1),.cells [iC iQ.1,iC iQ.2.1,iC uX.1,iC dM.2.2.2.1,iC dM.2.2.2.2.1,iC dM.2.2.2.2.2.1,iC dM.2.2.2.2.2.2.1,iC iQ.2.2.2],iY.o (gd r3.1.bK dM.2.2.2.2.2.2.2.2.2)],[],0⟩) fun uX =>
        .lt _ fun aTb =>
        .ite _ (
         .bk 4 (fun aKR=>⟨aO3 dM++[sP 8 2 0 0,sI 9 uX.2],[.cells (dQ.cs r3.1),.cells [iC iQ.1,iC iQ.2.1,iC aKR,iC dM.2.2.2.1,iC dM.2.2.2.2.1,iC dM.2.2.2.2.2.1,iC dM.2.2.2.2.2.2.1,iC iQ.2.2.2],iY.o (gd r3.1.bK dM.2.2.2.2.2.2.2.2.2)],[],0⟩) (
          .ck _ <|
          .lt _ fun aTc =>
          .ite _ (
           .ck _ <|
           .nil [0,1,2] _) (
           .nil [0,1,2] _)) fun aKR =>
         .nil [0,1,2] _) (
         .ret [0,1,2] _)) fun aAF =>
       .bk 5 (fun uZ=>⟨[sP 3 0 0 0,sP 5 1 0 0,sI 6 uZ.2.2.2.2,sI 7 dM.2.2.2.2.2.2.2.2.2],[.cells (dQ.cs r3.1),.cells [iC iQ.1,iC iQ.2.1,iC aAF,iC uZ.1,iC uZ.2.1,iC uZ.2.2.1,iC uZ.2.2.2.1,iC iQ.2.2.2]],[],0⟩) (
        .lp [0,1,2] (fun fQ=>⟨[sP 3 0 0 0,sP 5 1 0 0,sI 6 fQ.2.2.2.2.1,sI 7 dM.2.2.2.2.2.2.2.2.2,sP 8 2 0 0,sI 10 fQ.2.2.2.2.2],[.cells (dQ.cs r3.1),.cells [iC iQ.1,iC iQ.2.1,iC aAF,iC fQ.1,iC fQ.2.1,iC fQ.2.2.1,iC fQ.2.2.2.1,iC iQ.2.2.2],iY.o (gd r3.1.bK dM.2.2.2.2.2.2.2.2.2)],[],0⟩) fun fQ =>
        .lt _ fun aTd =>
        .ite _ (
         .bk 6 (fun uY=>⟨[sP 3 0 0 0,sP 5 1 0 0,sI 6 uY.2.2.2.2,sI 7 dM.2.2.2.2.2.2.2.2.2,sP 8 2 0 0,sI 10 fQ.2.2.2.2.2],[.cells (dQ.cs r3.1),.cells [iC iQ.1,iC iQ.2.1,iC aAF,iC uY.1,iC uY.2.1,iC uY.2.2.1,iC uY.2.2.2.1,iC iQ.2.2.2],iY.o (gd r3.1.bK dM.2.2.2.2.2.2.2.2.2)],[],0⟩) (
          .ck _ <|
          .lt _ fun aKS =>
          .bk 7 (fun sG=>⟨[sP 3 0 0 0,sP 5 1 0 0,sI 6 sG.2.2,sI 7 dM.2.2.2.2.2.2.2.2.2,sP 8 2 0 0,sI 10 fQ.2.2.2.2.2],[.cells (dQ.cs r3.1),.cells [iC iQ.1,iC iQ.2.1,iC aAF,iC sG.1,iC sG.2.1,iC fQ.2.2.1,iC fQ.2.2.2.1,iC iQ.2.2.2],iY.o (gd r3.1.bK dM.2.2.2.2.2.2.2.2.2)],[],0⟩) (
           .ite _ (
            .ck _ <|
            .nil [0,1,2] _) (
            .ite _ (
             .ck _ <|
             .nil [0,1,2] _) (
             .ite _ (
              .ck _ <|
              .lt _ fun aTe =>
              .nil [0,1,2] _) (
              .nil [0,1,2] _)))) fun sG =>
          .ck _ <|
          .lt _ fun aTf =>
          .jn (fun aHB=>⟨[sP 3 0 0 0,sP 5 1 0 0,sI 6 sG.2.2,sI 7 dM.2.2.2.2.2.2.2.2.2,sP 8 2 0 0,sI 10 fQ.2.2.2.2.2],[.cells (dQ.cs r3.1),.cells [iC iQ.1,iC iQ.2.1,iC aAF,iC sG.1,iC sG.2.1,iC aHB,iC fQ.2.2.2.1,iC iQ.2.2.2],iY.o (gd r3.1.bK dM.2.2.2.2.2.2.2.2.2)],[],0⟩) (
           .ite _ (
            .ck _ <|
            .nil [0,1,2] _) (
            .nil [0,1,2] _)) fun aHB =>
          .ck _ <|
          .lt _ fun aTg =>
          .ite _ (
           .ck _ <|
           .nil [0,1,2] _) (
           .nil [0,1,2] _)) fun uY =>
         .nil [0,1,2] _) (
         .ret [0,1] _)) fun uZ =>
       .nil [0,1] _) fun mQ =>
      .lt _ fun aTh =>
      .nil [0,1] _) (
      .ret [0,1] _)) fun iX =>
    .call [] (aS9 _ _) fun gM =>
    .ck _ <|
    .lt _ fun aO2 =>
    .look (default:Bool) _ [] (aO1 K) (fun _=>rfl) fun aTi =>
    .ret [] _)))
end Go.Proofs.YtdbfbedholdjaaaGreat
