/- No conditions. -/
import Derived.Test.YtdbfbedholdjaaaGreatPLr
import Derived.Test.YtdbfbedholdjaaaGreatPLs
import Derived.Test.YtdbfbedholdjaaaGreatPLq
import Derived.Test.YtdbfbedholdjaaaGreatProg
set_option linter.unusedVariables false
set_option linter.unusedSimpArgs false
set_option linter.unusedSectionVars false
namespace Go.Proofs.YtdbfbedholdjaaaGreat
open Go Go.Proofs Go.Dl
variable [dW]
set_option maxRecDepth 100000
set_option maxHeartbeats 4000000
def F7 (K:Nat):Option ((Bool) ⊕ (Bool)) :=
 ((bT (F31 K)).bind (fun r1=>((bT (F9 K r1)).bind (fun r2=>(bW [(r2.fT == ([105]:Bytes))] ((cH true (bT (F32 K r2.gA [3])) default).bind (fun r4=>(bW [!((true && r4) && (((Int.ofNat r2.gW.length):Int) == 1)) || cS 0 r2.gW.length] (bN (((true && r4) && (((Int.ofNat r2.gW.length):Int) == 1)) && ((((r2.gW.getD (0:Int).toNat default).aPh):Int) == (-1))) (fun (x5:Bool)=>(bW [x5] ((bT (F31 K)).bind (fun r7=>((cH true (bT (F17 K r7 0 ([120]:Bytes))) default).bind (fun r8=>(bW [(true && ((r8:Int) == 0))] ((bT (F31 K)).bind (fun jY=>((cH true (bT (F17 K jY 0 ([121]:Bytes))) default).bind (fun r11=>(some (.inl ((true && ((r11:Int) == (-1))))))))))))))))))))))))))
theorem aPi (K:Nat):bS Tryz.prog 7 [] [] (bT (F7 K)) (fun r=>.c (.val (.bool r))) (fun r=>[]):=by
 refine bS.it Tryz.f7 (fun r=>⟨[sB 0 r],[],[],0⟩) ?_
 unfold F7
 exact Ref.pt (
  .call [] (aJt _) fun r1 =>
  .call [] (aTu _ _) fun r2 =>
  .aEK [2] 2 (rg (cd (bd Tryz.f7) [1,1,0])) ((rg (cd (bd Tryz.f7) [1,1,0])).toList.drop 6) [(cd (bd Tryz.f7) [1,1,1])] ⟨[sP 1 0 0 0,sB 7 (r2.fT == ([105]:Bytes)),(9,.c (E3.tree r2.gA))],[.cells (E49.cs r2)],[(9,[(7,true)])],0⟩ (by
   refine c6.aFL (b:=(r2.fT == ([105]:Bytes))) (stf:=fun v3=>⟨[sP 1 0 0 0,sB 7 v3,(9,.c (E3.tree r2.gA))],[.cells (E49.cs r2)],[(9,[(7,true)])],0⟩) (by kernel_rfl) ?_
   refine c6.conv (Conv.clear (by kernel_rfl)) ?_
   refine c6.aFN 6 (by kernel_rfl) (by kernel_rfl) ?_
   exact c6.pt (id:=2) (
    .ob 2 27 1 (x:=.row 3 1 1 (gY [[iC 3]])) (y:=(E3.row [3])) (El.bZ E3 [3] rfl (by kernel_rfl)) <|
    .sl 2 27 10 (x:=.c (.own 1 1)) (y:=(.c (.own 1 ([3].length)))) (eA.c (dY.own (by first | (simp;done) | (simp;omega) | omega))) <|
    .look (default:Bool) _ [1] (aVe K r2.gA [3]) (fun _=>rfl) fun r4 =>
    .ck _ <|
    .lt _ fun x5 =>
    .aEK [] 2 (rg (cd (bd Tryz.f7) [1,1,0])) (((rg (cd (bd Tryz.f7) [1,1,0])).toList.set 6 (Oper.free (kZ (rg (cd (bd Tryz.f7) [1,1,0])).toList 6))).drop 24) [(cd (bd Tryz.f7) [1,1,1])] ⟨[sB 27 x5],[],[],0⟩ (by
     refine c6.aFL (b:=x5) (stf:=fun v6=>⟨[sB 27 v6],[],[],0⟩) (by kernel_rfl) ?_
     refine c6.aFN 24 (by kernel_rfl) (by kernel_rfl) ?_
     exact c6.pt (id:=2) (
      .call [] (aJt _) fun r7 =>
      .look (default:Int) _ [] (aJa K r7 0 wx) (fun _=>rfl) fun r8 =>
      .aEK [] 2 (rg (cd (bd Tryz.f7) [1,1,0])) ((((rg (cd (bd Tryz.f7) [1,1,0])).toList.set 6 (Oper.free (kZ (rg (cd (bd Tryz.f7) [1,1,0])).toList 6))).set 24 (Oper.free (kZ ((rg (cd (bd Tryz.f7) [1,1,0])).toList.set 6 (Oper.free (kZ (rg (cd (bd Tryz.f7) [1,1,0])).toList 6))) 24))).drop 29) [(cd (bd Tryz.f7) [1,1,1])] ⟨[sB 32 (true && ((r8:Int) == 0))],[],[],0⟩ (by
       refine c6.aFL (b:=(true && ((r8:Int) == 0))) (stf:=fun v9=>⟨[sB 32 v9],[],[],0⟩) (by kernel_rfl) ?_
       refine c6.aFN 29 (by kernel_rfl) (by kernel_rfl) ?_
       exact c6.pt (id:=2) (
        .call [] (aJt _) fun jY =>
        .look (default:Int) _ [] (aJa K jY 0 ([121]:Bytes)) (fun _=>rfl) fun r11 =>
        .ret [] _)))))))
def F4 (K:Nat) (a0:Bytes):Option ((Bool) ⊕ (Bool)) :=
 (bN (decide (((Int.ofNat a0.length):Int) > 6000)) (fun (x1:Bool)=>(if x1=true then ((bT (F7 K)).bind (fun r2=>(some (.inl (r2))))) else ((bT (F8 K a0)).bind (fun r3=>(bN (decide (((Int.ofNat r3.2.length):Int) > 0)) (fun (x4:Bool)=>(if x4=true then ((bT (F7 K)).bind (fun r5=>(some (.inl (r5))))) else ((bT (F9 K r3.1)).bind (fun r6=>(bL (bJ ((iter K (fun (j5:Int)=>(bN (decide ((j5:Int)<(Int.ofNat r3.1.bK.length))) (fun (aTw:Bool)=>(if aTw=true then (bL (bJ ((bT (F10 K r3.1 j5)).bind (fun e9=>(bN (decide (((Int.ofNat e9.length):Int)<2)) (fun (aTx:Bool)=>(if aTx=true then (some (.inl (Sum.inl ()))) else (bW [cS 1 e9.length] ((cH true (bT (F11 K r3.1 j5)) default).bind (fun eF=>((cH true (bT (F11 K r3.1 (e9.getD (1:Int).toNat default))) default).bind (fun eC=>(bW [!(!((((decide ((eF:Int)<0)) || (decide ((eC:Int)<0))) || (decide ((eF:Int) ≥ (Int.ofNat r6.bQ.length)))) || (decide ((eC:Int) ≥ (Int.ofNat r6.bQ.length))))) || cS eF r6.bQ.length] (bN (((((decide ((eF:Int)<0)) || (decide ((eC:Int)<0))) || (decide ((eF:Int) ≥ (Int.ofNat r6.bQ.length)))) || (decide ((eC:Int) ≥ (Int.ofNat r6.bQ.length)))) || ((((r6.bQ.getD (eF:Int).toNat default).j6):Int) != eC)) (fun (aPj:Bool)=>(if aPj=true then (some (.inl (Sum.inr (Sum.inr (false))))) else (bW [cS eF r6.bQ.length] (bW [cS eC r6.bQ.length] (bW [!(!(decide (((Int.ofNat ((r6.bQ.getD (eF:Int).toNat default).dV).length):Int)<(Int.ofNat ((r6.bQ.getD (eC:Int).toNat default).dV).length)))) || cW ((r6.bQ.getD (eF:Int).toNat default).dV).length 0 (Int.ofNat ((r6.bQ.getD (eC:Int).toNat default).dV).length),!(!(((decide (((Int.ofNat ((r6.bQ.getD (eF:Int).toNat default).dV).length):Int)<(Int.ofNat ((r6.bQ.getD (eC:Int).toNat default).dV).length))) || (!(((((r6.bQ.getD (eF:Int).toNat default).dV).drop (0:Int).toNat).take (((Int.ofNat ((r6.bQ.getD (eC:Int).toNat default).dV).length):Int).toNat - (0:Int).toNat)) == ((r6.bQ.getD (eC:Int).toNat default).dV)))) || (decide (((Int.ofNat ((r6.bQ.getD (eF:Int).toNat default).fM).length):Int)<(Int.ofNat ((r6.bQ.getD (eC:Int).toNat default).fM).length))))) || cW ((r6.bQ.getD (eF:Int).toNat default).fM).length 0 (Int.ofNat ((r6.bQ.getD (eC:Int).toNat default).fM).length)] (bN (((decide (((Int.ofNat ((r6.bQ.getD (eF:Int).toNat default).dV).length):Int)<(Int.ofNat ((r6.bQ.getD (eC:Int).toNat default).dV).length))) || (!(((((r6.bQ.getD (eF:Int).toNat default).dV).drop (0:Int).toNat).take (((Int.ofNat ((r6.bQ.getD (eC:Int).toNat default).dV).length):Int).toNat - (0:Int).toNat)) == ((r6.bQ.getD (eC:Int).toNat default).dV)))) || (decide (((Int.ofNat ((r6.bQ.getD (eF:Int).toNat default).fM).length):Int)<(Int.ofNat ((r6.bQ.getD (eC:Int).toNat default).fM).length)))) (fun (yL:Bool)=>((cH (!yL) (bT (F12 K (mB ((r6.bQ.getD (eF:Int).toNat default).fM) (0:Int).toNat ((Int.ofNat ((r6.bQ.getD (eC:Int).toNat default).fM).length):Int).toNat E9.d) ((r6.bQ.getD (eC:Int).toNat default).fM))) default).bind (fun aHJ=>(bN ((yL || (!aHJ)) || (((Int.ofNat ((r6.bQ.getD (eF:Int).toNat default).xJ).length):Int) != (Int.ofNat ((r6.bQ.getD (eF:Int).toNat default).fM).length))) (fun (aFe:Bool)=>(if aFe=true then (some (.inl (Sum.inr (Sum.inr (false))))) else (bW [cS 1 e9.length] (bW [cS (e9.getD (1:Int).toNat default) r3.1.bK.length] (bN ((r3.1.bK.getD ((e9.getD (1:Int).toNat default):Int).toNat default).bM) (fun (oL:(List hU))=>(bL (bJ ((iter K (fun (mL:Int)=>(bN (decide ((mL:Int)<(Int.ofNat oL.length))) (fun (aK2:Bool)=>(if aK2=true then (bL (bJ (bW [cS mL oL.length,cS 1 e9.length,cS mL oL.length] (bN ((oL.getD (mL:Int).toNat default).cC) (fun (aB1:Bytes)=>((cH true (bT (F13 K r3.1 j5 aB1)) default).bind (fun aB2=>((cH true (bT (F13 K r3.1 (e9.getD (1:Int).toNat default) aB1)) default).bind (fun aB3=>(bW [!(!((aB2:Int) != aB3)) || cS mL oL.length] ((cH (!((aB2:Int) != aB3)) (bT (F13 K r3.1 j5 ((oL.getD (mL:Int).toNat default).cC))) default).bind (fun aK3=>(bN (((aB2:Int) != aB3) || (decide ((aK3:Int)<0))) (fun (aK4:Bool)=>(if aK4=true then (some (.inl (Sum.inr (Sum.inr (Sum.inr (Sum.inr (false))))))) else (some (.inr ())))))))))))))))) (fun (aPk:Unit)=>(some (.inr ((IntKind.i64.wrap (mL+1))))))) else (some (.inl (Sum.inl ()))))))) (0)).map .inl)) (fun (aPl:Unit)=>(bW [cS 1 e9.length] (bW [cS (e9.getD (1:Int).toNat default) r3.1.bK.length] (bN ((r3.1.bK.getD ((e9.getD (1:Int).toNat default):Int).toNat default).cU) (fun (uZ:(List fE))=>(bL (bJ ((iter K (fun (q9:Int)=>(bN (decide ((q9:Int)<(Int.ofNat uZ.length))) (fun (aK5:Bool)=>(if aK5=true then (bL (bJ (bW [cS q9 uZ.length,cS 1 e9.length,cS q9 uZ.length] (bN ((uZ.getD (q9:Int).toNat default).cC) (fun (aB4:Bytes)=>((cH true (bT (F14 K r3.1 j5 aB4)) default).bind (fun aK6=>((cH true (bT (F14 K r3.1 (e9.getD (1:Int).toNat default) aB4)) default).bind (fun aK7=>(if ((aK6:Int) != aK7)=true then (some (.inl (Sum.inr (Sum.inr (Sum.inr (Sum.inr (false))))))) else (some (.inr ()))))))))))) (fun (aPm:Unit)=>(some (.inr ((IntKind.i64.wrap (q9+1))))))) else (some (.inl (Sum.inl ()))))))) (0)).map .inl)) (fun (aPn:Unit)=>(some (.inr ()))))))))))))))))))))))))))))))))))))))) (fun (aTy:Unit)=>(some (.inr ((IntKind.i64.wrap (j5+1))))))) else (some (.inl (Sum.inl ()))))))) (0)).map .inl)) (fun (aYt:Unit)=>((bT (F7 K)).bind (fun aTz=>(some (.inl (aTz)))))))))))))))))
abbrev p6 (v0:Int) (v1:(List Int)):List (Nat × D):=[sP 3 0 0 0,sP 5 1 0 0,sI 6 v0,(7,.c (E3.tree v1))]
abbrev aJC (v0:jN) (v1:Int):List (Nat × D):=[sP 87 1 0 1,(88,.c (uY.tree v0.bQ)),sI 89 v1,(90,.c (uY.ep (gd v0.bQ v1) 0)),(91,.agg (uY.cs (gd v0.bQ v1)))]
abbrev nY (v0:cZ × (List nV)) (v1:jN):List Go.Dl.Obj:=[.cells (dM.cs v0.1),.cells (E49.cs v1)]
abbrev xY (v0:jN) (v1:Int):List Go.Dl.Obj:=[.cells (uY.cs (gd v0.bQ v1))]
theorem aYu (K:Nat) (a0:Bytes):bS Tryz.prog 4 [.c (.str a0)] [] (bT (F4 K a0)) (fun r=>.c (.val (.bool r))) (fun r=>[]):=by
 refine bS.it Tryz.f4 (fun r=>⟨[sB 2 r],[],[],0⟩) ?_
 unfold F4
 exact Ref.pt (
  .lt _ fun x1 =>
  .ite _ (
   .call [] (aPi _) fun r2 =>
   .ret [] _) (
   .call [] (aYs _ _) fun r3 =>
   .lt _ fun x4 =>
   .ite _ (
    .call [] (aPi _) fun r5 =>
    .ret [] _) (
    .call [] (aTu _ _) fun r6 =>
    .bk 0 (fun aYt=>⟨[],[],[],0⟩) (
     .lp [1,3] (fun j5=>⟨[sP 3 0 0 0,sP 5 1 0 0,sI 6 j5],nY r3 r6,[],0⟩) fun j5 =>
     .lt _ fun aTw =>
     .ite _ (
      .bk 1 (fun aTy=>⟨[sP 3 0 0 0,sP 5 1 0 0,sI 6 j5],nY r3 r6,[],0⟩) (
       .call [] (aA1 _ _ _) fun e9 =>
       .lt _ fun aTx =>
       .ite _ (
        .ret [0,1] _) (
        .lT [1,4,5] _ <|
        .tx [] <|
        .ex [0,3,6] <|
        .fF 2 (default:Int) _ [] (aDU K r3.1 j5) (fun _=>rfl) fun eF =>
        .fF 7 (default:Int) _ [] (aDU K r3.1 (gd e9 1)) (fun _=>rfl) fun eC =>
        .ex [8,9] <|
        .ck _ <|
        .lt _ fun aPj =>
        .ite _ (
         .ret [] _) (
         .esc [0,1] [(cd (bd Tryz.f4) [1,1,1,1,1,0,1,0,0,1,0,0,1,1,1,1,0]),(cd (bd Tryz.f4) [1,1,1,1,1,0,1,0,0,1,0,0,1,1,1,1,1])] ⟨p6 j5 e9++[sI 8 eF,sI 9 eC,sB 81 aPj],nY r3 r6,[],0⟩ (by
          refine Ref.eH 15 (by kernel_rfl) (by kernel_rfl) ?_
          refine dN.eW (cR:=⟨p6 j5 e9++[sP 82 1 0 1,sI 84 eF,sP 87 1 0 1,sI 89 eC],nY r3 r6,[],0⟩) (fuel':=10) [0,2,5,7] [3,5,6,7,82,84,87,89] [0,1] rfl (by kernel_rfl) (by kernel_rfl) ?_
          refine dN.qB [12,13] ?_
          refine bO.aBh (⟨p6 j5 e9++[sP 10 2 0 0,sP 11 3 0 0],nY r3 r6++xY r6 eF++xY r6 eC,[],0⟩) ((bW [!(!(decide ((Int.ofNat ((gd r6.bQ eF).dV).length)<(Int.ofNat ((gd r6.bQ eC).dV).length)))) || cW ((gd r6.bQ eF).dV).length 0 (Int.ofNat ((gd r6.bQ eC).dV).length),!(!(((decide ((Int.ofNat ((gd r6.bQ eF).dV).length)<(Int.ofNat ((gd r6.bQ eC).dV).length))) || (!(((((gd r6.bQ eF).dV).drop (0:Int).toNat).take ((Int.ofNat ((gd r6.bQ eC).dV).length).toNat - (0:Int).toNat)) == ((gd r6.bQ eC).dV)))) || (decide ((Int.ofNat ((gd r6.bQ eF).fM).length)<(Int.ofNat ((gd r6.bQ eC).fM).length))))) || cW ((gd r6.bQ eF).fM).length 0 (Int.ofNat ((gd r6.bQ eC).fM).length)] (bN (((decide ((Int.ofNat ((gd r6.bQ eF).dV).length)<(Int.ofNat ((gd r6.bQ eC).dV).length))) || (!(((((gd r6.bQ eF).dV).drop (0:Int).toNat).take ((Int.ofNat ((gd r6.bQ eC).dV).length).toNat - (0:Int).toNat)) == ((gd r6.bQ eC).dV)))) || (decide ((Int.ofNat ((gd r6.bQ eF).fM).length)<(Int.ofNat ((gd r6.bQ eC).fM).length)))) (fun (yL:Bool)=>((cH (!yL) (bT (F12 K (mB ((gd r6.bQ eF).fM) (0:Int).toNat (Int.ofNat ((gd r6.bQ eC).fM).length).toNat E9.d) ((gd r6.bQ eC).fM))) default).bind (fun aHJ=>(bN ((yL || (!aHJ)) || ((Int.ofNat ((gd r6.bQ eF).xJ).length) != (Int.ofNat ((gd r6.bQ eF).fM).length))) (fun (aFe:Bool)=>(if aFe=true then (some (.inl (Sum.inr (Sum.inr (false))))) else (bW [cS 1 e9.length] (bW [cS (gd e9 1) r3.1.bK.length] (bN ((r3.1.bK.getD ((gd e9 1):Int).toNat default).bM) (fun (oL:(List hU))=>(bL (bJ ((iter K (fun (mL:Int)=>(bN (decide ((mL:Int)<(Int.ofNat oL.length))) (fun (aK2:Bool)=>(if aK2=true then (bL (bJ (bW [cS mL oL.length,cS 1 e9.length,cS mL oL.length] (bN ((gd oL mL).cC) (fun (aB1:Bytes)=>((cH true (bT (F13 K r3.1 j5 aB1)) default).bind (fun aB2=>((cH true (bT (F13 K r3.1 (gd e9 1) aB1)) default).bind (fun aB3=>(bW [!(!((aB2:Int) != aB3)) || cS mL oL.length] ((cH (!((aB2:Int) != aB3)) (bT (F13 K r3.1 j5 ((gd oL mL).cC))) default).bind (fun aK3=>(bN (((aB2:Int) != aB3) || (decide ((aK3:Int)<0))) (fun (aK4:Bool)=>(if aK4=true then (some (.inl (Sum.inr (Sum.inr (Sum.inr (Sum.inr (false))))))) else (some (.inr ())))))))))))))))) (fun (aPk:Unit)=>(some (.inr ((IntKind.i64.wrap (mL+1))))))) else (some (.inl (Sum.inl ()))))))) (0)).map .inl)) (fun (aPl:Unit)=>(bW [cS 1 e9.length] (bW [cS (gd e9 1) r3.1.bK.length] (bN ((r3.1.bK.getD ((gd e9 1):Int).toNat default).cU) (fun (uZ:(List fE))=>(bL (bJ ((iter K (fun (q9:Int)=>(bN (decide ((q9:Int)<(Int.ofNat uZ.length))) (fun (aK5:Bool)=>(if aK5=true then (bL (bJ (bW [cS q9 uZ.length,cS 1 e9.length,cS q9 uZ.length] (bN ((gd uZ q9).cC) (fun (aB4:Bytes)=>((cH true (bT (F14 K r3.1 j5 aB4)) default).bind (fun aK6=>((cH true (bT (F14 K r3.1 (gd e9 1) aB4)) default).bind (fun aK7=>(if ((aK6:Int) != aK7)=true then (some (.inl (Sum.inr (Sum.inr (Sum.inr (Sum.inr (false))))))) else (some (.inr ()))))))))))) (fun (aPm:Unit)=>(some (.inr ((IntKind.i64.wrap (q9+1))))))) else (some (.inl (Sum.inl ()))))))) (0)).map .inl)) (fun (aPn:Unit)=>(some (.inr ()))))))))))))))))))))))) ?_ (fun hk=>?_)
          ·
           exact Ref.pt (
            .esc [0,1,2,3] [(cd (bd Tryz.f4) [1,1,1,1,1,0,1,0,0,1,0,0,1,1,1,1,1,0,0]),(cd (bd Tryz.f4) [1,1,1,1,1,0,1,0,0,1,0,0,1,1,1,1,1,0,1]),(cd (bd Tryz.f4) [1,1,1,1,1,0,1,0,0,1,0,0,1,1,1,1,1,1])] ⟨p6 j5 e9++[sP 10 2 0 0,sP 11 3 0 0],nY r3 r6++xY r6 eF++xY r6 eC,[],0⟩ (by
             refine Ref.eH 16 (by kernel_rfl) (by kernel_rfl) ?_
             refine dN.eW (cR:=⟨p6 j5 e9++[sP 10 2 0 0,sP 11 3 0 0,sP 92 2 0 1,sP 95 3 0 1],nY r3 r6++xY r6 eF++xY r6 eC,[],0⟩) (fuel':=46) [0,3] [3,5,6,7,10,11,92,95] [0,1,2,3] rfl (by kernel_rfl) (by kernel_rfl) ?_
             refine dN.qB [] ?_
             refine bO.evH (vs:=[!(!(decide ((Int.ofNat ((gd r6.bQ eF).dV).length)<(Int.ofNat ((gd r6.bQ eC).dV).length)))) || cW ((gd r6.bQ eF).dV).length 0 (Int.ofNat ((gd r6.bQ eC).dV).length),!(!(((decide ((Int.ofNat ((gd r6.bQ eF).dV).length)<(Int.ofNat ((gd r6.bQ eC).dV).length))) || (!(((((gd r6.bQ eF).dV).drop (0:Int).toNat).take ((Int.ofNat ((gd r6.bQ eC).dV).length).toNat - (0:Int).toNat)) == ((gd r6.bQ eC).dV)))) || (decide ((Int.ofNat ((gd r6.bQ eF).fM).length)<(Int.ofNat ((gd r6.bQ eC).fM).length))))) || cW ((gd r6.bQ eF).fM).length 0 (Int.ofNat ((gd r6.bQ eC).fM).length)]) (cR:=⟨p6 j5 e9++[sP 10 2 0 0,sP 11 3 0 0,sB 119 (((decide ((Int.ofNat ((gd r6.bQ eF).dV).length)<(Int.ofNat ((gd r6.bQ eC).dV).length))) || (!(((((gd r6.bQ eF).dV).drop (0:Int).toNat).take ((Int.ofNat ((gd r6.bQ eC).dV).length).toNat - (0:Int).toNat)) == ((gd r6.bQ eC).dV)))) || (decide ((Int.ofNat ((gd r6.bQ eF).fM).length)<(Int.ofNat ((gd r6.bQ eC).fM).length)))),(125,.c (.tree E9.w ((Int.ofNat ((gd r6.bQ eC).fM).length).toNat - (0:Int).toNat) fun i j=>E9.at ((gd r6.bQ eF).fM) ((0:Int).toNat+i) j))],nY r3 r6++xY r6 eF++xY r6 eC,[(125,[(119,false)])],0⟩) (fuel':=14) [1,2,4,5,6,7,8,9,10,11,12,13,14,15,16,17,18,19,20,21,22,23,24,25,26,27,28,29,30,31,32,33] [3,5,6,7,10,11,119,125] [0,1,2,3] rfl (by kernel_rfl) (by kernel_rfl) (fun hv=>?_)
             refine bO.conv (Conv.aWr 125 (.c (E9.tree (mB ((gd r6.bQ eF).fM) (0:Int).toNat (Int.ofNat ((gd r6.bQ eC).fM).length).toNat E9.d))) (eA.c (El.aGU E9 _ _ _)) (by kernel_rfl)) ?_
             refine bO.aEH (stf:=fun yL=>⟨(125,.c (E9.tree (mB ((gd r6.bQ eF).fM) (0:Int).toNat (Int.ofNat ((gd r6.bQ eC).fM).length).toNat E9.d)))::(p6 j5 e9++[sP 10 2 0 0,sP 11 3 0 0,sB 119 yL]),nY r3 r6++xY r6 eF++xY r6 eC,[(125,[(119,false)])],0⟩) (by kernel_rfl) (fun yL=>?_)
             refine bO.v0 (fuel':=12) [34,35] [3,5,6,7,10,119,125,127] [0,1,2] ?_
             refine bO.lC (t:=128) (g:=[(119,false)]) (b:=(!yL)) (fuel':=11) 36 [] (default:Bool) rfl (by kernel_rfl) (by kernel_rfl) (aVd K (mB ((gd r6.bQ eF).fM) (0:Int).toNat (Int.ofNat ((gd r6.bQ eC).fM).length).toNat E9.d) ((gd r6.bQ eC).fM)) (fun _=>rfl) (fun aHJ=>?_)
             refine bO.eW (cR:=⟨p6 j5 e9++[sB 139 ((yL || (!aHJ)) || ((Int.ofNat ((gd r6.bQ eF).xJ).length) != (Int.ofNat ((gd r6.bQ eF).fM).length)))],nY r3 r6,[],0⟩) (fuel':=0) [37,38,39,40,41,42,43,44,45,46,47] [3,5,6,7,139] [0,1] rfl (by kernel_rfl) (by kernel_rfl) ?_
             refine bO.aEH (stf:=fun aFe=>⟨p6 j5 e9++[sB 139 aFe],nY r3 r6,[],0⟩) (by kernel_rfl) (fun aFe=>?_)
             refine bO.done (by kernel_rfl) ?_
             exact Ref.pt (
              .ite _ (
               .ret [] _) (
               .lT [0,2,3] _ <|
               .tx [] <|
               .lT [1,4,5,6,7,8] _ <|
               .lt _ fun oL =>
               .bk 2 (fun aPl=>⟨p6 j5 e9,nY r3 r6,[],0⟩) (
                .lp [0,1] (fun mL=>⟨p6 j5 e9++[(12,.c (kJ.tree oL)),sI 13 mL],nY r3 r6,[],0⟩) fun mL =>
                .lt _ fun aK2 =>
                .ite _ (
                 .bk 3 (fun aPk=>⟨p6 j5 e9++[(12,.c (kJ.tree oL)),sI 13 mL],nY r3 r6,[],0⟩) (
                  .lT [1,2,3,4,5,9,10,12,13,14,15] _ <|
                  .tx [] <|
                  .ex [0,6,8,11,16] <|
                  .lt _ fun aB1 =>
                  .fF 7 (default:Int) _ [] (aJz K r3.1 j5 aB1) (fun _=>rfl) fun aB2 =>
                  .fF 17 (default:Int) _ [] (aJz K r3.1 (gd e9 1) aB1) (fun _=>rfl) fun aB3 =>
                  .lT [18,19,20,21,22,23,24,25,26] _ <|
                  .fF 27 (default:Int) _ [] (aJz K r3.1 j5 ((gd oL mL).cC)) (fun _=>rfl) fun aK3 =>
                  .ex [28,29] <|
                  .lt _ fun aK4 =>
                  .ite _ (
                   .ret [] _) (
                   .nil [0,1] _)) fun aPk =>
                 .nil [0,1] _) (
                 .ret [0,1] _)) fun aPl =>
               .lT [0,2,3] _ <|
               .tx [] <|
               .lT [1,4,5,6,7,8] _ <|
               .lt _ fun uZ =>
               .bk 4 (fun aPn=>⟨[sP 3 0 0 0,sP 5 1 0 0,sI 6 j5],nY r3 r6,[],0⟩) (
                .lp [0,1] (fun q9=>⟨p6 j5 e9++[(14,.c (eN.tree uZ)),sI 15 q9],nY r3 r6,[],0⟩) fun q9 =>
                .lt _ fun aK5 =>
                .ite _ (
                 .bk 5 (fun aPm=>⟨p6 j5 e9++[(14,.c (eN.tree uZ)),sI 15 q9],nY r3 r6,[],0⟩) (
                  .lT [1,2,3,4,5,9,10,12,13,14,15] _ <|
                  .tx [] <|
                  .ex [0,6,8,11,16] <|
                  .lt _ fun aB4 =>
                  .fF 7 (default:Int) _ [] (aPf K r3.1 j5 aB4) (fun _=>rfl) fun aK6 =>
                  .fF 17 (default:Int) _ [] (aPf K r3.1 (gd e9 1) aB4) (fun _=>rfl) fun aK7 =>
                  .ex [18] <|
                  .ite _ (
                   .ret [] _) (
                   .nil [0,1] _)) fun aPm =>
                 .nil [0,1] _) (
                 .ret [0,1] _)) fun aPn =>
               .nil [0,1] _))))
          ·
           refine bO.evC (vs:=[cS eF r6.bQ.length]) (cR:=⟨p6 j5 e9++[(86,.agg (uY.cs (gd r6.bQ eF))),sP 87 1 0 1,sI 89 eC],nY r3 r6,[],0⟩) (fuel':=7) [1,3,4] [3,5,6,7,86,87,89] [0,1] rfl (by kernel_rfl) (by kernel_rfl) ?_
           refine bO.aWq (fuel':=4) [[],[(9,91)],[(8,90),(9,91)],[(6,88),(8,90),(9,91)]] [(8,[cS eC r6.bQ.length])] [(6,88),(8,90),(9,91)] [3,5,6,7,86,87,89] [0,1] ⟨p6 j5 e9++((86,.agg (uY.cs (gd r6.bQ eF)))::aJC r6 eC),nY r3 r6,[],0⟩ ?_
           refine cO.kV (fuel':=3) 10 11 ?_ ?_
           ·
            refine dB.iY (cR:=⟨p6 j5 e9++(sP 10 2 0 0::(86,.agg (uY.cs (gd r6.bQ eF)))::aJC r6 eC),nY r3 r6++[oX2],[],0⟩) 10 [3,5,6,7,10,86,87,88,89,90,91] [0,1,2] (by kernel_rfl) (by kernel_rfl) ?_
            refine cO.cM (fuel':=2) 11 ?_
            refine dB.iY (cR:=⟨p6 j5 e9++(sP 10 2 0 0::sP 11 3 0 0::(86,.agg (uY.cs (gd r6.bQ eF)))::aJC r6 eC),nY r3 r6++[oX2,oX2],[],0⟩) 11 [3,5,6,7,10,11,86,87,88,89,90,91] [0,1,2,3] (by kernel_rfl) (by kernel_rfl) ?_
            refine cO.cM (fuel':=1) 12 ?_
            refine dB.gI (cR:=⟨p6 j5 e9++(sP 10 2 0 0::sP 11 3 0 0::aJC r6 eC),nY r3 r6++xY r6 eF++[oX2],[],0⟩) 12 [3,5,6,7,10,11,87,88,89,90,91] [0,1,2,3] (by kernel_rfl) (by kernel_rfl) ?_
            refine cO.close ?_
            refine bO.cM (fuel':=0) 13 (by kernel_rfl) ?_
            refine cF.w0 13 [3,5,6,7,10,11] [0,1,2,3] ?_
            refine bO.done (by kernel_rfl) ?_
            refine Ref.ck ⟨p6 j5 e9++[sP 10 2 0 0,sP 11 3 0 0],nY r3 r6++xY r6 eF++xY r6 eC,[],0⟩ [3,5,6,7,10,11] [0,1,2,3] ?_
            exact hk
           ·
            refine dB.iY (cR:=⟨p6 j5 e9++(sP 11 2 0 0::(86,.agg (uY.cs (gd r6.bQ eF)))::aJC r6 eC),nY r3 r6++[oX2],[],0⟩) 11 [3,5,6,7,11,86,87,88,89,90,91] [0,1,2] (by kernel_rfl) (by kernel_rfl) ?_
            refine cO.cM (fuel':=2) 10 ?_
            refine dB.iY (cR:=⟨p6 j5 e9++(sP 10 3 0 0::sP 11 2 0 0::(86,.agg (uY.cs (gd r6.bQ eF)))::aJC r6 eC),nY r3 r6++[oX2,oX2],[],0⟩) 10 [3,5,6,7,10,11,86,87,88,89,90,91] [0,1,2,3] (by kernel_rfl) (by kernel_rfl) ?_
            refine cO.cM (fuel':=1) 12 ?_
            refine dB.gI (cR:=⟨p6 j5 e9++(sP 10 3 0 0::sP 11 2 0 0::aJC r6 eC),nY r3 r6++(oX2::xY r6 eF),[],0⟩) 12 [3,5,6,7,10,11,87,88,89,90,91] [0,1,2,3] (by kernel_rfl) (by kernel_rfl) ?_
            refine cO.close ?_
            refine bO.cM (fuel':=0) 13 (by kernel_rfl) ?_
            refine cF.w0 13 [3,5,6,7,10,11] [0,1,2,3] ?_
            refine bO.done (by kernel_rfl) ?_
            refine Ref.ck ⟨p6 j5 e9++[sP 10 2 0 0,sP 11 3 0 0],nY r3 r6++xY r6 eF++xY r6 eC,[],0⟩ [3,5,6,7,10,11] [0,1,3,2] ?_
            exact hk)))) fun aTy =>
      .nil [0,1] _) (
      .ret [] _)) fun aYt =>
    .call [] (aPi _) fun aTz =>
    .ret [] _)))
end Go.Proofs.YtdbfbedholdjaaaGreat
