/- No conditions. -/
import Derived.Test.YtdbfbedholdjaaaGreatHLr
import Derived.Test.YtdbfbedholdjaaaGreatHLs
import Derived.Test.YtdbfbedholdjaaaGreatHLo
import Derived.Test.YtdbfbedholdjaaaGreatHLq
import Derived.Test.YtdbfbedholdjaaaGreatProg
set_option linter.unusedVariables false
set_option linter.unusedSimpArgs false
set_option linter.unusedSectionVars false
namespace Go.Proofs.YtdbfbedholdjaaaGreat
open Go Go.Proofs Go.Dl
variable [dO]
set_option maxRecDepth 100000
set_option maxHeartbeats 4000000
def F7 (K:Nat):Option ((Bool) ⊕ (Bool)) :=
 ((bX (F31 K)).bind (fun r1=>((bX (F9 K r1)).bind (fun r2=>(bY [(r2.dJ == ([105]:Bytes))] ((cE true (bX (F32 K r2.dM [3])) default).bind (fun r4=>(bY [!((true && r4) && (((Int.ofNat r2.dI.length):Int) == 1)) || cP 0 r2.dI.length] (bR (((true && r4) && (((Int.ofNat r2.dI.length):Int) == 1)) && ((((r2.dI.getD (0:Int).toNat default).aF8):Int) == (-1))) (fun (x5:Bool)=>(bY [x5] ((bX (F31 K)).bind (fun r7=>((cE true (bX (F17 K r7 0 ([120]:Bytes))) default).bind (fun r8=>(bY [(true && ((r8:Int) == 0))] ((bX (F31 K)).bind (fun j7=>((cE true (bX (F17 K j7 0 ([121]:Bytes))) default).bind (fun r11=>(some (.inl ((true && ((r11:Int) == (-1))))))))))))))))))))))))))
theorem aQH (K:Nat):bV Tryz.prog 7 [] [] (bX (F7 K)) (fun r=>.c (.val (.bool r))) (fun r=>[]):=by
 refine bV.it Tryz.f7 (fun r=>⟨[sB 0 r],[],[],0⟩) ?_
 unfold F7
 exact Ref.pt (
  .call [] (aJx _) fun r1 =>
  .call [] (aVP _ _) fun r2 =>
  .aD7 [2] 2 (rg (cd (bd Tryz.f7) [1,1,0])) ((rg (cd (bd Tryz.f7) [1,1,0])).toList.drop 6) [(cd (bd Tryz.f7) [1,1,1])] ⟨[sP 1 0 0 0,sB 7 (r2.dJ == ([105]:Bytes)),(9,.c (E3.tree r2.dM))],[.cells (vQ.cs r2)],[(9,[(7,true)])],0⟩ (by
   refine eO.aFi (b:=(r2.dJ == ([105]:Bytes))) (stf:=fun v3=>⟨[sP 1 0 0 0,sB 7 v3,(9,.c (E3.tree r2.dM))],[.cells (vQ.cs r2)],[(9,[(7,true)])],0⟩) (by kernel_rfl) ?_
   refine eO.conv (Conv.clear (by kernel_rfl)) ?_
   refine eO.aFk 6 (by kernel_rfl) (by kernel_rfl) ?_
   exact eO.pt (id:=2) (
    .ob 2 27 1 (El.b9 E3 [3] rfl rfl) <|
    .look (default:Bool) _ [1] (wV K r2.dM [3]) (fun _=>rfl) fun r4 =>
    .ck _ <|
    .lt _ fun x5 =>
    .aD7 [] 2 (rg (cd (bd Tryz.f7) [1,1,0])) (((rg (cd (bd Tryz.f7) [1,1,0])).toList.set 6 (Oper.free (jQ (rg (cd (bd Tryz.f7) [1,1,0])).toList 6))).drop 24) [(cd (bd Tryz.f7) [1,1,1])] ⟨[sB 27 x5],[],[],0⟩ (by
     refine eO.aFi (b:=x5) (stf:=fun v6=>⟨[sB 27 v6],[],[],0⟩) (by kernel_rfl) ?_
     refine eO.aFk 24 (by kernel_rfl) (by kernel_rfl) ?_
     exact eO.pt (id:=2) (
      .call [] (aJx _) fun r7 =>
      .look (default:Int) _ [] (aFT K r7 0 wx) (fun _=>rfl) fun r8 =>
      .aD7 [] 2 (rg (cd (bd Tryz.f7) [1,1,0])) ((((rg (cd (bd Tryz.f7) [1,1,0])).toList.set 6 (Oper.free (jQ (rg (cd (bd Tryz.f7) [1,1,0])).toList 6))).set 24 (Oper.free (jQ ((rg (cd (bd Tryz.f7) [1,1,0])).toList.set 6 (Oper.free (jQ (rg (cd (bd Tryz.f7) [1,1,0])).toList 6))) 24))).drop 29) [(cd (bd Tryz.f7) [1,1,1])] ⟨[sB 32 (true && ((r8:Int) == 0))],[],[],0⟩ (by
       refine eO.aFi (b:=(true && ((r8:Int) == 0))) (stf:=fun v9=>⟨[sB 32 v9],[],[],0⟩) (by kernel_rfl) ?_
       refine eO.aFk 29 (by kernel_rfl) (by kernel_rfl) ?_
       exact eO.pt (id:=2) (
        .call [] (aJx _) fun j7 =>
        .look (default:Int) _ [] (aFT K j7 0 ([121]:Bytes)) (fun _=>rfl) fun r11 =>
        .ret [] _)))))))
def F6 (K:Nat) (a0:Bytes):Option ((Bool) ⊕ (Bool)) :=
 (bR (decide (((Int.ofNat a0.length):Int) > 6000)) (fun (x1:Bool)=>(if x1=true then ((bX (F7 K)).bind (fun r2=>(some (.inl (r2))))) else ((bX (F8 K a0)).bind (fun r3=>(bR (decide (((Int.ofNat r3.2.length):Int) > 0)) (fun (x4:Bool)=>(if x4=true then ((bX (F7 K)).bind (fun r5=>(some (.inl (r5))))) else ((bX (F9 K r3.1)).bind (fun r6=>((bX (F20 K r3.1)).bind (fun r9=>((cE true (bX (F16 K r6 r9)) default).bind (fun j7=>(if (!j7)=true then (some (.inl (false))) else (bT (bQ ((iter K (fun (eH:Int)=>(bR (decide ((eH:Int)≤(Int.ofNat r3.1.bP.length))) (fun (aVQ:Bool)=>(if aVQ=true then (bT (bQ ((cE true (bX (F11 K r3.1 eH)) default).bind (fun aKX=>((cE true (bX (F21 K r3.1 eH)) default).bind (fun aKY=>((cE (!((aKX:Int) != aKY)) (bX (F22 K r3.1 eH)) default).bind (fun aVR=>((cE (!((aKX:Int) != aKY)) (bX (F23 K r3.1 eH)) default).bind (fun aVS=>(bR (((aKX:Int) != aKY) || ((aVR:Int) != aVS)) (fun (aKZ:Bool)=>((cE (!aKZ) (bX (F19 K r3.1 (⟨eH,(-1)⟩:dS))) default).bind (fun aVT=>((cE (!aKZ) (bX (F24 K r3.1 (⟨eH,(-1)⟩:dS))) default).bind (fun aVU=>(if (aKZ || ((aVT:Int) != aVU))=true then (some (.inl (Sum.inr (Sum.inr (false))))) else (bT (bQ ((iter K (fun (aA1:Int)=>(bY [!((decide ((eH:Int) ≥ 0)) && (decide ((eH:Int)<(Int.ofNat r3.1.bP.length)))) || cP eH r3.1.bP.length] (bR (((decide ((eH:Int) ≥ 0)) && (decide ((eH:Int)<(Int.ofNat r3.1.bP.length)))) && (decide ((aA1:Int)<(Int.ofNat ((r3.1.bP.getD (eH:Int).toNat default).cA).length)))) (fun (aVV:Bool)=>(if aVV=true then (bT (bQ (bY [cP eH r3.1.bP.length,cP aA1 ((r3.1.bP.getD (eH:Int).toNat default).cA).length] (bR ((((r3.1.bP.getD (eH:Int).toNat default).cA).getD (aA1:Int).toNat default).cD) (fun (mY:Bytes)=>((cE true (bX (F17 K r3.1 eH mY)) default).bind (fun aK0=>((cE true (bX (F25 K r3.1 eH mY)) default).bind (fun aK1=>((cE (!((aK0:Int) != aK1)) (bX (F14 K r3.1 eH mY)) default).bind (fun aVW=>((cE (!((aK0:Int) != aK1)) (bX (F26 K r3.1 eH mY)) default).bind (fun aVX=>(bR (((aK0:Int) != aK1) || ((aVW:Int) != aVX)) (fun (aEN:Bool)=>((cE (!aEN) (bX (F27 K r3.1 eH mY)) default).bind (fun aK2=>((cE (!aEN) (bX (F28 K r3.1 eH mY)) default).bind (fun aK3=>((cE (!(aEN || ((aK2:Int) != aK3))) (bX (F18 K r3.1 eH mY)) default).bind (fun aVY=>((cE (!(aEN || ((aK2:Int) != aK3))) (bX (F29 K r3.1 eH mY)) default).bind (fun aVZ=>(bR ((aEN || ((aK2:Int) != aK3)) || ((aVY:Int) != aVZ)) (fun (aV0:Bool)=>(if aV0=true then (some (.inl (Sum.inr (Sum.inr (Sum.inr (Sum.inr (false))))))) else (some (.inr ()))))))))))))))))))))))))))) (fun (aV1:Unit)=>(some (.inr ((IntKind.i64.wrap (aA1+1))))))) else (some (.inl (Sum.inl ())))))))) (0)).map .inl)) (fun (aV2:Unit)=>(bT (bQ ((iter K (fun (sF:Int)=>(bY [!((decide ((eH:Int) ≥ 0)) && (decide ((eH:Int)<(Int.ofNat r3.1.bP.length)))) || cP eH r3.1.bP.length] (bR (((decide ((eH:Int) ≥ 0)) && (decide ((eH:Int)<(Int.ofNat r3.1.bP.length)))) && (decide ((sF:Int)<(Int.ofNat ((r3.1.bP.getD (eH:Int).toNat default).bS).length)))) (fun (aV3:Bool)=>(if aV3=true then (bT (bQ (bY [cP eH r3.1.bP.length,cP sF ((r3.1.bP.getD (eH:Int).toNat default).bS).length] (bR ((((r3.1.bP.getD (eH:Int).toNat default).bS).getD (sF:Int).toNat default).cD) (fun (aHL:Bytes)=>((cE true (bX (F13 K r3.1 eH aHL)) default).bind (fun aK4=>((cE true (bX (F30 K r3.1 eH aHL)) default).bind (fun aK5=>((cE (!((aK4:Int) != aK5)) (bX (F19 K r3.1 (⟨eH,sF⟩:dS))) default).bind (fun aV4=>((cE (!((aK4:Int) != aK5)) (bX (F24 K r3.1 (⟨eH,sF⟩:dS))) default).bind (fun aV5=>(bR (((aK4:Int) != aK5) || ((aV4:Int) != aV5)) (fun (aV6:Bool)=>(if aV6=true then (some (.inl (Sum.inr (Sum.inr (Sum.inr (Sum.inr (false))))))) else (some (.inr ()))))))))))))))))) (fun (aV7:Unit)=>(some (.inr ((IntKind.i64.wrap (sF+1))))))) else (some (.inl (Sum.inl ())))))))) (0)).map .inl)) (fun (aV8:Unit)=>(some (.inr ())))))))))))))))))))))) (fun (aV9:Unit)=>(some (.inr ((IntKind.i64.wrap (eH+1))))))) else (some (.inl (Sum.inl ()))))))) ((-1))).map .inl)) (fun (aWa:Unit)=>((bX (F7 K)).bind (fun aWb=>(some (.inl (aWb))))))))))))))))))))))
theorem a3P (K:Nat) (a0:Bytes):bV Tryz.prog 6 [.c (.str a0)] [] (bX (F6 K a0)) (fun r=>.c (.val (.bool r))) (fun r=>[]):=by
 refine bV.it Tryz.f6 (fun r=>⟨[sB 2 r],[],[],0⟩) ?_
 unfold F6
 exact Ref.pt (
  .lt _ fun x1 =>
  .ite _ (
   .call [] (aQH _) fun r2 =>
   .ret [] _) (
   .call [] (a3O _ _) fun r3 =>
   .lt _ fun x4 =>
   .ite _ (
    .call [] (aQH _) fun r5 =>
    .ret [] _) (
    .call [] (aVP _ _) fun r6 =>
    .tx [2,3] <|
    .ex [1] <|
    .kn fun r9 er9 =>
    .kn fun j7 a6f =>
    .all [3,5,27,26,28,29,30] (rg (cd (bd Tryz.f6) [1,1,1,1,1,0,0])) [false,true,false,false,false] (hl [(2,.kc [] (bV.eq (aYk _ _) er9) []),(3,.kc [] (bV.eq (aYE _ _ _) a6f) [])]) ⟨[sP 3 0 0 0,sB 30 (!j7)],[.cells (c9.cs r3.1)],[],0⟩ [.s 3] <|
    .ite _ (
     .ret [] _) (
     .bk 0 (fun aWa=>⟨[],[],[],0⟩) (
      .lp [0] (fun eH=>⟨[sP 3 0 0 0,sI 6 eH],[.cells (c9.cs r3.1)],[],0⟩) fun eH =>
      .lt _ fun aVQ =>
      .ite _ (
       .bk 1 (fun aV9=>⟨[sP 3 0 0 0,sI 6 eH],[.cells (c9.cs r3.1)],[],0⟩) (
        .ex [1,4] <|
        .tx [] <|
        .ex [0,3] <|
        .dQ 2 (default:Int) _ [] (aFP K r3.1 eH) (fun _=>rfl) fun aKX =>
        .dQ 5 (default:Int) _ [] (aFU K r3.1 eH) (fun _=>rfl) fun aKY =>
        .ex [6,7,8,9,11,12] <|
        .dQ 10 (default:Int) _ [] (aO2 K r3.1 eH) (fun _=>rfl) fun aVR =>
        .dQ 13 (default:Int) _ [] (aPu K r3.1 eH) (fun _=>rfl) fun aVS =>
        .ex [14,15,16,17,18,19,21,22,23] <|
        .lt _ fun aKZ =>
        .dQ 20 (default:Int) _ [] (aC0 K r3.1 (⟨eH,(-1)⟩:dS)) (fun _=>rfl) fun aVT =>
        .dQ 24 (default:Int) _ [] (aFV K r3.1 (⟨eH,(-1)⟩:dS)) (fun _=>rfl) fun aVU =>
        .ex [25,26] <|
        .ite _ (
         .ret [] _) (
         .bk 2 (fun aV2=>⟨[sP 3 0 0 0,sI 6 eH],[.cells (c9.cs r3.1)],[],0⟩) (
          .lp [0] (fun aA1=>⟨[sP 3 0 0 0,sI 6 eH,sI 7 aA1],[.cells (c9.cs r3.1)],[],0⟩) fun aA1 =>
          .ck _ <|
          .lt _ fun aVV =>
          .ite _ (
           .bk 3 (fun aV1=>⟨[sP 3 0 0 0,sI 6 eH,sI 7 aA1],[.cells (c9.cs r3.1)],[],0⟩) (
            .ck _ <|
            .lt _ fun mY =>
            .ex [1,2,5,6] <|
            .tx [] <|
            .ex [0,4] <|
            .dQ 3 (default:Int) _ [] (aFT K r3.1 eH mY) (fun _=>rfl) fun aK0 =>
            .dQ 7 (default:Int) _ [] (aPI K r3.1 eH mY) (fun _=>rfl) fun aK1 =>
            .ex [8,9,10,11,12,14,15,16] <|
            .dQ 13 (default:Int) _ [] (aYK K r3.1 eH mY) (fun _=>rfl) fun aVW =>
            .dQ 17 (default:Int) _ [] (aYm K r3.1 eH mY) (fun _=>rfl) fun aVX =>
            .ex [18,19,20,21,22,23,25,26,27] <|
            .lt _ fun aEN =>
            .dQ 24 (default:Int) _ [] (aXN K r3.1 eH mY) (fun _=>rfl) fun aK2 =>
            .dQ 28 (default:Int) _ [] (aYn K r3.1 eH mY) (fun _=>rfl) fun aK3 =>
            .ex [29,30,31,32,33,34,36,37,38] <|
            .dQ 35 (default:Int) _ [] (aXM K r3.1 eH mY) (fun _=>rfl) fun aVY =>
            .dQ 39 (default:Int) _ [] (aYo K r3.1 eH mY) (fun _=>rfl) fun aVZ =>
            .ex [40,41] <|
            .lt _ fun aV0 =>
            .ite _ (
             .ret [] _) (
             .nil [0] _)) fun aV1 =>
           .nil [0] _) (
           .ret [0] _)) fun aV2 =>
         .bk 4 (fun aV8=>⟨[sP 3 0 0 0,sI 6 eH],[.cells (c9.cs r3.1)],[],0⟩) (
          .lp [0] (fun sF=>⟨[sP 3 0 0 0,sI 6 eH,sI 9 sF],[.cells (c9.cs r3.1)],[],0⟩) fun sF =>
          .ck _ <|
          .lt _ fun aV3 =>
          .ite _ (
           .bk 5 (fun aV7=>⟨[sP 3 0 0 0,sI 6 eH,sI 9 sF],[.cells (c9.cs r3.1)],[],0⟩) (
            .ck _ <|
            .lt _ fun aHL =>
            .ex [1,2,5,6] <|
            .tx [] <|
            .ex [0,4] <|
            .dQ 3 (default:Int) _ [] (aYJ K r3.1 eH aHL) (fun _=>rfl) fun aK4 =>
            .dQ 7 (default:Int) _ [] (aYp K r3.1 eH aHL) (fun _=>rfl) fun aK5 =>
            .ex [8,9,10,11,12,13,15,16,17,18] <|
            .dQ 14 (default:Int) _ [] (aC0 K r3.1 (⟨eH,sF⟩:dS)) (fun _=>rfl) fun aV4 =>
            .dQ 19 (default:Int) _ [] (aFV K r3.1 (⟨eH,sF⟩:dS)) (fun _=>rfl) fun aV5 =>
            .ex [20,21] <|
            .lt _ fun aV6 =>
            .ite _ (
             .ret [] _) (
             .nil [0] _)) fun aV7 =>
           .nil [0] _) (
           .ret [0] _)) fun aV8 =>
         .nil [0] _)) fun aV9 =>
       .nil [0] _) (
       .ret [] _)) fun aWa =>
     .call [] (aQH _) fun aWb =>
     .ret [] _))))
end Go.Proofs.YtdbfbedholdjaaaGreat
