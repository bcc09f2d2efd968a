/- No conditions. -/
import Derived.Test.YtdbfbedholdjaaaGreatGLr
import Derived.Test.YtdbfbedholdjaaaGreatGLs
import Derived.Test.YtdbfbedholdjaaaGreatGLq
import Derived.Test.YtdbfbedholdjaaaGreatProg
set_option linter.unusedVariables false
set_option linter.unusedSimpArgs false
set_option linter.unusedSectionVars false
namespace Go.Proofs.YtdbfbedholdjaaaGreat
open Go Go.Proofs Go.Dl
variable [dK]
set_option maxRecDepth 100000
set_option maxHeartbeats 4000000
def F7 (K:Nat):Option ((Bool) ⊕ (Bool)) :=
 ((bV (F31 K)).bind (fun r1=>((bV (F9 K r1)).bind (fun r2=>(bW [(r2.dS == ([105]:Bytes))] ((cF true (bV (F32 K r2.dU [3])) default).bind (fun r4=>(bW [!((true && r4) && (((Int.ofNat r2.dQ.length):Int) == 1)) || cY 0 r2.dQ.length] (bO (((true && r4) && (((Int.ofNat r2.dQ.length):Int) == 1)) && ((((r2.dQ.getD (0:Int).toNat default).aFA):Int) == (-1))) (fun (x5:Bool)=>(bW [x5] ((bV (F31 K)).bind (fun r7=>((cF true (bV (F17 K r7 0 ([120]:Bytes))) default).bind (fun r8=>(bW [(true && ((r8:Int) == 0))] ((bV (F31 K)).bind (fun jL=>((cF true (bV (F17 K jL 0 ([121]:Bytes))) default).bind (fun r11=>(some (.inl ((true && ((r11:Int) == (-1))))))))))))))))))))))))))
theorem aPq (K:Nat):bS Tryz.prog 7 [] [] (bV (F7 K)) (fun r=>.c (.val (.bool r))) (fun r=>[]):=by
 refine bS.it Tryz.f7 (fun r=>⟨[sB 0 r],[],[],0⟩) ?_
 unfold F7
 exact Ref.pt (
  .call [] (aIT _) fun r1 =>
  .call [] (aPo _ _) fun r2 =>
  .aDx [2] 2 (rg (cd (bd Tryz.f7) [1,1,0])) ((rg (cd (bd Tryz.f7) [1,1,0])).toList.drop 6) [(cd (bd Tryz.f7) [1,1,1])] ⟨[sP 1 0 0 0,sB 7 (r2.dS == ([105]:Bytes)),(9,.c (E3.tree r2.dU))],[.cells (vC.cs r2)],[(9,[(7,true)])],0⟩ (by
   refine eF.aEH (b:=(r2.dS == ([105]:Bytes))) (stf:=fun v3=>⟨[sP 1 0 0 0,sB 7 v3,(9,.c (E3.tree r2.dU))],[.cells (vC.cs r2)],[(9,[(7,true)])],0⟩) (by kernel_rfl) ?_
   refine eF.conv (Conv.clear (by kernel_rfl)) ?_
   refine eF.aEJ 6 (by kernel_rfl) (by kernel_rfl) ?_
   exact eF.pt (id:=2) (
    .ob 2 27 1 (El.cB E3 [3] rfl rfl) <|
    .look (default:Bool) _ [1] (wE K r2.dU [3]) (fun _=>rfl) fun r4 =>
    .ck _ <|
    .lt _ fun x5 =>
    .aDx [] 2 (rg (cd (bd Tryz.f7) [1,1,0])) (((rg (cd (bd Tryz.f7) [1,1,0])).toList.set 6 (Oper.free (jP (rg (cd (bd Tryz.f7) [1,1,0])).toList 6))).drop 24) [(cd (bd Tryz.f7) [1,1,1])] ⟨[sB 27 x5],[],[],0⟩ (by
     refine eF.aEH (b:=x5) (stf:=fun v6=>⟨[sB 27 v6],[],[],0⟩) (by kernel_rfl) ?_
     refine eF.aEJ 24 (by kernel_rfl) (by kernel_rfl) ?_
     exact eF.pt (id:=2) (
      .call [] (aIT _) fun r7 =>
      .look (default:Int) _ [] (aCF K r7 0 wx) (fun _=>rfl) fun r8 =>
      .aDx [] 2 (rg (cd (bd Tryz.f7) [1,1,0])) ((((rg (cd (bd Tryz.f7) [1,1,0])).toList.set 6 (Oper.free (jP (rg (cd (bd Tryz.f7) [1,1,0])).toList 6))).set 24 (Oper.free (jP ((rg (cd (bd Tryz.f7) [1,1,0])).toList.set 6 (Oper.free (jP (rg (cd (bd Tryz.f7) [1,1,0])).toList 6))) 24))).drop 29) [(cd (bd Tryz.f7) [1,1,1])] ⟨[sB 32 (true && ((r8:Int) == 0))],[],[],0⟩ (by
       refine eF.aEH (b:=(true && ((r8:Int) == 0))) (stf:=fun v9=>⟨[sB 32 v9],[],[],0⟩) (by kernel_rfl) ?_
       refine eF.aEJ 29 (by kernel_rfl) (by kernel_rfl) ?_
       exact eF.pt (id:=2) (
        .call [] (aIT _) fun jL =>
        .look (default:Int) _ [] (aCF K jL 0 ([121]:Bytes)) (fun _=>rfl) fun r11 =>
        .ret [] _)))))))
end Go.Proofs.YtdbfbedholdjaaaGreat
