/- No conditions. -/
import Derived.Test.YtngjamedgphjiaaGreatDoorVb
import Derived.Test.YtngjamedgphjiaaGreatDoorProg
set_option linter.unusedVariables false
set_option linter.unusedSimpArgs false
set_option linter.unusedSectionVars false
namespace Go.Proofs.YtngjamedgphjiaaGreatDoor
open Go Go.Proofs Go.Dl
set_option maxRecDepth 100000
set_option maxHeartbeats 4000000
def pL (K:Nat) (a0:c6) (a1:Int):Option ((pK × Bool) ⊕ (pK × Bool)) :=
 (bO ((decide ((a1:Int)<0)) || (decide ((a1:Int) ≥ (Int.ofNat a0.bP.bE.length)))) (fun (x1:Bool)=>(if x1=true then (some (.inl ((⟨0,([]:Bytes),[],[],[],[]⟩:pK),false))) else (c5 [cR a1 a0.bP.bE.length] (some (.inl ((a0.bP.bE.getD (a1:Int).toNat default),true)))))))
theorem nG (K:Nat) (a0:c6) (a1:Int):cM Tryz.prog 113 [.c (dD.ep a0 0),.c (.val (.int .i64 a1))] [] (cT (pL K a0 a1)) (fun r=>.kE [.agg (cW.cs r.1),.c (.val (.bool r.2))]) (fun r=>[.cells (cW.cs r.1)]):=by
 refine cM.intro (fn:=Tryz.f113) (c:=cd (bd Tryz.f113) []) (rs:=fun r=>⟨[(4,.c (.ptr 0 0 0)),(5,.c (.val (.bool r.2)))],[.cells (cW.cs r.1)],[],0⟩) (by kernel_rfl) (by kernel_rfl) (by kernel_rfl) ?_ (fun r=>by kernel_rfl) (fun r=>by kernel_rfl) (fun r=>by kernel_rfl) (fun r=>by kernel_rfl)
 unfold pL
 refine Ref.bG (cd (bd Tryz.f113) [0]) (cd (bd Tryz.f113) [1]) (by kernel_rfl) ?_
 refine Ref.bD 0 (by kernel_rfl) ?_
 refine bC.bS (bJ:=⟨[(0,.c (dD.ep a0 0)),(1,.c (.val (.int .i64 a1))),(4,.c (.ptr 0 0 0))],[.cells [.val (.int .i64 0),.str ([]:Bytes),.nil,.nil,.nil,.nil]],[],0⟩) 0 2 2 [0,1,4] [0] rfl (by kernel_rfl) ?_
 refine bC.bH 2 (by kernel_rfl) ?_
 refine Ref.bG (cd (bd Tryz.f113) [1,0]) (cd (bd Tryz.f113) [1,1]) (by kernel_rfl) ?_
 refine Ref.bG (cd (bd Tryz.f113) [1,0,0]) (cd (bd Tryz.f113) [1,0,1]) (by kernel_rfl) ?_
 refine Ref.bD 1 (by kernel_rfl) ?_
 refine bC.bS (bJ:=⟨[(0,.c (dD.ep a0 0)),(1,.c (.val (.int .i64 a1))),(4,.c (.ptr 0 0 0)),(17,.c (.val (.bool ((decide ((a1:Int)<0)) || (decide ((a1:Int) ≥ (Int.ofNat a0.bP.bE.length)))))))],[.cells [.val (.int .i64 0),.str ([]:Bytes),.nil,.nil,.nil,.nil]],[],0⟩) 0 12 12 [0,1,4,17] [0] rfl (by kernel_rfl) ?_
 refine bC.c7 (eM:=fun x1=>⟨[(0,.c (dD.ep a0 0)),(1,.c (.val (.int .i64 a1))),(4,.c (.ptr 0 0 0)),(17,.c (.val (.bool x1)))],[.cells [.val (.int .i64 0),.str ([]:Bytes),.nil,.nil,.nil,.nil]],[],0⟩) (by kernel_rfl) (fun x1=>?_)
 refine bC.bH 12 (by kernel_rfl) ?_
 refine Ref.bY (.tmp 17) x1 (by kernel_rfl) rfl (by kernel_rfl) (fun hc=>?_) (fun hc=>?_)
 ·
  refine Ref.bG (cd (bd Tryz.f113) [1,0,1,0,0]) (cd (bd Tryz.f113) [1,0,1,0,1]) (by kernel_rfl) ?_
  refine Ref.bD 2 (by kernel_rfl) ?_
  refine bC.bS (bJ:=⟨[(4,.c (.ptr 0 0 0)),(5,.c (.val (.bool false)))],[.cells [.val (.int .i64 0),.str ([]:Bytes),.nil,.nil,.nil,.nil]],[],0⟩) 0 3 3 [4,5] [0] rfl (by kernel_rfl) ?_
  refine bC.bH 3 (by kernel_rfl) ?_
  refine Ref.conv (Conv.obj 0 (.cells [.val (.int .i64 0),.str ([]:Bytes),E3.tree [],.nil,.nil,.nil]) (kV.cells (cA.cons (cY.refl _) (cA.cons (cY.refl _) (cA.cons (El.eR E3) (cA.cons (cY.refl _) (cA.cons (cY.refl _) (cA.cons (cY.refl _) (cA.nil)))))))) (by kernel_rfl)) ?_
  refine Ref.conv (Conv.obj 0 (.cells [.val (.int .i64 0),.str ([]:Bytes),E3.tree [],E3.tree [],.nil,.nil]) (kV.cells (cA.cons (cY.refl _) (cA.cons (cY.refl _) (cA.cons (cY.refl _) (cA.cons (El.eR E3) (cA.cons (cY.refl _) (cA.cons (cY.refl _) (cA.nil)))))))) (by kernel_rfl)) ?_
  refine Ref.conv (Conv.obj 0 (.cells [.val (.int .i64 0),.str ([]:Bytes),E3.tree [],E3.tree [],E9.tree [],.nil]) (kV.cells (cA.cons (cY.refl _) (cA.cons (cY.refl _) (cA.cons (cY.refl _) (cA.cons (cY.refl _) (cA.cons (El.eR E9) (cA.cons (cY.refl _) (cA.nil)))))))) (by kernel_rfl)) ?_
  refine Ref.conv (Conv.obj 0 (.cells [.val (.int .i64 0),.str ([]:Bytes),E3.tree [],E3.tree [],E9.tree [],iN.tree []]) (kV.cells (cA.cons (cY.refl _) (cA.cons (cY.refl _) (cA.cons (cY.refl _) (cA.cons (cY.refl _) (cA.cons (cY.refl _) (cA.cons (El.eR iN) (cA.nil)))))))) (by kernel_rfl)) ?_
  exact Ref.cP (t:=((⟨0,([]:Bytes),[],[],[],[]⟩:pK),false)) (by kernel_rfl) (by kernel_rfl)
 ·
  refine Ref.bZ (by kernel_rfl) ?_
  refine Ref.bG (cd (bd Tryz.f113) [1,1,0]) (cd (bd Tryz.f113) [1,1,1]) (by kernel_rfl) ?_
  refine Ref.bD 3 (by kernel_rfl) ?_
  refine bC.fS (vs:=[cR a1 a0.bP.bE.length]) (bJ:=⟨[(4,.c (.ptr 0 0 0)),(5,.c (.val (.bool true)))],[.cells (cW.cs (gd a0.bP.bE a1))],[],0⟩) 0 10 10 [4,5] [0] rfl (by kernel_rfl) ?_
  refine bC.bH 10 (by kernel_rfl) ?_
  exact Ref.cP (t:=((gd a0.bP.bE a1),true)) (by kernel_rfl) (by kernel_rfl)
def yL (K:Nat) (a0:c6) (a1:Int) (a2:Int):Option ((Bool) ⊕ (Bool)) :=
 (bO (IntKind.i64.wrap ((Int.ofNat a0.bP.bE.length)+1)) (fun (x1:Int)=>(bL (bI ((iter K (fun (rF:Int × Int)=>(if (decide ((rF.2:Int)<x1))=true then (bL (bI (if ((rF.1:Int) == a2)=true then (some (.inl (Sum.inr (Sum.inr (true))))) else ((cT (pL K a0 rF.1)).bind (fun zH=>(if (!zH.2)=true then (some (.inl (Sum.inr (Sum.inr (false))))) else (some (.inr (zH.1.eX)))))))) (fun (xA:Int)=>(some (.inr (xA,(IntKind.i64.wrap (rF.2+1))))))) else (some (.inl (Sum.inl ()))))) (a1,0)).map .inl)) (fun (u14:Unit)=>(some (.inl (false)))))))
theorem aF9 (K:Nat) (a0:c6) (a1:Int) (a2:Int):cM Tryz.prog 114 [.c (dD.ep a0 0),.c (.val (.int .i64 a1)),.c (.val (.int .i64 a2))] [] (cT (yL K a0 a1 a2)) (fun r=>.c (.val (.bool r))) (fun r=>[]):=by
 refine cM.intro (fn:=Tryz.f114) (c:=cd (bd Tryz.f114) []) (rs:=fun r=>⟨[(6,.c (.val (.bool r)))],[],[],0⟩) (by kernel_rfl) (by kernel_rfl) (by kernel_rfl) ?_ (fun r=>by kernel_rfl) (fun r=>by kernel_rfl) (fun r=>by kernel_rfl) (fun r=>by kernel_rfl)
 unfold yL
 refine Ref.bG (cd (bd Tryz.f114) [0]) (cd (bd Tryz.f114) [1]) (by kernel_rfl) ?_
 refine Ref.bD 0 (by kernel_rfl) ?_
 refine bC.bS (bJ:=⟨[(0,.c (dD.ep a0 0)),(1,.c (.val (.int .i64 a1))),(2,.c (.val (.int .i64 a2)))],[],[],0⟩) 0 1 1 [0,1,2] [] rfl (by kernel_rfl) ?_
 refine bC.bH 1 (by kernel_rfl) ?_
 refine Ref.bG (cd (bd Tryz.f114) [1,0]) (cd (bd Tryz.f114) [1,1]) (by kernel_rfl) ?_
 refine Ref.bG (cd (bd Tryz.f114) [1,0,0]) (cd (bd Tryz.f114) [1,0,1]) (by kernel_rfl) ?_
 refine Ref.bD 1 (by kernel_rfl) ?_
 refine bC.bS (bJ:=⟨[(0,.c (dD.ep a0 0)),(1,.c (.val (.int .i64 a1))),(2,.c (.val (.int .i64 a2))),(15,.c (.val (.int .i64 (IntKind.i64.wrap ((Int.ofNat a0.bP.bE.length)+1))))),(16,.c (.val (.int .i64 0)))],[],[],0⟩) 0 8 8 [0,1,2,15,16] [] rfl (by kernel_rfl) ?_
 refine bC.c7 (eM:=fun x1=>⟨[(0,.c (dD.ep a0 0)),(1,.c (.val (.int .i64 a1))),(2,.c (.val (.int .i64 a2))),(15,.c (.val (.int .i64 x1))),(16,.c (.val (.int .i64 0)))],[],[],0⟩) (by kernel_rfl) (fun x1=>?_)
 refine bC.bH 8 (by kernel_rfl) ?_
 refine Ref.cB (c':=.block 0 (cd (bd Tryz.f114) [1,0,1,0])) (by kernel_rfl) ?_
 refine Ref.block (eU:=fun u14=>⟨[],[],[],0⟩) ?_ (fun _ h=>by cases h) (fun u14=>?_)
 ·
  refine Ref.cB (c':=.loop (cd (bd Tryz.f114) [1,0,1,0,0])) (by kernel_rfl) ?_
  refine Ref.loop (hd:=fun rF=>⟨[(0,.c (dD.ep a0 0)),(1,.c (.val (.int .i64 rF.1))),(2,.c (.val (.int .i64 a2))),(15,.c (.val (.int .i64 x1))),(16,.c (.val (.int .i64 rF.2)))],[],[],0⟩) K (a1,0) (by kernel_rfl) (fun rF=>?_)
  refine Ref.bG (cd (bd Tryz.f114) [1,0,1,0,0,0]) (cd (bd Tryz.f114) [1,0,1,0,0,1]) (by kernel_rfl) ?_
  refine Ref.bD 2 (by kernel_rfl) ?_
  refine bC.bS (bJ:=⟨[(0,.c (dD.ep a0 0)),(1,.c (.val (.int .i64 rF.1))),(2,.c (.val (.int .i64 a2))),(15,.c (.val (.int .i64 x1))),(16,.c (.val (.int .i64 rF.2))),(17,.c (.val (.bool (decide ((rF.2:Int)<x1)))))],[],[],0⟩) 0 1 1 [0,1,2,15,16,17] [] rfl (by kernel_rfl) ?_
  refine bC.bH 1 (by kernel_rfl) ?_
  refine Ref.bG (cd (bd Tryz.f114) [1,0,1,0,0,1,0]) (cd (bd Tryz.f114) [1,0,1,0,0,1,1]) (by kernel_rfl) ?_
  refine Ref.bY (.tmp 17) (decide ((rF.2:Int)<x1)) (by kernel_rfl) rfl (by kernel_rfl) (fun hc=>?_) (fun hc=>?_)
  ·
   refine Ref.bZ (by kernel_rfl) ?_
   refine Ref.bG (cd (bd Tryz.f114) [1,0,1,0,0,1,1,0]) (cd (bd Tryz.f114) [1,0,1,0,0,1,1,1]) (by kernel_rfl) ?_
   refine Ref.cB (c':=.block 1 (cd (bd Tryz.f114) [1,0,1,0,0,1,1,0,0])) (by kernel_rfl) ?_
   refine Ref.block (eU:=fun xA=>⟨[(0,.c (dD.ep a0 0)),(1,.c (.val (.int .i64 xA))),(2,.c (.val (.int .i64 a2))),(15,.c (.val (.int .i64 x1))),(16,.c (.val (.int .i64 rF.2)))],[],[],0⟩) ?_ (fun a=>match a with | .inl _=>(fun h=>by cases h) | .inr _=>(fun h=>by cases h)) (fun xA=>?_)
   ·
    refine Ref.bG (cd (bd Tryz.f114) [1,0,1,0,0,1,1,0,0,0]) (cd (bd Tryz.f114) [1,0,1,0,0,1,1,0,0,1]) (by kernel_rfl) ?_
    refine Ref.bG (cd (bd Tryz.f114) [1,0,1,0,0,1,1,0,0,0,0]) (cd (bd Tryz.f114) [1,0,1,0,0,1,1,0,0,0,1]) (by kernel_rfl) ?_
    refine Ref.bD 3 (by kernel_rfl) ?_
    refine bC.bS (bJ:=⟨[(0,.c (dD.ep a0 0)),(1,.c (.val (.int .i64 rF.1))),(2,.c (.val (.int .i64 a2))),(15,.c (.val (.int .i64 x1))),(16,.c (.val (.int .i64 rF.2))),(20,.c (.val (.bool ((rF.1:Int) == a2))))],[],[],0⟩) 0 3 3 [0,1,2,15,16,20] [] rfl (by kernel_rfl) ?_
    refine bC.bH 3 (by kernel_rfl) ?_
    refine Ref.bY (.tmp 20) ((rF.1:Int) == a2) (by kernel_rfl) rfl (by kernel_rfl) (fun hc=>?_) (fun hc=>?_)
    ·
     refine Ref.bG (cd (bd Tryz.f114) [1,0,1,0,0,1,1,0,0,0,1,0,0]) (cd (bd Tryz.f114) [1,0,1,0,0,1,1,0,0,0,1,0,1]) (by kernel_rfl) ?_
     refine Ref.bD 4 (by kernel_rfl) ?_
     refine bC.bS (bJ:=⟨[(6,.c (.val (.bool true)))],[],[],0⟩) 0 1 1 [6] [] rfl (by kernel_rfl) ?_
     refine bC.bH 1 (by kernel_rfl) ?_
     exact Ref.cP (t:=(Sum.inr (Sum.inr (true)))) (by kernel_rfl) (by kernel_rfl)
    ·
     refine Ref.bZ (by kernel_rfl) ?_
     refine Ref.bG (cd (bd Tryz.f114) [1,0,1,0,0,1,1,0,0,1,0]) (cd (bd Tryz.f114) [1,0,1,0,0,1,1,0,0,1,1]) (by kernel_rfl) ?_
     refine Ref.bD 5 (by kernel_rfl) ?_
     refine bC.bS (bJ:=⟨[(0,.c (dD.ep a0 0)),(2,.c (.val (.int .i64 a2))),(15,.c (.val (.int .i64 x1))),(16,.c (.val (.int .i64 rF.2))),(22,.c (dD.ep a0 0)),(23,.c (.val (.int .i64 rF.1)))],[],[],0⟩) 0 2 2 [0,2,15,16,22,23] [] rfl (by kernel_rfl) ?_
     refine bC.cF (t:=24) 2 3 [] rfl (by kernel_rfl) (nG K a0 rF.1) (fun zH=>?_)
     refine bC.bS (bJ:=⟨[(0,.c (dD.ep a0 0)),(2,.c (.val (.int .i64 a2))),(7,.c (.ptr 0 0 0)),(8,.c (.val (.bool zH.2))),(15,.c (.val (.int .i64 x1))),(16,.c (.val (.int .i64 rF.2)))],[.cells (cW.cs zH.1)],[],0⟩) 3 6 9 [0,2,7,8,15,16] [1] rfl (by kernel_rfl) ?_
     refine bC.bH 9 (by kernel_rfl) ?_
     refine Ref.bG (cd (bd Tryz.f114) [1,0,1,0,0,1,1,0,0,1,1,0]) (cd (bd Tryz.f114) [1,0,1,0,0,1,1,0,0,1,1,1]) (by kernel_rfl) ?_
     refine Ref.bG (cd (bd Tryz.f114) [1,0,1,0,0,1,1,0,0,1,1,0,0]) (cd (bd Tryz.f114) [1,0,1,0,0,1,1,0,0,1,1,0,1]) (by kernel_rfl) ?_
     refine Ref.bD 6 (by kernel_rfl) ?_
     refine bC.bS (bJ:=⟨[(0,.c (dD.ep a0 0)),(2,.c (.val (.int .i64 a2))),(7,.c (.ptr 0 0 0)),(15,.c (.val (.int .i64 x1))),(16,.c (.val (.int .i64 rF.2))),(28,.c (.val (.bool (!zH.2))))],[.cells (cW.cs zH.1)],[],0⟩) 0 2 2 [0,2,7,15,16,28] [0] rfl (by kernel_rfl) ?_
     refine bC.bH 2 (by kernel_rfl) ?_
     refine Ref.bY (.tmp 28) (!zH.2) (by kernel_rfl) rfl (by kernel_rfl) (fun hc=>?_) (fun hc=>?_)
     ·
      refine Ref.bG (cd (bd Tryz.f114) [1,0,1,0,0,1,1,0,0,1,1,0,1,0,0]) (cd (bd Tryz.f114) [1,0,1,0,0,1,1,0,0,1,1,0,1,0,1]) (by kernel_rfl) ?_
      refine Ref.bD 7 (by kernel_rfl) ?_
      refine bC.bS (bJ:=⟨[(6,.c (.val (.bool false)))],[],[],0⟩) 0 1 1 [6] [] rfl (by kernel_rfl) ?_
      refine bC.bH 1 (by kernel_rfl) ?_
      exact Ref.cP (t:=(Sum.inr (Sum.inr (false)))) (by kernel_rfl) (by kernel_rfl)
     ·
      refine Ref.bZ (by kernel_rfl) ?_
      refine Ref.bD 8 (by kernel_rfl) ?_
      refine bC.bS (bJ:=⟨[(0,.c (dD.ep a0 0)),(1,.c (.val (.int .i64 zH.1.eX))),(2,.c (.val (.int .i64 a2))),(15,.c (.val (.int .i64 x1))),(16,.c (.val (.int .i64 rF.2)))],[],[],0⟩) 0 3 3 [0,1,2,15,16] [] rfl (by kernel_rfl) ?_
      refine bC.bH 3 (by kernel_rfl) ?_
      exact Ref.nil (t:=(zH.1.eX)) (by kernel_rfl)
   ·
    refine Ref.bD 9 (by kernel_rfl) ?_
    refine bC.bS (bJ:=⟨[(0,.c (dD.ep a0 0)),(1,.c (.val (.int .i64 xA))),(2,.c (.val (.int .i64 a2))),(15,.c (.val (.int .i64 x1))),(16,.c (.val (.int .i64 (IntKind.i64.wrap (rF.2+1)))))],[],[],0⟩) 0 2 2 [0,1,2,15,16] [] rfl (by kernel_rfl) ?_
    refine bC.bH 2 (by kernel_rfl) ?_
    exact Ref.nil (t:=(xA,(IntKind.i64.wrap (rF.2+1)))) (by kernel_rfl)
  ·
   refine Ref.conv (Conv.keep (bJ:=⟨[],[],[],0⟩) [] [] (by kernel_rfl)) ?_
   exact Ref.dU 0 (t:=(Sum.inl ())) (by kernel_rfl) (by kernel_rfl)
 ·
  refine Ref.bG (cd (bd Tryz.f114) [1,1,0]) (cd (bd Tryz.f114) [1,1,1]) (by kernel_rfl) ?_
  refine Ref.bD 10 (by kernel_rfl) ?_
  refine bC.bS (bJ:=⟨[(6,.c (.val (.bool false)))],[],[],0⟩) 0 1 1 [6] [] rfl (by kernel_rfl) ?_
  refine bC.bH 1 (by kernel_rfl) ?_
  exact Ref.cP (t:=(false)) (by kernel_rfl) (by kernel_rfl)
def aBX (K:Nat) (a0:c6) (a1:jC):Option ((Bytes) ⊕ (Bytes)) :=
 (bL (bI (bL (if ((a1.fK:Int) == 4)=true then (some (.inr (((a1.fK:Int) == 4)))) else (if ((a1.fK:Int) == 5)=true then (some (.inr (((a1.fK:Int) == 5)))) else (if ((a1.fK:Int) == 10)=true then (some (.inr (((a1.fK:Int) == 10)))) else (some (.inr (((a1.fK:Int) == 11))))))) (fun (u4:Bool)=>(if u4=true then (c5 [room (a0.fc.b9.length+a0.fc.cD.length)] (some (.inl (Sum.inr ((a0.fc.b9++a0.fc.cD)))))) else (bL (if ((a1.fK:Int) == 6)=true then (some (.inr (((a1.fK:Int) == 6)))) else (if ((a1.fK:Int) == 7)=true then (some (.inr (((a1.fK:Int) == 7)))) else (if ((a1.fK:Int) == 12)=true then (some (.inr (((a1.fK:Int) == 12)))) else (some (.inr (((a1.fK:Int) == 13))))))) (fun (u5:Bool)=>(if u5=true then (some (.inl (Sum.inr (a0.bP.bM)))) else (some (.inr ()))))))))) (fun (u3:Unit)=>((cT (pL K a0 a0.fc.cC)).bind (fun r6=>(some (.inl (r6.1.gD)))))))
theorem aBr (K:Nat) (a0:c6) (a1:jC):cM Tryz.prog 111 [.c (dD.ep a0 0),.agg (cV.cs a1)] [] (cT (aBX K a0 a1)) (fun r=>.c (.str r)) (fun r=>[]):=by
 refine cM.intro (fn:=Tryz.f111) (c:=cd (bd Tryz.f111) []) (rs:=fun r=>⟨[(4,.c (.str r))],[],[],0⟩) (by kernel_rfl) (by kernel_rfl) (by kernel_rfl) ?_ (fun r=>by kernel_rfl) (fun r=>by kernel_rfl) (fun r=>by kernel_rfl) (fun r=>by kernel_rfl)
 unfold aBX
 refine Ref.bG (cd (bd Tryz.f111) [0]) (cd (bd Tryz.f111) [1]) (by kernel_rfl) ?_
 refine Ref.bD 0 (by kernel_rfl) ?_
 refine bC.bS (bJ:=⟨[(0,.c (dD.ep a0 0)),(3,.c (.ptr 0 0 0))],[.cells (cV.cs a1)],[],0⟩) 0 2 2 [0,3] [0] rfl (by kernel_rfl) ?_
 refine bC.bH 2 (by kernel_rfl) ?_
 refine Ref.bG (cd (bd Tryz.f111) [1,0]) (cd (bd Tryz.f111) [1,1]) (by kernel_rfl) ?_
 refine Ref.bG (cd (bd Tryz.f111) [1,0,0]) (cd (bd Tryz.f111) [1,0,1]) (by kernel_rfl) ?_
 refine Ref.bD 1 (by kernel_rfl) ?_
 refine bC.bS (bJ:=⟨[(0,.c (dD.ep a0 0)),(8,.c (.val (.int .i64 a1.fK)))],[],[],0⟩) 0 2 2 [0,8] [] rfl (by kernel_rfl) ?_
 refine bC.bH 2 (by kernel_rfl) ?_
 refine Ref.cB (c':=.block 0 (cd (bd Tryz.f111) [1,0,1,0])) (by kernel_rfl) ?_
 refine Ref.block (eU:=fun u3=>⟨[(0,.c (dD.ep a0 0))],[],[],0⟩) ?_ (fun _ h=>by cases h) (fun u3=>?_)
 ·
  refine Ref.bG (cd (bd Tryz.f111) [1,0,1,0,0]) (cd (bd Tryz.f111) [1,0,1,0,1]) (by kernel_rfl) ?_
  refine Ref.bG (cd (bd Tryz.f111) [1,0,1,0,0,0]) (cd (bd Tryz.f111) [1,0,1,0,0,1]) (by kernel_rfl) ?_
  refine Ref.bD 2 (by kernel_rfl) ?_
  refine bC.bS (bJ:=⟨[(0,.c (dD.ep a0 0)),(8,.c (.val (.int .i64 a1.fK))),(9,.c (.val (.bool ((a1.fK:Int) == 4))))],[],[],0⟩) 0 2 2 [0,8,9] [] rfl (by kernel_rfl) ?_
  refine bC.bH 2 (by kernel_rfl) ?_
  refine Ref.bind (eU:=fun u4=>⟨[(0,.c (dD.ep a0 0)),(8,.c (.val (.int .i64 a1.fK))),(9,.c (.val (.bool u4)))],[],[],0⟩) ?_ (fun u4=>?_)
  ·
   refine Ref.bY (.tmp 9) ((a1.fK:Int) == 4) (by kernel_rfl) rfl (by kernel_rfl) (fun hc=>?_) (fun hc=>?_)
   ·
    refine Ref.bZ (by kernel_rfl) ?_
    exact Ref.nil (t:=(((a1.fK:Int) == 4))) (by kernel_rfl)
   ·
    refine Ref.bG (cd (bd Tryz.f111) [1,0,1,0,0,1,1,0]) (cd (bd Tryz.f111) [1,0,1,0,0,1,1,1]) (by kernel_rfl) ?_
    refine Ref.bD 3 (by kernel_rfl) ?_
    refine bC.bS (bJ:=⟨[(0,.c (dD.ep a0 0)),(8,.c (.val (.int .i64 a1.fK))),(9,.c (.val (.bool ((a1.fK:Int) == 5))))],[],[],0⟩) 0 2 2 [0,8,9] [] rfl (by kernel_rfl) ?_
    refine bC.bH 2 (by kernel_rfl) ?_
    refine Ref.bY (.tmp 9) ((a1.fK:Int) == 5) (by kernel_rfl) rfl (by kernel_rfl) (fun hc=>?_) (fun hc=>?_)
    ·
     refine Ref.bZ (by kernel_rfl) ?_
     exact Ref.nil (t:=(((a1.fK:Int) == 5))) (by kernel_rfl)
    ·
     refine Ref.bG (cd (bd Tryz.f111) [1,0,1,0,0,1,1,1,1,0]) (cd (bd Tryz.f111) [1,0,1,0,0,1,1,1,1,1]) (by kernel_rfl) ?_
     refine Ref.bD 4 (by kernel_rfl) ?_
     refine bC.bS (bJ:=⟨[(0,.c (dD.ep a0 0)),(8,.c (.val (.int .i64 a1.fK))),(9,.c (.val (.bool ((a1.fK:Int) == 10))))],[],[],0⟩) 0 2 2 [0,8,9] [] rfl (by kernel_rfl) ?_
     refine bC.bH 2 (by kernel_rfl) ?_
     refine Ref.bY (.tmp 9) ((a1.fK:Int) == 10) (by kernel_rfl) rfl (by kernel_rfl) (fun hc=>?_) (fun hc=>?_)
     ·
      refine Ref.bZ (by kernel_rfl) ?_
      exact Ref.nil (t:=(((a1.fK:Int) == 10))) (by kernel_rfl)
     ·
      refine Ref.bD 5 (by kernel_rfl) ?_
      refine bC.bS (bJ:=⟨[(0,.c (dD.ep a0 0)),(8,.c (.val (.int .i64 a1.fK))),(9,.c (.val (.bool ((a1.fK:Int) == 11))))],[],[],0⟩) 0 2 2 [0,8,9] [] rfl (by kernel_rfl) ?_
      refine bC.bH 2 (by kernel_rfl) ?_
      exact Ref.nil (t:=(((a1.fK:Int) == 11))) (by kernel_rfl)
  ·
   refine Ref.bY (.tmp 9) u4 (by kernel_rfl) rfl (by kernel_rfl) (fun hc=>?_) (fun hc=>?_)
   ·
    refine Ref.bG (cd (bd Tryz.f111) [1,0,1,0,1,0,0]) (cd (bd Tryz.f111) [1,0,1,0,1,0,1]) (by kernel_rfl) ?_
    refine Ref.eS 6 (by kernel_rfl) (by kernel_rfl) ?_
    refine eD.eT (bJ:=⟨[(17,.c (dD.ep a0 13)),(22,.c (dD.ep a0 14))],[],[],0⟩) (fuel':=4) [0,1,2,3,5,6,7,8] [17,22] [] rfl (by kernel_rfl) (by kernel_rfl) ?_
    refine eD.nN [] ?_
    refine cI.fS (vs:=[room (a0.fc.b9.length+a0.fc.cD.length)]) (bJ:=⟨[(4,.c (.str (a0.fc.b9++a0.fc.cD)))],[],[],0⟩) (fuel':=0) [4,9,10,11] [4] [] rfl (by kernel_rfl) (by kernel_rfl) ?_
    refine cI.done (by kernel_rfl) ?_
    exact Ref.cP (t:=(Sum.inr ((a0.fc.b9++a0.fc.cD)))) (by kernel_rfl) (by kernel_rfl)
   ·
    refine Ref.bG (cd (bd Tryz.f111) [1,0,1,0,1,1,0]) (cd (bd Tryz.f111) [1,0,1,0,1,1,1]) (by kernel_rfl) ?_
    refine Ref.bG (cd (bd Tryz.f111) [1,0,1,0,1,1,0,0]) (cd (bd Tryz.f111) [1,0,1,0,1,1,0,1]) (by kernel_rfl) ?_
    refine Ref.bD 7 (by kernel_rfl) ?_
    refine bC.bS (bJ:=⟨[(0,.c (dD.ep a0 0)),(8,.c (.val (.int .i64 a1.fK))),(25,.c (.val (.bool ((a1.fK:Int) == 6))))],[],[],0⟩) 0 2 2 [0,8,25] [] rfl (by kernel_rfl) ?_
    refine bC.bH 2 (by kernel_rfl) ?_
    refine Ref.bind (eU:=fun u5=>⟨[(0,.c (dD.ep a0 0)),(25,.c (.val (.bool u5)))],[],[],0⟩) ?_ (fun u5=>?_)
    ·
     refine Ref.bY (.tmp 25) ((a1.fK:Int) == 6) (by kernel_rfl) rfl (by kernel_rfl) (fun hc=>?_) (fun hc=>?_)
     ·
      refine Ref.bZ (by kernel_rfl) ?_
      refine Ref.conv (Conv.keep (bJ:=⟨[(0,.c (dD.ep a0 0)),(25,.c (.val (.bool ((a1.fK:Int) == 6))))],[],[],0⟩) [0,25] [] (by kernel_rfl)) ?_
      exact Ref.nil (t:=(((a1.fK:Int) == 6))) (by kernel_rfl)
     ·
      refine Ref.bG (cd (bd Tryz.f111) [1,0,1,0,1,1,0,1,1,0]) (cd (bd Tryz.f111) [1,0,1,0,1,1,0,1,1,1]) (by kernel_rfl) ?_
      refine Ref.bD 8 (by kernel_rfl) ?_
      refine bC.bS (bJ:=⟨[(0,.c (dD.ep a0 0)),(8,.c (.val (.int .i64 a1.fK))),(25,.c (.val (.bool ((a1.fK:Int) == 7))))],[],[],0⟩) 0 2 2 [0,8,25] [] rfl (by kernel_rfl) ?_
      refine bC.bH 2 (by kernel_rfl) ?_
      refine Ref.bY (.tmp 25) ((a1.fK:Int) == 7) (by kernel_rfl) rfl (by kernel_rfl) (fun hc=>?_) (fun hc=>?_)
      ·
       refine Ref.bZ (by kernel_rfl) ?_
       refine Ref.conv (Conv.keep (bJ:=⟨[(0,.c (dD.ep a0 0)),(25,.c (.val (.bool ((a1.fK:Int) == 7))))],[],[],0⟩) [0,25] [] (by kernel_rfl)) ?_
       exact Ref.nil (t:=(((a1.fK:Int) == 7))) (by kernel_rfl)
      ·
       refine Ref.bG (cd (bd Tryz.f111) [1,0,1,0,1,1,0,1,1,1,1,0]) (cd (bd Tryz.f111) [1,0,1,0,1,1,0,1,1,1,1,1]) (by kernel_rfl) ?_
       refine Ref.bD 9 (by kernel_rfl) ?_
       refine bC.bS (bJ:=⟨[(0,.c (dD.ep a0 0)),(8,.c (.val (.int .i64 a1.fK))),(25,.c (.val (.bool ((a1.fK:Int) == 12))))],[],[],0⟩) 0 2 2 [0,8,25] [] rfl (by kernel_rfl) ?_
       refine bC.bH 2 (by kernel_rfl) ?_
       refine Ref.bY (.tmp 25) ((a1.fK:Int) == 12) (by kernel_rfl) rfl (by kernel_rfl) (fun hc=>?_) (fun hc=>?_)
       ·
        refine Ref.bZ (by kernel_rfl) ?_
        refine Ref.conv (Conv.keep (bJ:=⟨[(0,.c (dD.ep a0 0)),(25,.c (.val (.bool ((a1.fK:Int) == 12))))],[],[],0⟩) [0,25] [] (by kernel_rfl)) ?_
        exact Ref.nil (t:=(((a1.fK:Int) == 12))) (by kernel_rfl)
       ·
        refine Ref.bD 10 (by kernel_rfl) ?_
        refine bC.bS (bJ:=⟨[(0,.c (dD.ep a0 0)),(25,.c (.val (.bool ((a1.fK:Int) == 13))))],[],[],0⟩) 0 2 2 [0,25] [] rfl (by kernel_rfl) ?_
        refine bC.bH 2 (by kernel_rfl) ?_
        exact Ref.nil (t:=(((a1.fK:Int) == 13))) (by kernel_rfl)
    ·
     refine Ref.bY (.tmp 25) u5 (by kernel_rfl) rfl (by kernel_rfl) (fun hc=>?_) (fun hc=>?_)
     ·
      refine Ref.bG (cd (bd Tryz.f111) [1,0,1,0,1,1,1,0,0]) (cd (bd Tryz.f111) [1,0,1,0,1,1,1,0,1]) (by kernel_rfl) ?_
      refine Ref.bD 11 (by kernel_rfl) ?_
      refine bC.bS (bJ:=⟨[(4,.c (.str a0.bP.bM))],[],[],0⟩) 0 6 6 [4] [] rfl (by kernel_rfl) ?_
      refine bC.bH 6 (by kernel_rfl) ?_
      exact Ref.cP (t:=(Sum.inr (a0.bP.bM))) (by kernel_rfl) (by kernel_rfl)
     ·
      refine Ref.bZ (by kernel_rfl) ?_
      refine Ref.conv (Conv.keep (bJ:=⟨[(0,.c (dD.ep a0 0))],[],[],0⟩) [0] [] (by kernel_rfl)) ?_
      exact Ref.nil (t:=()) (by kernel_rfl)
 ·
  refine Ref.bG (cd (bd Tryz.f111) [1,1,0]) (cd (bd Tryz.f111) [1,1,1]) (by kernel_rfl) ?_
  refine Ref.bD 12 (by kernel_rfl) ?_
  refine bC.bS (bJ:=⟨[(36,.c (dD.ep a0 0)),(41,.c (.val (.int .i64 a0.fc.cC)))],[],[],0⟩) 0 6 6 [36,41] [] rfl (by kernel_rfl) ?_
  refine bC.cF (t:=42) 6 7 [] rfl (by kernel_rfl) (nG K a0 a0.fc.cC) (fun r6=>?_)
  refine bC.bS (bJ:=⟨[(5,.c (.ptr 0 0 0))],[.cells (cW.cs r6.1)],[],0⟩) 7 6 13 [5] [1] rfl (by kernel_rfl) ?_
  refine bC.bH 13 (by kernel_rfl) ?_
  refine Ref.bG (cd (bd Tryz.f111) [1,1,1,0]) (cd (bd Tryz.f111) [1,1,1,1]) (by kernel_rfl) ?_
  refine Ref.bD 13 (by kernel_rfl) ?_
  refine bC.bS (bJ:=⟨[(4,.c (.str r6.1.gD))],[],[],0⟩) 0 3 3 [4] [] rfl (by kernel_rfl) ?_
  refine bC.bH 3 (by kernel_rfl) ?_
  exact Ref.cP (t:=(r6.1.gD)) (by kernel_rfl) (by kernel_rfl)
def aDl (K:Nat) (a0:Bool):Option ((Bytes) ⊕ (Bytes)) :=
 (if a0=true then (some (.inl (([105]:Bytes)))) else (some (.inl (([]:Bytes)))))
theorem aGa (K:Nat) (a0:Bool):cM Tryz.prog 130 [.c (.val (.bool a0))] [] (cT (aDl K a0)) (fun r=>.c (.str r)) (fun r=>[]):=by
 refine cM.intro (fn:=Tryz.f130) (c:=cd (bd Tryz.f130) []) (rs:=fun r=>⟨[(2,.c (.str r))],[],[],0⟩) (by kernel_rfl) (by kernel_rfl) (by kernel_rfl) ?_ (fun r=>by kernel_rfl) (fun r=>by kernel_rfl) (fun r=>by kernel_rfl) (fun r=>by kernel_rfl)
 unfold aDl
 refine Ref.bG (cd (bd Tryz.f130) [0]) (cd (bd Tryz.f130) [1]) (by kernel_rfl) ?_
 refine Ref.bD 0 (by kernel_rfl) ?_
 refine bC.bS (bJ:=⟨[(0,.c (.val (.bool a0)))],[],[],0⟩) 0 1 1 [0] [] rfl (by kernel_rfl) ?_
 refine bC.bH 1 (by kernel_rfl) ?_
 refine Ref.bG (cd (bd Tryz.f130) [1,0]) (cd (bd Tryz.f130) [1,1]) (by kernel_rfl) ?_
 refine Ref.bG (cd (bd Tryz.f130) [1,0,0]) (cd (bd Tryz.f130) [1,0,1]) (by kernel_rfl) ?_
 refine Ref.bD 1 (by kernel_rfl) ?_
 refine bC.bS (bJ:=⟨[(3,.c (.val (.bool a0)))],[],[],0⟩) 0 1 1 [3] [] rfl (by kernel_rfl) ?_
 refine bC.bH 1 (by kernel_rfl) ?_
 refine Ref.bY (.tmp 3) a0 (by kernel_rfl) rfl (by kernel_rfl) (fun hc=>?_) (fun hc=>?_)
 ·
  refine Ref.bG (cd (bd Tryz.f130) [1,0,1,0,0]) (cd (bd Tryz.f130) [1,0,1,0,1]) (by kernel_rfl) ?_
  refine Ref.bD 2 (by kernel_rfl) ?_
  refine bC.bS (bJ:=⟨[(2,.c (.str ([105]:Bytes)))],[],[],0⟩) 0 1 1 [2] [] rfl (by kernel_rfl) ?_
  refine bC.bH 1 (by kernel_rfl) ?_
  exact Ref.cP (t:=(([105]:Bytes))) (by kernel_rfl) (by kernel_rfl)
 ·
  refine Ref.bZ (by kernel_rfl) ?_
  refine Ref.bG (cd (bd Tryz.f130) [1,1,0]) (cd (bd Tryz.f130) [1,1,1]) (by kernel_rfl) ?_
  refine Ref.bD 3 (by kernel_rfl) ?_
  refine bC.bS (bJ:=⟨[(2,.c (.str ([]:Bytes)))],[],[],0⟩) 0 1 1 [2] [] rfl (by kernel_rfl) ?_
  refine bC.bH 1 (by kernel_rfl) ?_
  exact Ref.cP (t:=(([]:Bytes))) (by kernel_rfl) (by kernel_rfl)
def wR (K:Nat) (a0:(List Bytes)) (a1:Int) (a2:Bytes):Option ((Bytes × Bytes × Bool) ⊕ (Bytes × Bytes × Bool)) :=
 (bO (decide ((a1:Int) ≥ (Int.ofNat a0.length))) (fun (x1:Bool)=>(if x1=true then (some (.inl (([]:Bytes),([]:Bytes),false))) else (c5 [cR a1 a0.length] ((cT (F56 K (a0.getD (a1:Int).toNat default))).bind (fun r2=>(c5 [room (a2.length+r2.1.length)] ((cT (aDl K r2.2.1)).bind (fun r3=>(some (.inl ((a2++r2.1),r3,r2.2.2))))))))))))
theorem rX (K:Nat) (a0:(List Bytes)) (a1:Int) (a2:Bytes):cM Tryz.prog 115 [.c (E9.tree a0),.c (.val (.int .i64 a1)),.c (.str a2)] [] (cT (wR K a0 a1 a2)) (fun r=>.kE [.c (.str r.1),.c (.str r.2.1),.c (.val (.bool r.2.2))]) (fun r=>[]):=by
 refine cM.intro (fn:=Tryz.f115) (c:=cd (bd Tryz.f115) []) (rs:=fun r=>⟨[(6,.c (.str r.1)),(7,.c (.str r.2.1)),(8,.c (.val (.bool r.2.2)))],[],[],0⟩) (by kernel_rfl) (by kernel_rfl) (by kernel_rfl) ?_ (fun r=>by kernel_rfl) (fun r=>by kernel_rfl) (fun r=>by kernel_rfl) (fun r=>by kernel_rfl)
 unfold wR
 refine Ref.bG (cd (bd Tryz.f115) [0]) (cd (bd Tryz.f115) [1]) (by kernel_rfl) ?_
 refine Ref.bD 0 (by kernel_rfl) ?_
 refine bC.bS (bJ:=⟨[(0,.c (E9.tree a0)),(1,.c (.val (.int .i64 a1))),(2,.c (.str a2))],[],[],0⟩) 0 3 3 [0,1,2] [] rfl (by kernel_rfl) ?_
 refine bC.bH 3 (by kernel_rfl) ?_
 refine Ref.bG (cd (bd Tryz.f115) [1,0]) (cd (bd Tryz.f115) [1,1]) (by kernel_rfl) ?_
 refine Ref.bG (cd (bd Tryz.f115) [1,0,0]) (cd (bd Tryz.f115) [1,0,1]) (by kernel_rfl) ?_
 refine Ref.bD 1 (by kernel_rfl) ?_
 refine bC.bS (bJ:=⟨[(0,.c (E9.tree a0)),(1,.c (.val (.int .i64 a1))),(2,.c (.str a2)),(15,.c (.val (.bool (decide ((a1:Int) ≥ (Int.ofNat a0.length))))))],[],[],0⟩) 0 4 4 [0,1,2,15] [] rfl (by kernel_rfl) ?_
 refine bC.c7 (eM:=fun x1=>⟨[(0,.c (E9.tree a0)),(1,.c (.val (.int .i64 a1))),(2,.c (.str a2)),(15,.c (.val (.bool x1)))],[],[],0⟩) (by kernel_rfl) (fun x1=>?_)
 refine bC.bH 4 (by kernel_rfl) ?_
 refine Ref.bY (.tmp 15) x1 (by kernel_rfl) rfl (by kernel_rfl) (fun hc=>?_) (fun hc=>?_)
 ·
  refine Ref.bG (cd (bd Tryz.f115) [1,0,1,0,0]) (cd (bd Tryz.f115) [1,0,1,0,1]) (by kernel_rfl) ?_
  refine Ref.bD 2 (by kernel_rfl) ?_
  refine bC.bS (bJ:=⟨[(6,.c (.str ([]:Bytes))),(7,.c (.str ([]:Bytes))),(8,.c (.val (.bool false)))],[],[],0⟩) 0 3 3 [6,7,8] [] rfl (by kernel_rfl) ?_
  refine bC.bH 3 (by kernel_rfl) ?_
  exact Ref.cP (t:=(([]:Bytes),([]:Bytes),false)) (by kernel_rfl) (by kernel_rfl)
 ·
  refine Ref.bZ (by kernel_rfl) ?_
  refine Ref.bG (cd (bd Tryz.f115) [1,1,0]) (cd (bd Tryz.f115) [1,1,1]) (by kernel_rfl) ?_
  refine Ref.bD 3 (by kernel_rfl) ?_
  refine bC.fS (vs:=[cR a1 a0.length]) (bJ:=⟨[(2,.c (.str a2)),(20,.c (.str (gd a0 a1)))],[],[],0⟩) 0 4 4 [2,20] [] rfl (by kernel_rfl) ?_
  refine bC.cF (t:=21) 4 5 [] rfl (by kernel_rfl) (aDW K (gd a0 a1)) (fun r2=>?_)
  refine bC.bS (bJ:=⟨[(2,.c (.str a2)),(9,.c (.str r2.1)),(10,.c (.val (.bool r2.2.1))),(11,.c (.val (.bool r2.2.2)))],[],[],0⟩) 5 7 12 [2,9,10,11] [] rfl (by kernel_rfl) ?_
  refine bC.bH 12 (by kernel_rfl) ?_
  refine Ref.bG (cd (bd Tryz.f115) [1,1,1,0]) (cd (bd Tryz.f115) [1,1,1,1]) (by kernel_rfl) ?_
  refine Ref.bD 4 (by kernel_rfl) ?_
  refine bC.fS (vs:=[room (a2.length+r2.1.length)]) (bJ:=⟨[(11,.c (.val (.bool r2.2.2))),(27,.c (.str (a2++r2.1))),(28,.c (.val (.bool r2.2.1)))],[],[],0⟩) 0 4 4 [11,27,28] [] rfl (by kernel_rfl) ?_
  refine bC.cF (t:=29) 4 5 [] rfl (by kernel_rfl) (aGa K r2.2.1) (fun r3=>?_)
  refine bC.bS (bJ:=⟨[(6,.c (.str (a2++r2.1))),(7,.c (.str r3)),(8,.c (.val (.bool r2.2.2)))],[],[],0⟩) 5 4 9 [6,7,8] [] rfl (by kernel_rfl) ?_
  refine bC.bH 9 (by kernel_rfl) ?_
  exact Ref.cP (t:=((a2++r2.1),r3,r2.2.2)) (by kernel_rfl) (by kernel_rfl)
def yN (K:Nat) (a0:c6) (a1:jC):Option ((Bytes × Bytes × Bool) ⊕ (Bytes × Bytes × Bool)) :=
 (bL (bI (if ((a1.fK:Int) == 23)=true then (bO (decide ((a1.fA:Int) ≥ (Int.ofNat a0.bP.bB.length))) (fun (x16:Bool)=>(if x16=true then (some (.inl (Sum.inr (([]:Bytes),([]:Bytes),false)))) else (c5 [cR a1.fA a0.bP.bB.length] (bO ((a0.bP.bB.getD (a1.fA:Int).toNat default).cC) (fun (wZ:Int)=>((cT (pL K a0 wZ)).bind (fun mW=>((cT (pL K a0 a0.fc.cC)).bind (fun r20=>((eF (!((!mW.2) || (!r20.2))) (cT (yL K a0 a0.fc.cC ((a0.bP.bB.getD (a1.fA:Int).toNat default).cC))) default).bind (fun pS=>(if (((!mW.2) || (!r20.2)) || (!pS))=true then (some (.inl (Sum.inr (([]:Bytes),([]:Bytes),false)))) else (bO ((a0.bP.bB.getD (a1.fA:Int).toNat default).b9) (fun (x22:Bytes)=>(bO ((a0.bP.bB.getD (a1.fA:Int).toNat default).dK) (fun (x23:Bool)=>((cT (F59 K x22 x23)).bind (fun r24=>((eF true (cT (wR K [r24] 0 ([]:Bytes))) default).bind (fun w4=>(some (.inl (Sum.inr (w4.1,w4.2.1,w4.2.2))))))))))))))))))))))))) else (if ((a1.fK:Int) == 24)=true then ((cT (pL K a0 a0.fc.cC)).bind (fun zH=>((cT (wR K zH.1.eQ a1.fA ([]:Bytes))).bind (fun r27=>(some (.inl (Sum.inr (r27.1,r27.2.1,r27.2.2)))))))) else (if ((a1.fK:Int) == 25)=true then ((cT (pL K a0 a1.fB)).bind (fun oO=>((cT (wR K oO.1.eQ a1.fA ([114]:Bytes))).bind (fun gO=>(some (.inl (Sum.inr (gO.1,gO.2.1,gO.2.2)))))))) else (some (.inr ())))))) (fun (kC:Unit)=>(bO (decide ((a1.fA:Int) ≥ (Int.ofNat a0.bP.bR.length))) (fun (x30:Bool)=>(if x30=true then (some (.inl (([]:Bytes),([]:Bytes),false))) else (c5 [cR a1.fA a0.bP.bR.length] (bO (a0.bP.bR.getD (a1.fA:Int).toNat default) (fun (pP:(List Bytes))=>((eF true (cT (wR K pP a1.fB ([114]:Bytes))) default).bind (fun r32=>(some (.inl (r32.1,r32.2.1,r32.2.2)))))))))))))
theorem aGc (K:Nat) (a0:c6) (a1:jC):cM Tryz.prog 100 [.c (dD.ep a0 0),.agg (cV.cs a1)] [] (cT (yN K a0 a1)) (fun r=>.kE [.c (.str r.1),.c (.str r.2.1),.c (.val (.bool r.2.2))]) (fun r=>[]):=by
 refine cM.intro (fn:=Tryz.f100) (c:=cd (bd Tryz.f100) []) (rs:=fun r=>⟨[(4,.c (.str r.1)),(5,.c (.str r.2.1)),(6,.c (.val (.bool r.2.2)))],[],[],0⟩) (by kernel_rfl) (by kernel_rfl) (by kernel_rfl) ?_ (fun r=>by kernel_rfl) (fun r=>by kernel_rfl) (fun r=>by kernel_rfl) (fun r=>by kernel_rfl)
 unfold yN
 refine Ref.bG (cd (bd Tryz.f100) [0]) (cd (bd Tryz.f100) [1]) (by kernel_rfl) ?_
 refine Ref.bD 0 (by kernel_rfl) ?_
 refine bC.bS (bJ:=⟨[(0,.c (dD.ep a0 0)),(3,.c (.ptr 0 0 0))],[.cells (cV.cs a1)],[],0⟩) 0 4 4 [0,3] [0] rfl (by kernel_rfl) ?_
 refine bC.bH 4 (by kernel_rfl) ?_
 refine Ref.bG (cd (bd Tryz.f100) [1,0]) (cd (bd Tryz.f100) [1,1]) (by kernel_rfl) ?_
 refine Ref.bG (cd (bd Tryz.f100) [1,0,0]) (cd (bd Tryz.f100) [1,0,1]) (by kernel_rfl) ?_
 refine Ref.bD 1 (by kernel_rfl) ?_
 refine bC.bS (bJ:=⟨[(0,.c (dD.ep a0 0)),(3,.c (.ptr 0 0 0)),(17,.c (.val (.int .i64 a1.fK)))],[.cells (cV.cs a1)],[],0⟩) 0 2 2 [0,3,17] [0] rfl (by kernel_rfl) ?_
 refine bC.bH 2 (by kernel_rfl) ?_
 refine Ref.cB (c':=.block 0 (cd (bd Tryz.f100) [1,0,1,0])) (by kernel_rfl) ?_
 refine Ref.block (eU:=fun kC=>⟨[(0,.c (dD.ep a0 0)),(3,.c (.ptr 0 0 0))],[.cells (cV.cs a1)],[],0⟩) ?_ (fun _ h=>by cases h) (fun kC=>?_)
 ·
  refine Ref.bG (cd (bd Tryz.f100) [1,0,1,0,0]) (cd (bd Tryz.f100) [1,0,1,0,1]) (by kernel_rfl) ?_
  refine Ref.bD 2 (by kernel_rfl) ?_
  refine bC.bS (bJ:=⟨[(0,.c (dD.ep a0 0)),(3,.c (.ptr 0 0 0)),(17,.c (.val (.int .i64 a1.fK))),(18,.c (.val (.bool ((a1.fK:Int) == 23))))],[.cells (cV.cs a1)],[],0⟩) 0 2 2 [0,3,17,18] [0] rfl (by kernel_rfl) ?_
  refine bC.bH 2 (by kernel_rfl) ?_
  refine Ref.bY (.tmp 18) ((a1.fK:Int) == 23) (by kernel_rfl) rfl (by kernel_rfl) (fun hc=>?_) (fun hc=>?_)
  ·
   refine Ref.bG (cd (bd Tryz.f100) [1,0,1,0,1,0,0]) (cd (bd Tryz.f100) [1,0,1,0,1,0,1]) (by kernel_rfl) ?_
   refine Ref.bG (cd (bd Tryz.f100) [1,0,1,0,1,0,0,0]) (cd (bd Tryz.f100) [1,0,1,0,1,0,0,1]) (by kernel_rfl) ?_
   refine Ref.eS 3 (by kernel_rfl) (by kernel_rfl) ?_
   refine eD.eT (bJ:=⟨[(0,.c (dD.ep a0 0)),(3,.c (.ptr 0 0 0)),(20,.c (.ptr 0 0 1)),(25,.c (dD.ep a0 2))],[.cells (cV.cs a1)],[],0⟩) (fuel':=4) [0,2,3,4,5] [0,3,20,25] [0] rfl (by kernel_rfl) (by kernel_rfl) ?_
   refine eD.nN [] ?_
   refine cI.eT (bJ:=⟨[(0,.c (dD.ep a0 0)),(3,.c (.ptr 0 0 0)),(28,.c (.val (.bool (decide ((a1.fA:Int) ≥ (Int.ofNat a0.bP.bB.length))))))],[.cells (cV.cs a1)],[],0⟩) (fuel':=0) [1,6,7,8] [0,3,28] [0] rfl (by kernel_rfl) (by kernel_rfl) ?_
   refine cI.c7 (eM:=fun x16=>⟨[(0,.c (dD.ep a0 0)),(3,.c (.ptr 0 0 0)),(28,.c (.val (.bool x16)))],[.cells (cV.cs a1)],[],0⟩) (by kernel_rfl) (fun x16=>?_)
   refine cI.done (by kernel_rfl) ?_
   refine Ref.bY (.tmp 28) x16 (by kernel_rfl) rfl (by kernel_rfl) (fun hc=>?_) (fun hc=>?_)
   ·
    refine Ref.bG (cd (bd Tryz.f100) [1,0,1,0,1,0,0,1,0,0]) (cd (bd Tryz.f100) [1,0,1,0,1,0,0,1,0,1]) (by kernel_rfl) ?_
    refine Ref.bD 4 (by kernel_rfl) ?_
    refine bC.bS (bJ:=⟨[(4,.c (.str ([]:Bytes))),(5,.c (.str ([]:Bytes))),(6,.c (.val (.bool false)))],[],[],0⟩) 0 3 3 [4,5,6] [] rfl (by kernel_rfl) ?_
    refine bC.bH 3 (by kernel_rfl) ?_
    exact Ref.cP (t:=(Sum.inr (([]:Bytes),([]:Bytes),false))) (by kernel_rfl) (by kernel_rfl)
   ·
    refine Ref.bZ (by kernel_rfl) ?_
    refine Ref.bG (cd (bd Tryz.f100) [1,0,1,0,1,0,1,0]) (cd (bd Tryz.f100) [1,0,1,0,1,0,1,1]) (by kernel_rfl) ?_
    refine Ref.eS 5 (by kernel_rfl) (by kernel_rfl) ?_
    refine eD.eT (bJ:=⟨[(0,.c (dD.ep a0 0)),(32,.c (dD.ep a0 2)),(34,.c (.ptr 0 0 1))],[.cells (cV.cs a1)],[],0⟩) (fuel':=6) [0,1,2,3,5] [0,32,34] [0] rfl (by kernel_rfl) (by kernel_rfl) ?_
    refine eD.nN [10] ?_
    refine cI.wE (⟨[(0,.c (dD.ep a0 0)),(7,.c (.ptr 0 0 0))],[.cells (dA.cs (gd a0.bP.bB a1.fA))],[],0⟩) ((bO ((gd a0.bP.bB a1.fA).cC) (fun (wZ:Int)=>((cT (pL K a0 wZ)).bind (fun mW=>((cT (pL K a0 a0.fc.cC)).bind (fun r20=>((eF (!((!mW.2) || (!r20.2))) (cT (yL K a0 a0.fc.cC ((gd a0.bP.bB a1.fA).cC))) default).bind (fun pS=>(if (((!mW.2) || (!r20.2)) || (!pS))=true then (some (.inl (Sum.inr (([]:Bytes),([]:Bytes),false)))) else (bO ((gd a0.bP.bB a1.fA).b9) (fun (x22:Bytes)=>(bO ((gd a0.bP.bB a1.fA).dK) (fun (x23:Bool)=>((cT (F59 K x22 x23)).bind (fun r24=>((eF true (cT (wR K [r24] 0 ([]:Bytes))) default).bind (fun w4=>(some (.inl (Sum.inr (w4.1,w4.2.1,w4.2.2)))))))))))))))))))))) ?_ (fun hk=>?_)
    ·
     refine Ref.bG (cd (bd Tryz.f100) [1,0,1,0,1,0,1,1,0]) (cd (bd Tryz.f100) [1,0,1,0,1,0,1,1,1]) (by kernel_rfl) ?_
     refine Ref.bD 6 (by kernel_rfl) ?_
     refine bC.bS (bJ:=⟨[(0,.c (dD.ep a0 0)),(7,.c (.ptr 0 0 0)),(39,.c (dD.ep a0 0)),(41,.c (.val (.int .i64 ((gd a0.bP.bB a1.fA).cC))))],[.cells (dA.cs (gd a0.bP.bB a1.fA))],[],0⟩) 0 3 3 [0,7,39,41] [0] rfl (by kernel_rfl) ?_
     refine bC.c7 (eM:=fun wZ=>⟨[(0,.c (dD.ep a0 0)),(7,.c (.ptr 0 0 0)),(39,.c (dD.ep a0 0)),(41,.c (.val (.int .i64 wZ)))],[.cells (dA.cs (gd a0.bP.bB a1.fA))],[],0⟩) (by kernel_rfl) (fun wZ=>?_)
     refine bC.cF (t:=42) 3 4 [] rfl (by kernel_rfl) (nG K a0 wZ) (fun mW=>?_)
     refine bC.bS (bJ:=⟨[(0,.c (dD.ep a0 0)),(7,.c (.ptr 0 0 0)),(9,.c (.val (.bool mW.2)))],[.cells (dA.cs (gd a0.bP.bB a1.fA))],[],0⟩) 4 6 10 [0,7,9] [0] rfl (by kernel_rfl) ?_
     refine bC.bH 10 (by kernel_rfl) ?_
     refine Ref.bG (cd (bd Tryz.f100) [1,0,1,0,1,0,1,1,1,0]) (cd (bd Tryz.f100) [1,0,1,0,1,0,1,1,1,1]) (by kernel_rfl) ?_
     refine Ref.bD 7 (by kernel_rfl) ?_
     refine bC.bS (bJ:=⟨[(0,.c (dD.ep a0 0)),(7,.c (.ptr 0 0 0)),(9,.c (.val (.bool mW.2))),(46,.c (dD.ep a0 0)),(51,.c (.val (.int .i64 a0.fc.cC)))],[.cells (dA.cs (gd a0.bP.bB a1.fA))],[],0⟩) 0 6 6 [0,7,9,46,51] [0] rfl (by kernel_rfl) ?_
     refine bC.cF (t:=52) 6 7 [] rfl (by kernel_rfl) (nG K a0 a0.fc.cC) (fun r20=>?_)
     refine bC.bS (bJ:=⟨[(0,.c (dD.ep a0 0)),(7,.c (.ptr 0 0 0)),(9,.c (.val (.bool mW.2))),(11,.c (.val (.bool r20.2)))],[.cells (dA.cs (gd a0.bP.bB a1.fA))],[],0⟩) 7 6 13 [0,7,9,11] [0] rfl (by kernel_rfl) ?_
     refine bC.bH 13 (by kernel_rfl) ?_
     refine Ref.bG (cd (bd Tryz.f100) [1,0,1,0,1,0,1,1,1,1,0]) (cd (bd Tryz.f100) [1,0,1,0,1,0,1,1,1,1,1]) (by kernel_rfl) ?_
     refine Ref.bG (cd (bd Tryz.f100) [1,0,1,0,1,0,1,1,1,1,0,0]) (cd (bd Tryz.f100) [1,0,1,0,1,0,1,1,1,1,0,1]) (by kernel_rfl) ?_
     refine Ref.eS 8 (by kernel_rfl) (by kernel_rfl) ?_
     refine eD.eT (bJ:=⟨[(7,.c (.ptr 0 0 0)),(61,.c (.val (.bool ((!mW.2) || (!r20.2))))),(62,.c (dD.ep a0 0)),(66,.c (dD.ep a0 12)),(68,.c (.ptr 0 0 0))],[.cells (dA.cs (gd a0.bP.bB a1.fA))],[(68,[(61,false)]),(66,[(61,false)]),(62,[(61,false)])],0⟩) (fuel':=5) [0,1,2,3,4,5,6,7,8,9,10,11,13] [7,61,62,66,68] [0] rfl (by kernel_rfl) (by kernel_rfl) ?_
     refine eD.nN [] ?_
     refine cI.eT (bJ:=⟨[(7,.c (.ptr 0 0 0)),(61,.c (.val (.bool ((!mW.2) || (!r20.2))))),(62,.c (dD.ep a0 0)),(67,.c (.val (.int .i64 a0.fc.cC))),(69,.c (.val (.int .i64 ((gd a0.bP.bB a1.fA).cC))))],[.cells (dA.cs (gd a0.bP.bB a1.fA))],[(69,[(61,false)]),(67,[(61,false)]),(62,[(61,false)])],0⟩) (fuel':=3) [12,14] [7,61,62,67,69] [0] rfl (by kernel_rfl) (by kernel_rfl) ?_
     refine cI.fN (t:=70) (g:=[(61,false)]) (b:=(!((!mW.2) || (!r20.2)))) (fuel':=2) 15 [] (default:Bool) rfl (by kernel_rfl) (by kernel_rfl) (aF9 K a0 a0.fc.cC ((gd a0.bP.bB a1.fA).cC)) (fun _=>rfl) (fun pS=>?_)
     refine cI.eT (bJ:=⟨[(7,.c (.ptr 0 0 0)),(72,.c (.val (.bool (((!mW.2) || (!r20.2)) || (!pS)))))],[.cells (dA.cs (gd a0.bP.bB a1.fA))],[],0⟩) (fuel':=0) [16,17] [7,72] [0] rfl (by kernel_rfl) (by kernel_rfl) ?_
     refine cI.done (by kernel_rfl) ?_
     refine Ref.bY (.tmp 72) (((!mW.2) || (!r20.2)) || (!pS)) (by kernel_rfl) rfl (by kernel_rfl) (fun hc=>?_) (fun hc=>?_)
     ·
      refine Ref.bG (cd (bd Tryz.f100) [1,0,1,0,1,0,1,1,1,1,0,1,0,0]) (cd (bd Tryz.f100) [1,0,1,0,1,0,1,1,1,1,0,1,0,1]) (by kernel_rfl) ?_
      refine Ref.bD 9 (by kernel_rfl) ?_
      refine bC.bS (bJ:=⟨[(4,.c (.str ([]:Bytes))),(5,.c (.str ([]:Bytes))),(6,.c (.val (.bool false)))],[],[],0⟩) 0 3 3 [4,5,6] [] rfl (by kernel_rfl) ?_
      refine bC.bH 3 (by kernel_rfl) ?_
      exact Ref.cP (t:=(Sum.inr (([]:Bytes),([]:Bytes),false))) (by kernel_rfl) (by kernel_rfl)
     ·
      refine Ref.bZ (by kernel_rfl) ?_
      refine Ref.bG (cd (bd Tryz.f100) [1,0,1,0,1,0,1,1,1,1,1,0]) (cd (bd Tryz.f100) [1,0,1,0,1,0,1,1,1,1,1,1]) (by kernel_rfl) ?_
      refine Ref.bD 10 (by kernel_rfl) ?_
      refine bC.bS (bJ:=⟨[(74,.c (.str ((gd a0.bP.bB a1.fA).b9))),(76,.c (.val (.bool ((gd a0.bP.bB a1.fA).dK))))],[],[],0⟩) 0 4 4 [74,76] [] rfl (by kernel_rfl) ?_
      refine bC.c7 (eM:=fun x22=>⟨[(74,.c (.str x22)),(76,.c (.val (.bool ((gd a0.bP.bB a1.fA).dK))))],[],[],0⟩) (by kernel_rfl) (fun x22=>?_)
      refine bC.c7 (eM:=fun x23=>⟨[(74,.c (.str x22)),(76,.c (.val (.bool x23)))],[],[],0⟩) (by kernel_rfl) (fun x23=>?_)
      refine bC.cF (t:=77) 4 5 [] rfl (by kernel_rfl) (aDU K x22 x23) (fun r24=>?_)
      refine bC.bS (bJ:=⟨[(78,.c (.own 0 1))],[.row 9 1 1 (gP [[.str r24]])],[],0⟩) 5 1 6 [78] [0] rfl (by kernel_rfl) ?_
      refine bC.conv (Conv.obj 0 (E9.row [r24]) (El.j9 E9 [r24] rfl (by kernel_rfl)) (by kernel_rfl)) ?_
      refine bC.conv (Conv.slot 78 (.c (.own 0 ([r24].length))) (jN.c (cY.own (by first | (simp;done) | (simp;omega) | omega))) (by kernel_rfl)) ?_
      refine bC.fN (t:=79) (g:=[]) (b:=true) 6 7 [0] (default:Bytes × Bytes × Bool) rfl (by kernel_rfl) (rX K [r24] 0 ([]:Bytes)) (fun _=>rfl) (fun w4=>?_)
      refine bC.bS (bJ:=⟨[(4,.c (.str w4.1)),(5,.c (.str w4.2.1)),(6,.c (.val (.bool w4.2.2)))],[],[],0⟩) 7 6 13 [4,5,6] [] rfl (by kernel_rfl) ?_
      refine bC.bH 13 (by kernel_rfl) ?_
      exact Ref.cP (t:=(Sum.inr (w4.1,w4.2.1,w4.2.2))) (by kernel_rfl) (by kernel_rfl)
    ·
     refine cI.fS (vs:=[cR a1.fA a0.bP.bB.length]) (bJ:=⟨[(0,.c (dD.ep a0 0)),(37,.agg (dA.cs (gd a0.bP.bB a1.fA)))],[],[],0⟩) (fuel':=2) [4,6,7,8] [0,37] [] rfl (by kernel_rfl) (by kernel_rfl) ?_
     refine cI.gQ (fuel':=1) 9 (by kernel_rfl) ?_
     refine eP.pG (bJ:=⟨[(0,.c (dD.ep a0 0)),(7,.c (.ptr 0 0 0)),(37,.agg (dA.cs (gd a0.bP.bB a1.fA)))],[.cells [.val (.int .i64 0),.str ([]:Bytes),.str ([]:Bytes),.val (.bool false),.val (.int .i64 0),.nil]],[],0⟩) 9 [0,7,37] [0] (by kernel_rfl) (by kernel_rfl) ?_
     refine cI.o7 [10] rfl (by kernel_rfl) ?_
     refine bC.bS (bJ:=⟨[(0,.c (dD.ep a0 0)),(7,.c (.ptr 0 0 0))],[.cells (dA.cs (gd a0.bP.bB a1.fA))],[],0⟩) 0 1 1 [0,7] [0] rfl (by kernel_rfl) ?_
     refine bC.bH 1 (by kernel_rfl) ?_
     refine Ref.conv (Conv.keep (bJ:=⟨[(0,.c (dD.ep a0 0)),(7,.c (.ptr 0 0 0))],[.cells (dA.cs (gd a0.bP.bB a1.fA))],[],0⟩) [0,7] [0] (by kernel_rfl)) ?_
     exact hk
  ·
   refine Ref.bG (cd (bd Tryz.f100) [1,0,1,0,1,1,0]) (cd (bd Tryz.f100) [1,0,1,0,1,1,1]) (by kernel_rfl) ?_
   refine Ref.bD 11 (by kernel_rfl) ?_
   refine bC.bS (bJ:=⟨[(0,.c (dD.ep a0 0)),(3,.c (.ptr 0 0 0)),(17,.c (.val (.int .i64 a1.fK))),(83,.c (.val (.bool ((a1.fK:Int) == 24))))],[.cells (cV.cs a1)],[],0⟩) 0 2 2 [0,3,17,83] [0] rfl (by kernel_rfl) ?_
   refine bC.bH 2 (by kernel_rfl) ?_
   refine Ref.bY (.tmp 83) ((a1.fK:Int) == 24) (by kernel_rfl) rfl (by kernel_rfl) (fun hc=>?_) (fun hc=>?_)
   ·
    refine Ref.bG (cd (bd Tryz.f100) [1,0,1,0,1,1,1,0,0]) (cd (bd Tryz.f100) [1,0,1,0,1,1,1,0,1]) (by kernel_rfl) ?_
    refine Ref.bD 12 (by kernel_rfl) ?_
    refine bC.bS (bJ:=⟨[(3,.c (.ptr 0 0 0)),(86,.c (dD.ep a0 0)),(91,.c (.val (.int .i64 a0.fc.cC)))],[.cells (cV.cs a1)],[],0⟩) 0 6 6 [3,86,91] [0] rfl (by kernel_rfl) ?_
    refine bC.cF (t:=92) 6 7 [] rfl (by kernel_rfl) (nG K a0 a0.fc.cC) (fun zH=>?_)
    refine bC.bS (bJ:=⟨[(3,.c (.ptr 0 0 0)),(12,.c (.ptr 1 0 0))],[.cells (cV.cs a1),.cells (cW.cs zH.1)],[],0⟩) 7 6 13 [3,12] [0,2] rfl (by kernel_rfl) ?_
    refine bC.bH 13 (by kernel_rfl) ?_
    refine Ref.bG (cd (bd Tryz.f100) [1,0,1,0,1,1,1,0,1,0]) (cd (bd Tryz.f100) [1,0,1,0,1,1,1,0,1,1]) (by kernel_rfl) ?_
    refine Ref.bD 13 (by kernel_rfl) ?_
    refine bC.bS (bJ:=⟨[(96,.c (E9.tree zH.1.eQ)),(98,.c (.val (.int .i64 a1.fA)))],[],[],0⟩) 0 4 4 [96,98] [] rfl (by kernel_rfl) ?_
    refine bC.cF (t:=99) 4 5 [] rfl (by kernel_rfl) (rX K zH.1.eQ a1.fA ([]:Bytes)) (fun r27=>?_)
    refine bC.bS (bJ:=⟨[(4,.c (.str r27.1)),(5,.c (.str r27.2.1)),(6,.c (.val (.bool r27.2.2)))],[],[],0⟩) 5 6 11 [4,5,6] [] rfl (by kernel_rfl) ?_
    refine bC.bH 11 (by kernel_rfl) ?_
    exact Ref.cP (t:=(Sum.inr (r27.1,r27.2.1,r27.2.2))) (by kernel_rfl) (by kernel_rfl)
   ·
    refine Ref.bG (cd (bd Tryz.f100) [1,0,1,0,1,1,1,1,0]) (cd (bd Tryz.f100) [1,0,1,0,1,1,1,1,1]) (by kernel_rfl) ?_
    refine Ref.bD 14 (by kernel_rfl) ?_
    refine bC.bS (bJ:=⟨[(0,.c (dD.ep a0 0)),(3,.c (.ptr 0 0 0)),(103,.c (.val (.bool ((a1.fK:Int) == 25))))],[.cells (cV.cs a1)],[],0⟩) 0 2 2 [0,3,103] [0] rfl (by kernel_rfl) ?_
    refine bC.bH 2 (by kernel_rfl) ?_
    refine Ref.bY (.tmp 103) ((a1.fK:Int) == 25) (by kernel_rfl) rfl (by kernel_rfl) (fun hc=>?_) (fun hc=>?_)
    ·
     refine Ref.bG (cd (bd Tryz.f100) [1,0,1,0,1,1,1,1,1,0,0]) (cd (bd Tryz.f100) [1,0,1,0,1,1,1,1,1,0,1]) (by kernel_rfl) ?_
     refine Ref.bD 15 (by kernel_rfl) ?_
     refine bC.bS (bJ:=⟨[(3,.c (.ptr 0 0 0)),(106,.c (dD.ep a0 0)),(108,.c (.val (.int .i64 a1.fB)))],[.cells (cV.cs a1)],[],0⟩) 0 3 3 [3,106,108] [0] rfl (by kernel_rfl) ?_
     refine bC.cF (t:=109) 3 4 [] rfl (by kernel_rfl) (nG K a0 a1.fB) (fun oO=>?_)
     refine bC.bS (bJ:=⟨[(3,.c (.ptr 0 0 0)),(14,.c (.ptr 1 0 0))],[.cells (cV.cs a1),.cells (cW.cs oO.1)],[],0⟩) 4 6 10 [3,14] [0,2] rfl (by kernel_rfl) ?_
     refine bC.bH 10 (by kernel_rfl) ?_
     refine Ref.bG (cd (bd Tryz.f100) [1,0,1,0,1,1,1,1,1,0,1,0]) (cd (bd Tryz.f100) [1,0,1,0,1,1,1,1,1,0,1,1]) (by kernel_rfl) ?_
     refine Ref.bD 16 (by kernel_rfl) ?_
     refine bC.bS (bJ:=⟨[(113,.c (E9.tree oO.1.eQ)),(115,.c (.val (.int .i64 a1.fA)))],[],[],0⟩) 0 4 4 [113,115] [] rfl (by kernel_rfl) ?_
     refine bC.cF (t:=116) 4 5 [] rfl (by kernel_rfl) (rX K oO.1.eQ a1.fA ([114]:Bytes)) (fun gO=>?_)
     refine bC.bS (bJ:=⟨[(4,.c (.str gO.1)),(5,.c (.str gO.2.1)),(6,.c (.val (.bool gO.2.2)))],[],[],0⟩) 5 6 11 [4,5,6] [] rfl (by kernel_rfl) ?_
     refine bC.bH 11 (by kernel_rfl) ?_
     exact Ref.cP (t:=(Sum.inr (gO.1,gO.2.1,gO.2.2))) (by kernel_rfl) (by kernel_rfl)
    ·
     refine Ref.bZ (by kernel_rfl) ?_
     refine Ref.conv (Conv.keep (bJ:=⟨[(0,.c (dD.ep a0 0)),(3,.c (.ptr 0 0 0))],[.cells (cV.cs a1)],[],0⟩) [0,3] [0] (by kernel_rfl)) ?_
     exact Ref.nil (t:=()) (by kernel_rfl)
 ·
  refine Ref.bG (cd (bd Tryz.f100) [1,1,0]) (cd (bd Tryz.f100) [1,1,1]) (by kernel_rfl) ?_
  refine Ref.bG (cd (bd Tryz.f100) [1,1,0,0]) (cd (bd Tryz.f100) [1,1,0,1]) (by kernel_rfl) ?_
  refine Ref.eS 17 (by kernel_rfl) (by kernel_rfl) ?_
  refine eD.eT (bJ:=⟨[(0,.c (dD.ep a0 0)),(3,.c (.ptr 0 0 0)),(120,.c (.ptr 0 0 1)),(125,.c (dD.ep a0 0))],[.cells (cV.cs a1)],[],0⟩) (fuel':=4) [0,2,3,4,5] [0,3,120,125] [0] rfl (by kernel_rfl) (by kernel_rfl) ?_
  refine eD.nN [] ?_
  refine cI.eT (bJ:=⟨[(0,.c (dD.ep a0 0)),(3,.c (.ptr 0 0 0)),(128,.c (.val (.bool (decide ((a1.fA:Int) ≥ (Int.ofNat a0.bP.bR.length))))))],[.cells (cV.cs a1)],[],0⟩) (fuel':=0) [1,6,7,8] [0,3,128] [0] rfl (by kernel_rfl) (by kernel_rfl) ?_
  refine cI.c7 (eM:=fun x30=>⟨[(0,.c (dD.ep a0 0)),(3,.c (.ptr 0 0 0)),(128,.c (.val (.bool x30)))],[.cells (cV.cs a1)],[],0⟩) (by kernel_rfl) (fun x30=>?_)
  refine cI.done (by kernel_rfl) ?_
  refine Ref.bY (.tmp 128) x30 (by kernel_rfl) rfl (by kernel_rfl) (fun hc=>?_) (fun hc=>?_)
  ·
   refine Ref.bG (cd (bd Tryz.f100) [1,1,0,1,0,0]) (cd (bd Tryz.f100) [1,1,0,1,0,1]) (by kernel_rfl) ?_
   refine Ref.bD 18 (by kernel_rfl) ?_
   refine bC.bS (bJ:=⟨[(4,.c (.str ([]:Bytes))),(5,.c (.str ([]:Bytes))),(6,.c (.val (.bool false)))],[],[],0⟩) 0 3 3 [4,5,6] [] rfl (by kernel_rfl) ?_
   refine bC.bH 3 (by kernel_rfl) ?_
   exact Ref.cP (t:=(([]:Bytes),([]:Bytes),false)) (by kernel_rfl) (by kernel_rfl)
  ·
   refine Ref.bZ (by kernel_rfl) ?_
   refine Ref.bG (cd (bd Tryz.f100) [1,1,1,0]) (cd (bd Tryz.f100) [1,1,1,1]) (by kernel_rfl) ?_
   refine Ref.eS 19 (by kernel_rfl) (by kernel_rfl) ?_
   refine eD.eT (bJ:=⟨[(132,.c (dD.ep a0 0)),(134,.c (.ptr 0 0 1)),(138,.c (.ptr 0 0 2))],[.cells (cV.cs a1)],[],0⟩) (fuel':=12) [0,1,2,3,5,9] [132,134,138] [0] rfl (by kernel_rfl) (by kernel_rfl) ?_
   refine eD.nN [] ?_
   refine cI.fS (vs:=[cR a1.fA a0.bP.bR.length]) (bJ:=⟨[(137,.c (E9.tree (gd a0.bP.bR a1.fA))),(139,.c (.val (.int .i64 a1.fB)))],[],[],0⟩) (fuel':=7) [4,6,7,8,10] [137,139] [] rfl (by kernel_rfl) (by kernel_rfl) ?_
   refine cI.c7 (eM:=fun pP=>⟨[(137,.c (E9.tree pP)),(139,.c (.val (.int .i64 a1.fB)))],[],[],0⟩) (by kernel_rfl) (fun pP=>?_)
   refine cI.fN (t:=140) (g:=[]) (b:=true) (fuel':=6) 11 [] (default:Bytes × Bytes × Bool) rfl (by kernel_rfl) (by kernel_rfl) (rX K pP a1.fB ([114]:Bytes)) (fun _=>rfl) (fun r32=>?_)
   refine cI.eT (bJ:=⟨[(4,.c (.str r32.1)),(5,.c (.str r32.2.1)),(6,.c (.val (.bool r32.2.2)))],[],[],0⟩) (fuel':=0) [12,13,14,15,16,17] [4,5,6] [] rfl (by kernel_rfl) (by kernel_rfl) ?_
   refine cI.done (by kernel_rfl) ?_
   exact Ref.cP (t:=(r32.1,r32.2.1,r32.2.2)) (by kernel_rfl) (by kernel_rfl)
def F98 (K:Nat) (a0:c6) (a1:jC):Option ((Bytes × Bytes × Bool) ⊕ (Bytes × Bytes × Bool)) :=
 ((cT (aBX K a0 a1)).bind (fun r1=>(bO (decide ((a1.fA:Int) ≥ (Int.ofNat r1.length))) (fun (x2:Bool)=>(if x2=true then (some (.inl (([]:Bytes),([]:Bytes),false))) else (c5 [cK r1.length a1.fA (IntKind.i64.wrap (a1.fA+1))] (bO ((r1.drop (a1.fA:Int).toNat).take (((IntKind.i64.wrap (a1.fA+1)):Int).toNat - (a1.fA:Int).toNat)) (fun (x3:Bytes)=>(bL (bI (bL (if ((a1.fK:Int) == 4)=true then (some (.inr (((a1.fK:Int) == 4)))) else (if ((a1.fK:Int) == 6)=true then (some (.inr (((a1.fK:Int) == 6)))) else (some (.inr (((a1.fK:Int) == 8)))))) (fun (u6:Bool)=>(if u6=true then (some (.inl (Sum.inr (([]:Bytes),x3,true)))) else (some (.inr ())))))) (fun (u5:Unit)=>(some (.inl (x3,([]:Bytes),true)))))))))))))
theorem aIc (K:Nat) (a0:c6) (a1:jC):cM Tryz.prog 98 [.c (dD.ep a0 0),.agg (cV.cs a1)] [] (cT (F98 K a0 a1)) (fun r=>.kE [.c (.str r.1),.c (.str r.2.1),.c (.val (.bool r.2.2))]) (fun r=>[]):=by
 refine cM.intro (fn:=Tryz.f98) (c:=cd (bd Tryz.f98) []) (rs:=fun r=>⟨[(4,.c (.str r.1)),(5,.c (.str r.2.1)),(6,.c (.val (.bool r.2.2)))],[],[],0⟩) (by kernel_rfl) (by kernel_rfl) (by kernel_rfl) ?_ (fun r=>by kernel_rfl) (fun r=>by kernel_rfl) (fun r=>by kernel_rfl) (fun r=>by kernel_rfl)
 unfold F98
 refine Ref.bG (cd (bd Tryz.f98) [0]) (cd (bd Tryz.f98) [1]) (by kernel_rfl) ?_
 refine Ref.bD 0 (by kernel_rfl) ?_
 refine bC.bS (bJ:=⟨[(0,.c (dD.ep a0 0)),(3,.c (.ptr 0 0 0))],[.cells (cV.cs a1)],[],0⟩) 0 4 4 [0,3] [0] rfl (by kernel_rfl) ?_
 refine bC.bH 4 (by kernel_rfl) ?_
 refine Ref.bG (cd (bd Tryz.f98) [1,0]) (cd (bd Tryz.f98) [1,1]) (by kernel_rfl) ?_
 refine Ref.bD 1 (by kernel_rfl) ?_
 refine bC.bS (bJ:=⟨[(3,.c (.ptr 0 0 0)),(9,.c (dD.ep a0 0)),(10,.agg (cV.cs a1))],[.cells (cV.cs a1)],[],0⟩) 0 2 2 [3,9,10] [0] rfl (by kernel_rfl) ?_
 refine bC.cF (t:=11) 2 3 [] rfl (by kernel_rfl) (aBr K a0 a1) (fun r1=>?_)
 refine bC.bS (bJ:=⟨[(3,.c (.ptr 0 0 0)),(7,.c (.str r1))],[.cells (cV.cs a1)],[],0⟩) 3 1 4 [3,7] [0] rfl (by kernel_rfl) ?_
 refine bC.bH 4 (by kernel_rfl) ?_
 refine Ref.bG (cd (bd Tryz.f98) [1,1,0]) (cd (bd Tryz.f98) [1,1,1]) (by kernel_rfl) ?_
 refine Ref.bG (cd (bd Tryz.f98) [1,1,0,0]) (cd (bd Tryz.f98) [1,1,0,1]) (by kernel_rfl) ?_
 refine Ref.bD 2 (by kernel_rfl) ?_
 refine bC.bS (bJ:=⟨[(3,.c (.ptr 0 0 0)),(7,.c (.str r1)),(16,.c (.val (.bool (decide ((a1.fA:Int) ≥ (Int.ofNat r1.length))))))],[.cells (cV.cs a1)],[],0⟩) 0 5 5 [3,7,16] [0] rfl (by kernel_rfl) ?_
 refine bC.c7 (eM:=fun x2=>⟨[(3,.c (.ptr 0 0 0)),(7,.c (.str r1)),(16,.c (.val (.bool x2)))],[.cells (cV.cs a1)],[],0⟩) (by kernel_rfl) (fun x2=>?_)
 refine bC.bH 5 (by kernel_rfl) ?_
 refine Ref.bY (.tmp 16) x2 (by kernel_rfl) rfl (by kernel_rfl) (fun hc=>?_) (fun hc=>?_)
 ·
  refine Ref.bG (cd (bd Tryz.f98) [1,1,0,1,0,0]) (cd (bd Tryz.f98) [1,1,0,1,0,1]) (by kernel_rfl) ?_
  refine Ref.bD 3 (by kernel_rfl) ?_
  refine bC.bS (bJ:=⟨[(4,.c (.str ([]:Bytes))),(5,.c (.str ([]:Bytes))),(6,.c (.val (.bool false)))],[],[],0⟩) 0 3 3 [4,5,6] [] rfl (by kernel_rfl) ?_
  refine bC.bH 3 (by kernel_rfl) ?_
  exact Ref.cP (t:=(([]:Bytes),([]:Bytes),false)) (by kernel_rfl) (by kernel_rfl)
 ·
  refine Ref.bZ (by kernel_rfl) ?_
  refine Ref.bG (cd (bd Tryz.f98) [1,1,1,0]) (cd (bd Tryz.f98) [1,1,1,1]) (by kernel_rfl) ?_
  refine Ref.bD 4 (by kernel_rfl) ?_
  refine bC.fS (vs:=[cK r1.length a1.fA (IntKind.i64.wrap (a1.fA+1))]) (bJ:=⟨[(3,.c (.ptr 0 0 0)),(8,.c (.str ((r1.drop (a1.fA:Int).toNat).take (((IntKind.i64.wrap (a1.fA+1)):Int).toNat - (a1.fA:Int).toNat))))],[.cells (cV.cs a1)],[],0⟩) 0 8 8 [3,8] [0] rfl (by kernel_rfl) ?_
  refine bC.c7 (eM:=fun x3=>⟨[(3,.c (.ptr 0 0 0)),(8,.c (.str x3))],[.cells (cV.cs a1)],[],0⟩) (by kernel_rfl) (fun x3=>?_)
  refine bC.bH 8 (by kernel_rfl) ?_
  refine Ref.bG (cd (bd Tryz.f98) [1,1,1,1,0]) (cd (bd Tryz.f98) [1,1,1,1,1]) (by kernel_rfl) ?_
  refine Ref.bG (cd (bd Tryz.f98) [1,1,1,1,0,0]) (cd (bd Tryz.f98) [1,1,1,1,0,1]) (by kernel_rfl) ?_
  refine Ref.bD 5 (by kernel_rfl) ?_
  refine bC.bS (bJ:=⟨[(8,.c (.str x3)),(25,.c (.val (.int .i64 a1.fK)))],[],[],0⟩) 0 2 2 [8,25] [] rfl (by kernel_rfl) ?_
  refine bC.bH 2 (by kernel_rfl) ?_
  refine Ref.cB (c':=.block 0 (cd (bd Tryz.f98) [1,1,1,1,0,1,0])) (by kernel_rfl) ?_
  refine Ref.block (eU:=fun u5=>⟨[(8,.c (.str x3))],[],[],0⟩) ?_ (fun _ h=>by cases h) (fun u5=>?_)
  ·
   refine Ref.bG (cd (bd Tryz.f98) [1,1,1,1,0,1,0,0]) (cd (bd Tryz.f98) [1,1,1,1,0,1,0,1]) (by kernel_rfl) ?_
   refine Ref.bG (cd (bd Tryz.f98) [1,1,1,1,0,1,0,0,0]) (cd (bd Tryz.f98) [1,1,1,1,0,1,0,0,1]) (by kernel_rfl) ?_
   refine Ref.bD 6 (by kernel_rfl) ?_
   refine bC.bS (bJ:=⟨[(8,.c (.str x3)),(25,.c (.val (.int .i64 a1.fK))),(26,.c (.val (.bool ((a1.fK:Int) == 4))))],[],[],0⟩) 0 2 2 [8,25,26] [] rfl (by kernel_rfl) ?_
   refine bC.bH 2 (by kernel_rfl) ?_
   refine Ref.bind (eU:=fun u6=>⟨[(8,.c (.str x3)),(26,.c (.val (.bool u6)))],[],[],0⟩) ?_ (fun u6=>?_)
   ·
    refine Ref.bY (.tmp 26) ((a1.fK:Int) == 4) (by kernel_rfl) rfl (by kernel_rfl) (fun hc=>?_) (fun hc=>?_)
    ·
     refine Ref.bZ (by kernel_rfl) ?_
     refine Ref.conv (Conv.keep (bJ:=⟨[(8,.c (.str x3)),(26,.c (.val (.bool ((a1.fK:Int) == 4))))],[],[],0⟩) [8,26] [] (by kernel_rfl)) ?_
     exact Ref.nil (t:=(((a1.fK:Int) == 4))) (by kernel_rfl)
    ·
     refine Ref.bG (cd (bd Tryz.f98) [1,1,1,1,0,1,0,0,1,1,0]) (cd (bd Tryz.f98) [1,1,1,1,0,1,0,0,1,1,1]) (by kernel_rfl) ?_
     refine Ref.bD 7 (by kernel_rfl) ?_
     refine bC.bS (bJ:=⟨[(8,.c (.str x3)),(25,.c (.val (.int .i64 a1.fK))),(26,.c (.val (.bool ((a1.fK:Int) == 6))))],[],[],0⟩) 0 2 2 [8,25,26] [] rfl (by kernel_rfl) ?_
     refine bC.bH 2 (by kernel_rfl) ?_
     refine Ref.bY (.tmp 26) ((a1.fK:Int) == 6) (by kernel_rfl) rfl (by kernel_rfl) (fun hc=>?_) (fun hc=>?_)
     ·
      refine Ref.bZ (by kernel_rfl) ?_
      refine Ref.conv (Conv.keep (bJ:=⟨[(8,.c (.str x3)),(26,.c (.val (.bool ((a1.fK:Int) == 6))))],[],[],0⟩) [8,26] [] (by kernel_rfl)) ?_
      exact Ref.nil (t:=(((a1.fK:Int) == 6))) (by kernel_rfl)
     ·
      refine Ref.bD 8 (by kernel_rfl) ?_
      refine bC.bS (bJ:=⟨[(8,.c (.str x3)),(26,.c (.val (.bool ((a1.fK:Int) == 8))))],[],[],0⟩) 0 2 2 [8,26] [] rfl (by kernel_rfl) ?_
      refine bC.bH 2 (by kernel_rfl) ?_
      exact Ref.nil (t:=(((a1.fK:Int) == 8))) (by kernel_rfl)
   ·
    refine Ref.bY (.tmp 26) u6 (by kernel_rfl) rfl (by kernel_rfl) (fun hc=>?_) (fun hc=>?_)
    ·
     refine Ref.bG (cd (bd Tryz.f98) [1,1,1,1,0,1,0,1,0,0]) (cd (bd Tryz.f98) [1,1,1,1,0,1,0,1,0,1]) (by kernel_rfl) ?_
     refine Ref.bD 9 (by kernel_rfl) ?_
     refine bC.bS (bJ:=⟨[(4,.c (.str ([]:Bytes))),(5,.c (.str x3)),(6,.c (.val (.bool true)))],[],[],0⟩) 0 4 4 [4,5,6] [] rfl (by kernel_rfl) ?_
     refine bC.bH 4 (by kernel_rfl) ?_
     exact Ref.cP (t:=(Sum.inr (([]:Bytes),x3,true))) (by kernel_rfl) (by kernel_rfl)
    ·
     refine Ref.bZ (by kernel_rfl) ?_
     refine Ref.conv (Conv.keep (bJ:=⟨[(8,.c (.str x3))],[],[],0⟩) [8] [] (by kernel_rfl)) ?_
     exact Ref.nil (t:=()) (by kernel_rfl)
  ·
   refine Ref.bG (cd (bd Tryz.f98) [1,1,1,1,1,0]) (cd (bd Tryz.f98) [1,1,1,1,1,1]) (by kernel_rfl) ?_
   refine Ref.bD 10 (by kernel_rfl) ?_
   refine bC.bS (bJ:=⟨[(4,.c (.str x3)),(5,.c (.str ([]:Bytes))),(6,.c (.val (.bool true)))],[],[],0⟩) 0 4 4 [4,5,6] [] rfl (by kernel_rfl) ?_
   refine bC.bH 4 (by kernel_rfl) ?_
   exact Ref.cP (t:=(x3,([]:Bytes),true)) (by kernel_rfl) (by kernel_rfl)
def F99 (K:Nat) (a0:c6) (a1:jC):Option ((Bool) ⊕ (Bool)) :=
 ((cT (aBX K a0 a1)).bind (fun r1=>(c5 [!(decide (((IntKind.i64.wrap (a1.fA+a1.fB)):Int)≤(Int.ofNat r1.length))) || cK r1.length a1.fA (IntKind.i64.wrap (a1.fA+a1.fB))] (bO (decide (((IntKind.i64.wrap (a1.fA+a1.fB)):Int)≤(Int.ofNat r1.length))) (fun (x2:Bool)=>((eF x2 (cT (aEu K ((r1.drop (a1.fA:Int).toNat).take (((IntKind.i64.wrap (a1.fA+a1.fB)):Int).toNat - (a1.fA:Int).toNat)) ([105]:Bytes))) default).bind (fun r3=>(some (.inl ((x2 && ((r3:Int) == a1.fB))))))))))))
theorem aD8 (K:Nat) (a0:c6) (a1:jC):cM Tryz.prog 99 [.c (dD.ep a0 0),.agg (cV.cs a1)] [] (cT (F99 K a0 a1)) (fun r=>.c (.val (.bool r))) (fun r=>[]):=by
 refine cM.intro (fn:=Tryz.f99) (c:=cd (bd Tryz.f99) []) (rs:=fun r=>⟨[(4,.c (.val (.bool r)))],[],[],0⟩) (by kernel_rfl) (by kernel_rfl) (by kernel_rfl) ?_ (fun r=>by kernel_rfl) (fun r=>by kernel_rfl) (fun r=>by kernel_rfl) (fun r=>by kernel_rfl)
 unfold F99
 refine Ref.bG (cd (bd Tryz.f99) [0]) (cd (bd Tryz.f99) [1]) (by kernel_rfl) ?_
 refine Ref.bD 0 (by kernel_rfl) ?_
 refine bC.bS (bJ:=⟨[(0,.c (dD.ep a0 0)),(3,.c (.ptr 0 0 0))],[.cells (cV.cs a1)],[],0⟩) 0 2 2 [0,3] [0] rfl (by kernel_rfl) ?_
 refine bC.bH 2 (by kernel_rfl) ?_
 refine Ref.bG (cd (bd Tryz.f99) [1,0]) (cd (bd Tryz.f99) [1,1]) (by kernel_rfl) ?_
 refine Ref.bD 1 (by kernel_rfl) ?_
 refine bC.bS (bJ:=⟨[(3,.c (.ptr 0 0 0)),(6,.c (dD.ep a0 0)),(7,.agg (cV.cs a1))],[.cells (cV.cs a1)],[],0⟩) 0 2 2 [3,6,7] [0] rfl (by kernel_rfl) ?_
 refine bC.cF (t:=8) 2 3 [] rfl (by kernel_rfl) (aBr K a0 a1) (fun r1=>?_)
 refine bC.bS (bJ:=⟨[(3,.c (.ptr 0 0 0)),(5,.c (.str r1))],[.cells (cV.cs a1)],[],0⟩) 3 1 4 [3,5] [0] rfl (by kernel_rfl) ?_
 refine bC.bH 4 (by kernel_rfl) ?_
 refine Ref.bG (cd (bd Tryz.f99) [1,1,0]) (cd (bd Tryz.f99) [1,1,1]) (by kernel_rfl) ?_
 refine Ref.eS 2 (by kernel_rfl) (by kernel_rfl) ?_
 refine eD.eT (bJ:=⟨[(3,.c (.ptr 0 0 0)),(5,.c (.str r1)),(9,.c (.ptr 0 0 1)),(11,.c (.ptr 0 0 2)),(15,.c (.val (.int .i64 (Int.ofNat r1.length))))],[.cells (cV.cs a1)],[],0⟩) (fuel':=20) [0,2,5,6] [3,5,9,11,15] [0] rfl (by kernel_rfl) (by kernel_rfl) ?_
 refine eD.nN [] ?_
 refine cI.fS (vs:=[!(decide (((IntKind.i64.wrap (a1.fA+a1.fB)):Int)≤(Int.ofNat r1.length))) || cK r1.length a1.fA (IntKind.i64.wrap (a1.fA+a1.fB))]) (bJ:=⟨[(17,.c (.val (.bool (decide (((IntKind.i64.wrap (a1.fA+a1.fB)):Int)≤(Int.ofNat r1.length)))))),(26,.c (.str ((r1.drop (a1.fA:Int).toNat).take (((IntKind.i64.wrap (a1.fA+a1.fB)):Int).toNat - (a1.fA:Int).toNat)))),(29,.c (.val (.int .i64 a1.fB)))],[],[(29,[(17,true)]),(26,[(17,true)])],0⟩) (fuel':=4) [1,3,4,7,8,9,10,11,12,13,14,15,16,17,19,20] [17,26,29] [] rfl (by kernel_rfl) (by kernel_rfl) ?_
 refine cI.c7 (eM:=fun x2=>⟨[(17,.c (.val (.bool x2))),(26,.c (.str ((r1.drop (a1.fA:Int).toNat).take (((IntKind.i64.wrap (a1.fA+a1.fB)):Int).toNat - (a1.fA:Int).toNat)))),(29,.c (.val (.int .i64 a1.fB)))],[],[(29,[(17,true)]),(26,[(17,true)])],0⟩) (by kernel_rfl) (fun x2=>?_)
 refine cI.fN (t:=27) (g:=[(17,true)]) (b:=x2) (fuel':=3) 18 [] (default:Int) rfl (by kernel_rfl) (by kernel_rfl) (aEx K ((r1.drop (a1.fA:Int).toNat).take (((IntKind.i64.wrap (a1.fA+a1.fB)):Int).toNat - (a1.fA:Int).toNat)) ([105]:Bytes)) (fun _=>rfl) (fun r3=>?_)
 refine cI.eT (bJ:=⟨[(4,.c (.val (.bool (x2 && ((r3:Int) == a1.fB)))))],[],[],0⟩) (fuel':=0) [21,22,23] [4] [] rfl (by kernel_rfl) (by kernel_rfl) ?_
 refine cI.done (by kernel_rfl) ?_
 exact Ref.cP (t:=((x2 && ((r3:Int) == a1.fB)))) (by kernel_rfl) (by kernel_rfl)
def F84 (K:Nat) (a0:c6) (a1:jC):Option ((Bytes × Bytes × Bool) ⊕ (Bytes × Bytes × Bool)) :=
 (bL (bI (if ((a1.fK:Int) == 1)=true then (some (.inl (Sum.inr (([]:Bytes),([105]:Bytes),true)))) else (bL (if ((a1.fK:Int) == 32)=true then (some (.inr (((a1.fK:Int) == 32)))) else (some (.inr (((a1.fK:Int) == 33))))) (fun (yU:Bool)=>(if yU=true then (bO (decide ((a1.fA:Int)<(Int.ofNat a0.bP.bQ.length))) (fun (wZ:Bool)=>(some (.inl (Sum.inr (([]:Bytes),([105]:Bytes),wZ)))))) else (if ((a1.fK:Int) == 2)=true then (some (.inl (Sum.inr (([]:Bytes),([114]:Bytes),true)))) else (if ((a1.fK:Int) == 3)=true then (bO ((decide ((a1.fA:Int) ≥ 1)) && (decide ((a1.fA:Int)≤(Int.ofNat a0.bP.bX.length)))) (fun (x19:Bool)=>(some (.inl (Sum.inr (([]:Bytes),([114]:Bytes),x19)))))) else (bL (if ((a1.fK:Int) == 4)=true then (some (.inr (((a1.fK:Int) == 4)))) else (if ((a1.fK:Int) == 6)=true then (some (.inr (((a1.fK:Int) == 6)))) else (if ((a1.fK:Int) == 8)=true then (some (.inr (((a1.fK:Int) == 8)))) else (if ((a1.fK:Int) == 5)=true then (some (.inr (((a1.fK:Int) == 5)))) else (if ((a1.fK:Int) == 7)=true then (some (.inr (((a1.fK:Int) == 7)))) else (some (.inr (((a1.fK:Int) == 9))))))))) (fun (cL:Bool)=>(if cL=true then ((cT (F98 K a0 a1)).bind (fun pS=>(some (.inl (Sum.inr (pS.1,pS.2.1,pS.2.2)))))) else (bL (if ((a1.fK:Int) == 10)=true then (some (.inr (((a1.fK:Int) == 10)))) else (if ((a1.fK:Int) == 12)=true then (some (.inr (((a1.fK:Int) == 12)))) else (some (.inr (((a1.fK:Int) == 14)))))) (fun (gU:Bool)=>(if gU=true then ((cT (F99 K a0 a1)).bind (fun r23=>(some (.inl (Sum.inr (([105]:Bytes),([105]:Bytes),r23)))))) else (bL (if ((a1.fK:Int) == 11)=true then (some (.inr (((a1.fK:Int) == 11)))) else (if ((a1.fK:Int) == 13)=true then (some (.inr (((a1.fK:Int) == 13)))) else (some (.inr (((a1.fK:Int) == 15)))))) (fun (u24:Bool)=>(if u24=true then ((cT (F99 K a0 a1)).bind (fun w4=>(some (.inl (Sum.inr (([105,105]:Bytes),([]:Bytes),w4)))))) else (if ((a1.fK:Int) == 16)=true then (some (.inl (Sum.inr (([105,105]:Bytes),([105]:Bytes),true)))) else (bL (if ((a1.fK:Int) == 17)=true then (some (.inr (((a1.fK:Int) == 17)))) else (if ((a1.fK:Int) == 18)=true then (some (.inr (((a1.fK:Int) == 18)))) else (some (.inr (((a1.fK:Int) == 20)))))) (fun (u26:Bool)=>(if u26=true then (some (.inl (Sum.inr (([105]:Bytes),([105]:Bytes),true)))) else (if ((a1.fK:Int) == 19)=true then (some (.inl (Sum.inr (([114,114]:Bytes),([105]:Bytes),true)))) else (if ((a1.fK:Int) == 22)=true then (some (.inl (Sum.inr (([105]:Bytes),([]:Bytes),true)))) else (bL (if ((a1.fK:Int) == 23)=true then (some (.inr (((a1.fK:Int) == 23)))) else (if ((a1.fK:Int) == 24)=true then (some (.inr (((a1.fK:Int) == 24)))) else (if ((a1.fK:Int) == 25)=true then (some (.inr (((a1.fK:Int) == 25)))) else (some (.inr (((a1.fK:Int) == 26))))))) (fun (u27:Bool)=>(if u27=true then ((cT (yN K a0 a1)).bind (fun oO=>(some (.inl (Sum.inr (oO.1,oO.2.1,oO.2.2)))))) else (bL (if ((a1.fK:Int) == 27)=true then (some (.inr (((a1.fK:Int) == 27)))) else (some (.inr (((a1.fK:Int) == 28))))) (fun (eE:Bool)=>(if eE=true then (bL (if ((a1.fA:Int) == 1)=true then (some (.inr ((Int.ofNat a0.bP.bR.length)))) else (some (.inr ((Int.ofNat a0.bP.bE.length))))) (fun (wX:Int)=>(some (.inl (Sum.inr (([114]:Bytes),([114]:Bytes),(decide ((a1.fB:Int)<wX)))))))) else (if ((a1.fK:Int) == 29)=true then (some (.inl (Sum.inr (([]:Bytes),([]:Bytes),(!a0.fc.dK))))) else (if ((a1.fK:Int) == 30)=true then (some (.inl (Sum.inr (([105]:Bytes),([]:Bytes),a0.fc.dK)))) else (if ((a1.fK:Int) == 31)=true then (bO (decide ((a1.fA:Int)<(Int.ofNat a0.bP.bQ.length))) (fun (pP:Bool)=>(some (.inl (Sum.inr (([105,105]:Bytes),([]:Bytes),pP)))))) else (some (.inr ()))))))))))))))))))))))))))))))))) (fun (u16:Unit)=>(some (.inl (([]:Bytes),([]:Bytes),true)))))
theorem aId (K:Nat) (a0:c6) (a1:jC):cM Tryz.prog 84 [.c (dD.ep a0 0),.agg (cV.cs a1)] [] (cT (F84 K a0 a1)) (fun r=>.kE [.c (.str r.1),.c (.str r.2.1),.c (.val (.bool r.2.2))]) (fun r=>[]):=by
 refine cM.intro (fn:=Tryz.f84) (c:=cd (bd Tryz.f84) []) (rs:=fun r=>⟨[(4,.c (.str r.1)),(5,.c (.str r.2.1)),(6,.c (.val (.bool r.2.2)))],[],[],0⟩) (by kernel_rfl) (by kernel_rfl) (by kernel_rfl) ?_ (fun r=>by kernel_rfl) (fun r=>by kernel_rfl) (fun r=>by kernel_rfl) (fun r=>by kernel_rfl)
 unfold F84
 refine Ref.bG (cd (bd Tryz.f84) [0]) (cd (bd Tryz.f84) [1]) (by kernel_rfl) ?_
 refine Ref.bD 0 (by kernel_rfl) ?_
 refine bC.bS (bJ:=⟨[(0,.c (dD.ep a0 0)),(3,.c (.ptr 0 0 0))],[.cells (cV.cs a1)],[],0⟩) 0 4 4 [0,3] [0] rfl (by kernel_rfl) ?_
 refine bC.bH 4 (by kernel_rfl) ?_
 refine Ref.bG (cd (bd Tryz.f84) [1,0]) (cd (bd Tryz.f84) [1,1]) (by kernel_rfl) ?_
 refine Ref.bG (cd (bd Tryz.f84) [1,0,0]) (cd (bd Tryz.f84) [1,0,1]) (by kernel_rfl) ?_
 refine Ref.bD 1 (by kernel_rfl) ?_
 refine bC.bS (bJ:=⟨[(0,.c (dD.ep a0 0)),(3,.c (.ptr 0 0 0)),(9,.c (.val (.int .i64 a1.fK)))],[.cells (cV.cs a1)],[],0⟩) 0 2 2 [0,3,9] [0] rfl (by kernel_rfl) ?_
 refine bC.bH 2 (by kernel_rfl) ?_
 refine Ref.cB (c':=.block 0 (cd (bd Tryz.f84) [1,0,1,0])) (by kernel_rfl) ?_
 refine Ref.block (eU:=fun u16=>⟨[],[],[],0⟩) ?_ (fun _ h=>by cases h) (fun u16=>?_)
 ·
  refine Ref.bG (cd (bd Tryz.f84) [1,0,1,0,0]) (cd (bd Tryz.f84) [1,0,1,0,1]) (by kernel_rfl) ?_
  refine Ref.bD 2 (by kernel_rfl) ?_
  refine bC.bS (bJ:=⟨[(0,.c (dD.ep a0 0)),(3,.c (.ptr 0 0 0)),(9,.c (.val (.int .i64 a1.fK))),(10,.c (.val (.bool ((a1.fK:Int) == 1))))],[.cells (cV.cs a1)],[],0⟩) 0 2 2 [0,3,9,10] [0] rfl (by kernel_rfl) ?_
  refine bC.bH 2 (by kernel_rfl) ?_
  refine Ref.bY (.tmp 10) ((a1.fK:Int) == 1) (by kernel_rfl) rfl (by kernel_rfl) (fun hc=>?_) (fun hc=>?_)
  ·
   refine Ref.bG (cd (bd Tryz.f84) [1,0,1,0,1,0,0]) (cd (bd Tryz.f84) [1,0,1,0,1,0,1]) (by kernel_rfl) ?_
   refine Ref.bD 3 (by kernel_rfl) ?_
   refine bC.bS (bJ:=⟨[(4,.c (.str ([]:Bytes))),(5,.c (.str ([105]:Bytes))),(6,.c (.val (.bool true)))],[],[],0⟩) 0 3 3 [4,5,6] [] rfl (by kernel_rfl) ?_
   refine bC.bH 3 (by kernel_rfl) ?_
   exact Ref.cP (t:=(Sum.inr (([]:Bytes),([105]:Bytes),true))) (by kernel_rfl) (by kernel_rfl)
  ·
   refine Ref.bG (cd (bd Tryz.f84) [1,0,1,0,1,1,0]) (cd (bd Tryz.f84) [1,0,1,0,1,1,1]) (by kernel_rfl) ?_
   refine Ref.bG (cd (bd Tryz.f84) [1,0,1,0,1,1,0,0]) (cd (bd Tryz.f84) [1,0,1,0,1,1,0,1]) (by kernel_rfl) ?_
   refine Ref.bD 4 (by kernel_rfl) ?_
   refine bC.bS (bJ:=⟨[(0,.c (dD.ep a0 0)),(3,.c (.ptr 0 0 0)),(9,.c (.val (.int .i64 a1.fK))),(12,.c (.val (.bool ((a1.fK:Int) == 32))))],[.cells (cV.cs a1)],[],0⟩) 0 2 2 [0,3,9,12] [0] rfl (by kernel_rfl) ?_
   refine bC.bH 2 (by kernel_rfl) ?_
   refine Ref.bind (eU:=fun yU=>⟨[(0,.c (dD.ep a0 0)),(3,.c (.ptr 0 0 0)),(9,.c (.val (.int .i64 a1.fK))),(12,.c (.val (.bool yU)))],[.cells (cV.cs a1)],[],0⟩) ?_ (fun yU=>?_)
   ·
    refine Ref.bY (.tmp 12) ((a1.fK:Int) == 32) (by kernel_rfl) rfl (by kernel_rfl) (fun hc=>?_) (fun hc=>?_)
    ·
     refine Ref.bZ (by kernel_rfl) ?_
     exact Ref.nil (t:=(((a1.fK:Int) == 32))) (by kernel_rfl)
    ·
     refine Ref.bD 5 (by kernel_rfl) ?_
     refine bC.bS (bJ:=⟨[(0,.c (dD.ep a0 0)),(3,.c (.ptr 0 0 0)),(9,.c (.val (.int .i64 a1.fK))),(12,.c (.val (.bool ((a1.fK:Int) == 33))))],[.cells (cV.cs a1)],[],0⟩) 0 2 2 [0,3,9,12] [0] rfl (by kernel_rfl) ?_
     refine bC.bH 2 (by kernel_rfl) ?_
     exact Ref.nil (t:=(((a1.fK:Int) == 33))) (by kernel_rfl)
   ·
    refine Ref.bY (.tmp 12) yU (by kernel_rfl) rfl (by kernel_rfl) (fun hc=>?_) (fun hc=>?_)
    ·
     refine Ref.bG (cd (bd Tryz.f84) [1,0,1,0,1,1,1,0,0]) (cd (bd Tryz.f84) [1,0,1,0,1,1,1,0,1]) (by kernel_rfl) ?_
     refine Ref.eS 6 (by kernel_rfl) (by kernel_rfl) ?_
     refine eD.eT (bJ:=⟨[(4,.c (.str ([]:Bytes))),(5,.c (.str ([105]:Bytes))),(15,.c (.ptr 0 0 1)),(20,.c (dD.ep a0 6))],[.cells (cV.cs a1)],[],0⟩) (fuel':=5) [0,2,3,4,5,9,10] [4,5,15,20] [0] rfl (by kernel_rfl) (by kernel_rfl) ?_
     refine eD.nN [] ?_
     refine cI.eT (bJ:=⟨[(4,.c (.str ([]:Bytes))),(5,.c (.str ([105]:Bytes))),(6,.c (.val (.bool (decide ((a1.fA:Int)<(Int.ofNat a0.bP.bQ.length))))))],[],[],0⟩) (fuel':=0) [1,6,7,8,11] [4,5,6] [] rfl (by kernel_rfl) (by kernel_rfl) ?_
     refine cI.c7 (eM:=fun wZ=>⟨[(4,.c (.str ([]:Bytes))),(5,.c (.str ([105]:Bytes))),(6,.c (.val (.bool wZ)))],[],[],0⟩) (by kernel_rfl) (fun wZ=>?_)
     refine cI.done (by kernel_rfl) ?_
     exact Ref.cP (t:=(Sum.inr (([]:Bytes),([105]:Bytes),wZ))) (by kernel_rfl) (by kernel_rfl)
    ·
     refine Ref.bG (cd (bd Tryz.f84) [1,0,1,0,1,1,1,1,0]) (cd (bd Tryz.f84) [1,0,1,0,1,1,1,1,1]) (by kernel_rfl) ?_
     refine Ref.bD 7 (by kernel_rfl) ?_
     refine bC.bS (bJ:=⟨[(0,.c (dD.ep a0 0)),(3,.c (.ptr 0 0 0)),(9,.c (.val (.int .i64 a1.fK))),(24,.c (.val (.bool ((a1.fK:Int) == 2))))],[.cells (cV.cs a1)],[],0⟩) 0 2 2 [0,3,9,24] [0] rfl (by kernel_rfl) ?_
     refine bC.bH 2 (by kernel_rfl) ?_
     refine Ref.bY (.tmp 24) ((a1.fK:Int) == 2) (by kernel_rfl) rfl (by kernel_rfl) (fun hc=>?_) (fun hc=>?_)
     ·
      refine Ref.bG (cd (bd Tryz.f84) [1,0,1,0,1,1,1,1,1,0,0]) (cd (bd Tryz.f84) [1,0,1,0,1,1,1,1,1,0,1]) (by kernel_rfl) ?_
      refine Ref.bD 8 (by kernel_rfl) ?_
      refine bC.bS (bJ:=⟨[(4,.c (.str ([]:Bytes))),(5,.c (.str ([114]:Bytes))),(6,.c (.val (.bool true)))],[],[],0⟩) 0 3 3 [4,5,6] [] rfl (by kernel_rfl) ?_
      refine bC.bH 3 (by kernel_rfl) ?_
      exact Ref.cP (t:=(Sum.inr (([]:Bytes),([114]:Bytes),true))) (by kernel_rfl) (by kernel_rfl)
     ·
      refine Ref.bG (cd (bd Tryz.f84) [1,0,1,0,1,1,1,1,1,1,0]) (cd (bd Tryz.f84) [1,0,1,0,1,1,1,1,1,1,1]) (by kernel_rfl) ?_
      refine Ref.bD 9 (by kernel_rfl) ?_
      refine bC.bS (bJ:=⟨[(0,.c (dD.ep a0 0)),(3,.c (.ptr 0 0 0)),(9,.c (.val (.int .i64 a1.fK))),(26,.c (.val (.bool ((a1.fK:Int) == 3))))],[.cells (cV.cs a1)],[],0⟩) 0 2 2 [0,3,9,26] [0] rfl (by kernel_rfl) ?_
      refine bC.bH 2 (by kernel_rfl) ?_
      refine Ref.bY (.tmp 26) ((a1.fK:Int) == 3) (by kernel_rfl) rfl (by kernel_rfl) (fun hc=>?_) (fun hc=>?_)
      ·
       refine Ref.bG (cd (bd Tryz.f84) [1,0,1,0,1,1,1,1,1,1,1,0,0]) (cd (bd Tryz.f84) [1,0,1,0,1,1,1,1,1,1,1,0,1]) (by kernel_rfl) ?_
       refine Ref.eS 10 (by kernel_rfl) (by kernel_rfl) ?_
       refine eD.eT (bJ:=⟨[(0,.c (dD.ep a0 0)),(3,.c (.ptr 0 0 0)),(28,.c (.ptr 0 0 1))],[.cells (cV.cs a1)],[],0⟩) (fuel':=16) [0] [0,3,28] [0] rfl (by kernel_rfl) (by kernel_rfl) ?_
       refine eD.nN [] ?_
       refine cI.eT (bJ:=⟨[(4,.c (.str ([]:Bytes))),(5,.c (.str ([114]:Bytes))),(6,.c (.val (.bool ((decide ((a1.fA:Int) ≥ 1)) && (decide ((a1.fA:Int)≤(Int.ofNat a0.bP.bX.length)))))))],[],[],0⟩) (fuel':=0) [1,2,3,4,5,6,7,8,9,10,11,12,13,14,15,16] [4,5,6] [] rfl (by kernel_rfl) (by kernel_rfl) ?_
       refine cI.c7 (eM:=fun x19=>⟨[(4,.c (.str ([]:Bytes))),(5,.c (.str ([114]:Bytes))),(6,.c (.val (.bool x19)))],[],[],0⟩) (by kernel_rfl) (fun x19=>?_)
       refine cI.done (by kernel_rfl) ?_
       exact Ref.cP (t:=(Sum.inr (([]:Bytes),([114]:Bytes),x19))) (by kernel_rfl) (by kernel_rfl)
      ·
       refine Ref.bG (cd (bd Tryz.f84) [1,0,1,0,1,1,1,1,1,1,1,1,0]) (cd (bd Tryz.f84) [1,0,1,0,1,1,1,1,1,1,1,1,1]) (by kernel_rfl) ?_
       refine Ref.bG (cd (bd Tryz.f84) [1,0,1,0,1,1,1,1,1,1,1,1,0,0]) (cd (bd Tryz.f84) [1,0,1,0,1,1,1,1,1,1,1,1,0,1]) (by kernel_rfl) ?_
       refine Ref.bD 11 (by kernel_rfl) ?_
       refine bC.bS (bJ:=⟨[(0,.c (dD.ep a0 0)),(3,.c (.ptr 0 0 0)),(9,.c (.val (.int .i64 a1.fK))),(42,.c (.val (.bool ((a1.fK:Int) == 4))))],[.cells (cV.cs a1)],[],0⟩) 0 2 2 [0,3,9,42] [0] rfl (by kernel_rfl) ?_
       refine bC.bH 2 (by kernel_rfl) ?_
       refine Ref.bind (eU:=fun cL=>⟨[(0,.c (dD.ep a0 0)),(3,.c (.ptr 0 0 0)),(9,.c (.val (.int .i64 a1.fK))),(42,.c (.val (.bool cL)))],[.cells (cV.cs a1)],[],0⟩) ?_ (fun cL=>?_)
       ·
        refine Ref.bY (.tmp 42) ((a1.fK:Int) == 4) (by kernel_rfl) rfl (by kernel_rfl) (fun hc=>?_) (fun hc=>?_)
        ·
         refine Ref.bZ (by kernel_rfl) ?_
         exact Ref.nil (t:=(((a1.fK:Int) == 4))) (by kernel_rfl)
        ·
         refine Ref.bG (cd (bd Tryz.f84) [1,0,1,0,1,1,1,1,1,1,1,1,0,1,1,0]) (cd (bd Tryz.f84) [1,0,1,0,1,1,1,1,1,1,1,1,0,1,1,1]) (by kernel_rfl) ?_
         refine Ref.bD 12 (by kernel_rfl) ?_
         refine bC.bS (bJ:=⟨[(0,.c (dD.ep a0 0)),(3,.c (.ptr 0 0 0)),(9,.c (.val (.int .i64 a1.fK))),(42,.c (.val (.bool ((a1.fK:Int) == 6))))],[.cells (cV.cs a1)],[],0⟩) 0 2 2 [0,3,9,42] [0] rfl (by kernel_rfl) ?_
         refine bC.bH 2 (by kernel_rfl) ?_
         refine Ref.bY (.tmp 42) ((a1.fK:Int) == 6) (by kernel_rfl) rfl (by kernel_rfl) (fun hc=>?_) (fun hc=>?_)
         ·
          refine Ref.bZ (by kernel_rfl) ?_
          exact Ref.nil (t:=(((a1.fK:Int) == 6))) (by kernel_rfl)
         ·
          refine Ref.bG (cd (bd Tryz.f84) [1,0,1,0,1,1,1,1,1,1,1,1,0,1,1,1,1,0]) (cd (bd Tryz.f84) [1,0,1,0,1,1,1,1,1,1,1,1,0,1,1,1,1,1]) (by kernel_rfl) ?_
          refine Ref.bD 13 (by kernel_rfl) ?_
          refine bC.bS (bJ:=⟨[(0,.c (dD.ep a0 0)),(3,.c (.ptr 0 0 0)),(9,.c (.val (.int .i64 a1.fK))),(42,.c (.val (.bool ((a1.fK:Int) == 8))))],[.cells (cV.cs a1)],[],0⟩) 0 2 2 [0,3,9,42] [0] rfl (by kernel_rfl) ?_
          refine bC.bH 2 (by kernel_rfl) ?_
          refine Ref.bY (.tmp 42) ((a1.fK:Int) == 8) (by kernel_rfl) rfl (by kernel_rfl) (fun hc=>?_) (fun hc=>?_)
          ·
           refine Ref.bZ (by kernel_rfl) ?_
           exact Ref.nil (t:=(((a1.fK:Int) == 8))) (by kernel_rfl)
          ·
           refine Ref.bG (cd (bd Tryz.f84) [1,0,1,0,1,1,1,1,1,1,1,1,0,1,1,1,1,1,1,0]) (cd (bd Tryz.f84) [1,0,1,0,1,1,1,1,1,1,1,1,0,1,1,1,1,1,1,1]) (by kernel_rfl) ?_
           refine Ref.bD 14 (by kernel_rfl) ?_
           refine bC.bS (bJ:=⟨[(0,.c (dD.ep a0 0)),(3,.c (.ptr 0 0 0)),(9,.c (.val (.int .i64 a1.fK))),(42,.c (.val (.bool ((a1.fK:Int) == 5))))],[.cells (cV.cs a1)],[],0⟩) 0 2 2 [0,3,9,42] [0] rfl (by kernel_rfl) ?_
           refine bC.bH 2 (by kernel_rfl) ?_
           refine Ref.bY (.tmp 42) ((a1.fK:Int) == 5) (by kernel_rfl) rfl (by kernel_rfl) (fun hc=>?_) (fun hc=>?_)
           ·
            refine Ref.bZ (by kernel_rfl) ?_
            exact Ref.nil (t:=(((a1.fK:Int) == 5))) (by kernel_rfl)
           ·
            refine Ref.bG (cd (bd Tryz.f84) [1,0,1,0,1,1,1,1,1,1,1,1,0,1,1,1,1,1,1,1,1,0]) (cd (bd Tryz.f84) [1,0,1,0,1,1,1,1,1,1,1,1,0,1,1,1,1,1,1,1,1,1]) (by kernel_rfl) ?_
            refine Ref.bD 15 (by kernel_rfl) ?_
            refine bC.bS (bJ:=⟨[(0,.c (dD.ep a0 0)),(3,.c (.ptr 0 0 0)),(9,.c (.val (.int .i64 a1.fK))),(42,.c (.val (.bool ((a1.fK:Int) == 7))))],[.cells (cV.cs a1)],[],0⟩) 0 2 2 [0,3,9,42] [0] rfl (by kernel_rfl) ?_
            refine bC.bH 2 (by kernel_rfl) ?_
            refine Ref.bY (.tmp 42) ((a1.fK:Int) == 7) (by kernel_rfl) rfl (by kernel_rfl) (fun hc=>?_) (fun hc=>?_)
            ·
             refine Ref.bZ (by kernel_rfl) ?_
             exact Ref.nil (t:=(((a1.fK:Int) == 7))) (by kernel_rfl)
            ·
             refine Ref.bD 16 (by kernel_rfl) ?_
             refine bC.bS (bJ:=⟨[(0,.c (dD.ep a0 0)),(3,.c (.ptr 0 0 0)),(9,.c (.val (.int .i64 a1.fK))),(42,.c (.val (.bool ((a1.fK:Int) == 9))))],[.cells (cV.cs a1)],[],0⟩) 0 2 2 [0,3,9,42] [0] rfl (by kernel_rfl) ?_
             refine bC.bH 2 (by kernel_rfl) ?_
             exact Ref.nil (t:=(((a1.fK:Int) == 9))) (by kernel_rfl)
       ·
        refine Ref.bY (.tmp 42) cL (by kernel_rfl) rfl (by kernel_rfl) (fun hc=>?_) (fun hc=>?_)
        ·
         refine Ref.bG (cd (bd Tryz.f84) [1,0,1,0,1,1,1,1,1,1,1,1,1,0,0]) (cd (bd Tryz.f84) [1,0,1,0,1,1,1,1,1,1,1,1,1,0,1]) (by kernel_rfl) ?_
         refine Ref.bD 17 (by kernel_rfl) ?_
         refine bC.bS (bJ:=⟨[(49,.c (dD.ep a0 0)),(50,.agg (cV.cs a1))],[],[],0⟩) 0 2 2 [49,50] [] rfl (by kernel_rfl) ?_
         refine bC.cF (t:=51) 2 3 [] rfl (by kernel_rfl) (aIc K a0 a1) (fun pS=>?_)
         refine bC.bS (bJ:=⟨[(4,.c (.str pS.1)),(5,.c (.str pS.2.1)),(6,.c (.val (.bool pS.2.2)))],[],[],0⟩) 3 6 9 [4,5,6] [] rfl (by kernel_rfl) ?_
         refine bC.bH 9 (by kernel_rfl) ?_
         exact Ref.cP (t:=(Sum.inr (pS.1,pS.2.1,pS.2.2))) (by kernel_rfl) (by kernel_rfl)
        ·
         refine Ref.bG (cd (bd Tryz.f84) [1,0,1,0,1,1,1,1,1,1,1,1,1,1,0]) (cd (bd Tryz.f84) [1,0,1,0,1,1,1,1,1,1,1,1,1,1,1]) (by kernel_rfl) ?_
         refine Ref.bG (cd (bd Tryz.f84) [1,0,1,0,1,1,1,1,1,1,1,1,1,1,0,0]) (cd (bd Tryz.f84) [1,0,1,0,1,1,1,1,1,1,1,1,1,1,0,1]) (by kernel_rfl) ?_
         refine Ref.bD 18 (by kernel_rfl) ?_
         refine bC.bS (bJ:=⟨[(0,.c (dD.ep a0 0)),(3,.c (.ptr 0 0 0)),(9,.c (.val (.int .i64 a1.fK))),(55,.c (.val (.bool ((a1.fK:Int) == 10))))],[.cells (cV.cs a1)],[],0⟩) 0 2 2 [0,3,9,55] [0] rfl (by kernel_rfl) ?_
         refine bC.bH 2 (by kernel_rfl) ?_
         refine Ref.bind (eU:=fun gU=>⟨[(0,.c (dD.ep a0 0)),(3,.c (.ptr 0 0 0)),(9,.c (.val (.int .i64 a1.fK))),(55,.c (.val (.bool gU)))],[.cells (cV.cs a1)],[],0⟩) ?_ (fun gU=>?_)
         ·
          refine Ref.bY (.tmp 55) ((a1.fK:Int) == 10) (by kernel_rfl) rfl (by kernel_rfl) (fun hc=>?_) (fun hc=>?_)
          ·
           refine Ref.bZ (by kernel_rfl) ?_
           exact Ref.nil (t:=(((a1.fK:Int) == 10))) (by kernel_rfl)
          ·
           refine Ref.bG (cd (bd Tryz.f84) [1,0,1,0,1,1,1,1,1,1,1,1,1,1,0,1,1,0]) (cd (bd Tryz.f84) [1,0,1,0,1,1,1,1,1,1,1,1,1,1,0,1,1,1]) (by kernel_rfl) ?_
           refine Ref.bD 19 (by kernel_rfl) ?_
           refine bC.bS (bJ:=⟨[(0,.c (dD.ep a0 0)),(3,.c (.ptr 0 0 0)),(9,.c (.val (.int .i64 a1.fK))),(55,.c (.val (.bool ((a1.fK:Int) == 12))))],[.cells (cV.cs a1)],[],0⟩) 0 2 2 [0,3,9,55] [0] rfl (by kernel_rfl) ?_
           refine bC.bH 2 (by kernel_rfl) ?_
           refine Ref.bY (.tmp 55) ((a1.fK:Int) == 12) (by kernel_rfl) rfl (by kernel_rfl) (fun hc=>?_) (fun hc=>?_)
           ·
            refine Ref.bZ (by kernel_rfl) ?_
            exact Ref.nil (t:=(((a1.fK:Int) == 12))) (by kernel_rfl)
           ·
            refine Ref.bD 20 (by kernel_rfl) ?_
            refine bC.bS (bJ:=⟨[(0,.c (dD.ep a0 0)),(3,.c (.ptr 0 0 0)),(9,.c (.val (.int .i64 a1.fK))),(55,.c (.val (.bool ((a1.fK:Int) == 14))))],[.cells (cV.cs a1)],[],0⟩) 0 2 2 [0,3,9,55] [0] rfl (by kernel_rfl) ?_
            refine bC.bH 2 (by kernel_rfl) ?_
            exact Ref.nil (t:=(((a1.fK:Int) == 14))) (by kernel_rfl)
         ·
          refine Ref.bY (.tmp 55) gU (by kernel_rfl) rfl (by kernel_rfl) (fun hc=>?_) (fun hc=>?_)
          ·
           refine Ref.bG (cd (bd Tryz.f84) [1,0,1,0,1,1,1,1,1,1,1,1,1,1,1,0,0]) (cd (bd Tryz.f84) [1,0,1,0,1,1,1,1,1,1,1,1,1,1,1,0,1]) (by kernel_rfl) ?_
           refine Ref.bD 21 (by kernel_rfl) ?_
           refine bC.bS (bJ:=⟨[(59,.c (dD.ep a0 0)),(60,.agg (cV.cs a1))],[],[],0⟩) 0 2 2 [59,60] [] rfl (by kernel_rfl) ?_
           refine bC.cF (t:=61) 2 3 [] rfl (by kernel_rfl) (aD8 K a0 a1) (fun r23=>?_)
           refine bC.bS (bJ:=⟨[(4,.c (.str ([105]:Bytes))),(5,.c (.str ([105]:Bytes))),(6,.c (.val (.bool r23)))],[],[],0⟩) 3 3 6 [4,5,6] [] rfl (by kernel_rfl) ?_
           refine bC.bH 6 (by kernel_rfl) ?_
           exact Ref.cP (t:=(Sum.inr (([105]:Bytes),([105]:Bytes),r23))) (by kernel_rfl) (by kernel_rfl)
          ·
           refine Ref.bG (cd (bd Tryz.f84) [1,0,1,0,1,1,1,1,1,1,1,1,1,1,1,1,0]) (cd (bd Tryz.f84) [1,0,1,0,1,1,1,1,1,1,1,1,1,1,1,1,1]) (by kernel_rfl) ?_
           refine Ref.bG (cd (bd Tryz.f84) [1,0,1,0,1,1,1,1,1,1,1,1,1,1,1,1,0,0]) (cd (bd Tryz.f84) [1,0,1,0,1,1,1,1,1,1,1,1,1,1,1,1,0,1]) (by kernel_rfl) ?_
           refine Ref.bD 22 (by kernel_rfl) ?_
           refine bC.bS (bJ:=⟨[(0,.c (dD.ep a0 0)),(3,.c (.ptr 0 0 0)),(9,.c (.val (.int .i64 a1.fK))),(62,.c (.val (.bool ((a1.fK:Int) == 11))))],[.cells (cV.cs a1)],[],0⟩) 0 2 2 [0,3,9,62] [0] rfl (by kernel_rfl) ?_
           refine bC.bH 2 (by kernel_rfl) ?_
           refine Ref.bind (eU:=fun u24=>⟨[(0,.c (dD.ep a0 0)),(3,.c (.ptr 0 0 0)),(9,.c (.val (.int .i64 a1.fK))),(62,.c (.val (.bool u24)))],[.cells (cV.cs a1)],[],0⟩) ?_ (fun u24=>?_)
           ·
            refine Ref.bY (.tmp 62) ((a1.fK:Int) == 11) (by kernel_rfl) rfl (by kernel_rfl) (fun hc=>?_) (fun hc=>?_)
            ·
             refine Ref.bZ (by kernel_rfl) ?_
             exact Ref.nil (t:=(((a1.fK:Int) == 11))) (by kernel_rfl)
            ·
             refine Ref.bG (cd (bd Tryz.f84) [1,0,1,0,1,1,1,1,1,1,1,1,1,1,1,1,0,1,1,0]) (cd (bd Tryz.f84) [1,0,1,0,1,1,1,1,1,1,1,1,1,1,1,1,0,1,1,1]) (by kernel_rfl) ?_
             refine Ref.bD 23 (by kernel_rfl) ?_
             refine bC.bS (bJ:=⟨[(0,.c (dD.ep a0 0)),(3,.c (.ptr 0 0 0)),(9,.c (.val (.int .i64 a1.fK))),(62,.c (.val (.bool ((a1.fK:Int) == 13))))],[.cells (cV.cs a1)],[],0⟩) 0 2 2 [0,3,9,62] [0] rfl (by kernel_rfl) ?_
             refine bC.bH 2 (by kernel_rfl) ?_
             refine Ref.bY (.tmp 62) ((a1.fK:Int) == 13) (by kernel_rfl) rfl (by kernel_rfl) (fun hc=>?_) (fun hc=>?_)
             ·
              refine Ref.bZ (by kernel_rfl) ?_
              exact Ref.nil (t:=(((a1.fK:Int) == 13))) (by kernel_rfl)
             ·
              refine Ref.bD 24 (by kernel_rfl) ?_
              refine bC.bS (bJ:=⟨[(0,.c (dD.ep a0 0)),(3,.c (.ptr 0 0 0)),(9,.c (.val (.int .i64 a1.fK))),(62,.c (.val (.bool ((a1.fK:Int) == 15))))],[.cells (cV.cs a1)],[],0⟩) 0 2 2 [0,3,9,62] [0] rfl (by kernel_rfl) ?_
              refine bC.bH 2 (by kernel_rfl) ?_
              exact Ref.nil (t:=(((a1.fK:Int) == 15))) (by kernel_rfl)
           ·
            refine Ref.bY (.tmp 62) u24 (by kernel_rfl) rfl (by kernel_rfl) (fun hc=>?_) (fun hc=>?_)
            ·
             refine Ref.bG (cd (bd Tryz.f84) [1,0,1,0,1,1,1,1,1,1,1,1,1,1,1,1,1,0,0]) (cd (bd Tryz.f84) [1,0,1,0,1,1,1,1,1,1,1,1,1,1,1,1,1,0,1]) (by kernel_rfl) ?_
             refine Ref.bD 25 (by kernel_rfl) ?_
             refine bC.bS (bJ:=⟨[(66,.c (dD.ep a0 0)),(67,.agg (cV.cs a1))],[],[],0⟩) 0 2 2 [66,67] [] rfl (by kernel_rfl) ?_
             refine bC.cF (t:=68) 2 3 [] rfl (by kernel_rfl) (aD8 K a0 a1) (fun w4=>?_)
             refine bC.bS (bJ:=⟨[(4,.c (.str ([105,105]:Bytes))),(5,.c (.str ([]:Bytes))),(6,.c (.val (.bool w4)))],[],[],0⟩) 3 3 6 [4,5,6] [] rfl (by kernel_rfl) ?_
             refine bC.bH 6 (by kernel_rfl) ?_
             exact Ref.cP (t:=(Sum.inr (([105,105]:Bytes),([]:Bytes),w4))) (by kernel_rfl) (by kernel_rfl)
            ·
             refine Ref.bG (cd (bd Tryz.f84) [1,0,1,0,1,1,1,1,1,1,1,1,1,1,1,1,1,1,0]) (cd (bd Tryz.f84) [1,0,1,0,1,1,1,1,1,1,1,1,1,1,1,1,1,1,1]) (by kernel_rfl) ?_
             refine Ref.bD 26 (by kernel_rfl) ?_
             refine bC.bS (bJ:=⟨[(0,.c (dD.ep a0 0)),(3,.c (.ptr 0 0 0)),(9,.c (.val (.int .i64 a1.fK))),(69,.c (.val (.bool ((a1.fK:Int) == 16))))],[.cells (cV.cs a1)],[],0⟩) 0 2 2 [0,3,9,69] [0] rfl (by kernel_rfl) ?_
             refine bC.bH 2 (by kernel_rfl) ?_
             refine Ref.bY (.tmp 69) ((a1.fK:Int) == 16) (by kernel_rfl) rfl (by kernel_rfl) (fun hc=>?_) (fun hc=>?_)
             ·
              refine Ref.bG (cd (bd Tryz.f84) [1,0,1,0,1,1,1,1,1,1,1,1,1,1,1,1,1,1,1,0,0]) (cd (bd Tryz.f84) [1,0,1,0,1,1,1,1,1,1,1,1,1,1,1,1,1,1,1,0,1]) (by kernel_rfl) ?_
              refine Ref.bD 27 (by kernel_rfl) ?_
              refine bC.bS (bJ:=⟨[(4,.c (.str ([105,105]:Bytes))),(5,.c (.str ([105]:Bytes))),(6,.c (.val (.bool true)))],[],[],0⟩) 0 3 3 [4,5,6] [] rfl (by kernel_rfl) ?_
              refine bC.bH 3 (by kernel_rfl) ?_
              exact Ref.cP (t:=(Sum.inr (([105,105]:Bytes),([105]:Bytes),true))) (by kernel_rfl) (by kernel_rfl)
             ·
              refine Ref.bG (cd (bd Tryz.f84) [1,0,1,0,1,1,1,1,1,1,1,1,1,1,1,1,1,1,1,1,0]) (cd (bd Tryz.f84) [1,0,1,0,1,1,1,1,1,1,1,1,1,1,1,1,1,1,1,1,1]) (by kernel_rfl) ?_
              refine Ref.bG (cd (bd Tryz.f84) [1,0,1,0,1,1,1,1,1,1,1,1,1,1,1,1,1,1,1,1,0,0]) (cd (bd Tryz.f84) [1,0,1,0,1,1,1,1,1,1,1,1,1,1,1,1,1,1,1,1,0,1]) (by kernel_rfl) ?_
              refine Ref.bD 28 (by kernel_rfl) ?_
              refine bC.bS (bJ:=⟨[(0,.c (dD.ep a0 0)),(3,.c (.ptr 0 0 0)),(9,.c (.val (.int .i64 a1.fK))),(71,.c (.val (.bool ((a1.fK:Int) == 17))))],[.cells (cV.cs a1)],[],0⟩) 0 2 2 [0,3,9,71] [0] rfl (by kernel_rfl) ?_
              refine bC.bH 2 (by kernel_rfl) ?_
              refine Ref.bind (eU:=fun u26=>⟨[(0,.c (dD.ep a0 0)),(3,.c (.ptr 0 0 0)),(9,.c (.val (.int .i64 a1.fK))),(71,.c (.val (.bool u26)))],[.cells (cV.cs a1)],[],0⟩) ?_ (fun u26=>?_)
              ·
               refine Ref.bY (.tmp 71) ((a1.fK:Int) == 17) (by kernel_rfl) rfl (by kernel_rfl) (fun hc=>?_) (fun hc=>?_)
               ·
                refine Ref.bZ (by kernel_rfl) ?_
                exact Ref.nil (t:=(((a1.fK:Int) == 17))) (by kernel_rfl)
               ·
                refine Ref.bG (cd (bd Tryz.f84) [1,0,1,0,1,1,1,1,1,1,1,1,1,1,1,1,1,1,1,1,0,1,1,0]) (cd (bd Tryz.f84) [1,0,1,0,1,1,1,1,1,1,1,1,1,1,1,1,1,1,1,1,0,1,1,1]) (by kernel_rfl) ?_
                refine Ref.bD 29 (by kernel_rfl) ?_
                refine bC.bS (bJ:=⟨[(0,.c (dD.ep a0 0)),(3,.c (.ptr 0 0 0)),(9,.c (.val (.int .i64 a1.fK))),(71,.c (.val (.bool ((a1.fK:Int) == 18))))],[.cells (cV.cs a1)],[],0⟩) 0 2 2 [0,3,9,71] [0] rfl (by kernel_rfl) ?_
                refine bC.bH 2 (by kernel_rfl) ?_
                refine Ref.bY (.tmp 71) ((a1.fK:Int) == 18) (by kernel_rfl) rfl (by kernel_rfl) (fun hc=>?_) (fun hc=>?_)
                ·
                 refine Ref.bZ (by kernel_rfl) ?_
                 exact Ref.nil (t:=(((a1.fK:Int) == 18))) (by kernel_rfl)
                ·
                 refine Ref.bD 30 (by kernel_rfl) ?_
                 refine bC.bS (bJ:=⟨[(0,.c (dD.ep a0 0)),(3,.c (.ptr 0 0 0)),(9,.c (.val (.int .i64 a1.fK))),(71,.c (.val (.bool ((a1.fK:Int) == 20))))],[.cells (cV.cs a1)],[],0⟩) 0 2 2 [0,3,9,71] [0] rfl (by kernel_rfl) ?_
                 refine bC.bH 2 (by kernel_rfl) ?_
                 exact Ref.nil (t:=(((a1.fK:Int) == 20))) (by kernel_rfl)
              ·
               refine Ref.bY (.tmp 71) u26 (by kernel_rfl) rfl (by kernel_rfl) (fun hc=>?_) (fun hc=>?_)
               ·
                refine Ref.bG (cd (bd Tryz.f84) [1,0,1,0,1,1,1,1,1,1,1,1,1,1,1,1,1,1,1,1,1,0,0]) (cd (bd Tryz.f84) [1,0,1,0,1,1,1,1,1,1,1,1,1,1,1,1,1,1,1,1,1,0,1]) (by kernel_rfl) ?_
                refine Ref.bD 31 (by kernel_rfl) ?_
                refine bC.bS (bJ:=⟨[(4,.c (.str ([105]:Bytes))),(5,.c (.str ([105]:Bytes))),(6,.c (.val (.bool true)))],[],[],0⟩) 0 3 3 [4,5,6] [] rfl (by kernel_rfl) ?_
                refine bC.bH 3 (by kernel_rfl) ?_
                exact Ref.cP (t:=(Sum.inr (([105]:Bytes),([105]:Bytes),true))) (by kernel_rfl) (by kernel_rfl)
               ·
                refine Ref.bG (cd (bd Tryz.f84) [1,0,1,0,1,1,1,1,1,1,1,1,1,1,1,1,1,1,1,1,1,1,0]) (cd (bd Tryz.f84) [1,0,1,0,1,1,1,1,1,1,1,1,1,1,1,1,1,1,1,1,1,1,1]) (by kernel_rfl) ?_
                refine Ref.bD 32 (by kernel_rfl) ?_
                refine bC.bS (bJ:=⟨[(0,.c (dD.ep a0 0)),(3,.c (.ptr 0 0 0)),(9,.c (.val (.int .i64 a1.fK))),(75,.c (.val (.bool ((a1.fK:Int) == 19))))],[.cells (cV.cs a1)],[],0⟩) 0 2 2 [0,3,9,75] [0] rfl (by kernel_rfl) ?_
                refine bC.bH 2 (by kernel_rfl) ?_
                refine Ref.bY (.tmp 75) ((a1.fK:Int) == 19) (by kernel_rfl) rfl (by kernel_rfl) (fun hc=>?_) (fun hc=>?_)
                ·
                 refine Ref.bG (cd (bd Tryz.f84) [1,0,1,0,1,1,1,1,1,1,1,1,1,1,1,1,1,1,1,1,1,1,1,0,0]) (cd (bd Tryz.f84) [1,0,1,0,1,1,1,1,1,1,1,1,1,1,1,1,1,1,1,1,1,1,1,0,1]) (by kernel_rfl) ?_
                 refine Ref.bD 33 (by kernel_rfl) ?_
                 refine bC.bS (bJ:=⟨[(4,.c (.str ([114,114]:Bytes))),(5,.c (.str ([105]:Bytes))),(6,.c (.val (.bool true)))],[],[],0⟩) 0 3 3 [4,5,6] [] rfl (by kernel_rfl) ?_
                 refine bC.bH 3 (by kernel_rfl) ?_
                 exact Ref.cP (t:=(Sum.inr (([114,114]:Bytes),([105]:Bytes),true))) (by kernel_rfl) (by kernel_rfl)
                ·
                 refine Ref.bG (cd (bd Tryz.f84) [1,0,1,0,1,1,1,1,1,1,1,1,1,1,1,1,1,1,1,1,1,1,1,1,0]) (cd (bd Tryz.f84) [1,0,1,0,1,1,1,1,1,1,1,1,1,1,1,1,1,1,1,1,1,1,1,1,1]) (by kernel_rfl) ?_
                 refine Ref.bD 34 (by kernel_rfl) ?_
                 refine bC.bS (bJ:=⟨[(0,.c (dD.ep a0 0)),(3,.c (.ptr 0 0 0)),(9,.c (.val (.int .i64 a1.fK))),(77,.c (.val (.bool ((a1.fK:Int) == 22))))],[.cells (cV.cs a1)],[],0⟩) 0 2 2 [0,3,9,77] [0] rfl (by kernel_rfl) ?_
                 refine bC.bH 2 (by kernel_rfl) ?_
                 refine Ref.bY (.tmp 77) ((a1.fK:Int) == 22) (by kernel_rfl) rfl (by kernel_rfl) (fun hc=>?_) (fun hc=>?_)
                 ·
                  refine Ref.bG (cd (bd Tryz.f84) [1,0,1,0,1,1,1,1,1,1,1,1,1,1,1,1,1,1,1,1,1,1,1,1,1,0,0]) (cd (bd Tryz.f84) [1,0,1,0,1,1,1,1,1,1,1,1,1,1,1,1,1,1,1,1,1,1,1,1,1,0,1]) (by kernel_rfl) ?_
                  refine Ref.bD 35 (by kernel_rfl) ?_
                  refine bC.bS (bJ:=⟨[(4,.c (.str ([105]:Bytes))),(5,.c (.str ([]:Bytes))),(6,.c (.val (.bool true)))],[],[],0⟩) 0 3 3 [4,5,6] [] rfl (by kernel_rfl) ?_
                  refine bC.bH 3 (by kernel_rfl) ?_
                  exact Ref.cP (t:=(Sum.inr (([105]:Bytes),([]:Bytes),true))) (by kernel_rfl) (by kernel_rfl)
                 ·
                  refine Ref.bG (cd (bd Tryz.f84) [1,0,1,0,1,1,1,1,1,1,1,1,1,1,1,1,1,1,1,1,1,1,1,1,1,1,0]) (cd (bd Tryz.f84) [1,0,1,0,1,1,1,1,1,1,1,1,1,1,1,1,1,1,1,1,1,1,1,1,1,1,1]) (by kernel_rfl) ?_
                  refine Ref.bG (cd (bd Tryz.f84) [1,0,1,0,1,1,1,1,1,1,1,1,1,1,1,1,1,1,1,1,1,1,1,1,1,1,0,0]) (cd (bd Tryz.f84) [1,0,1,0,1,1,1,1,1,1,1,1,1,1,1,1,1,1,1,1,1,1,1,1,1,1,0,1]) (by kernel_rfl) ?_
                  refine Ref.bD 36 (by kernel_rfl) ?_
                  refine bC.bS (bJ:=⟨[(0,.c (dD.ep a0 0)),(3,.c (.ptr 0 0 0)),(9,.c (.val (.int .i64 a1.fK))),(79,.c (.val (.bool ((a1.fK:Int) == 23))))],[.cells (cV.cs a1)],[],0⟩) 0 2 2 [0,3,9,79] [0] rfl (by kernel_rfl) ?_
                  refine bC.bH 2 (by kernel_rfl) ?_
                  refine Ref.bind (eU:=fun u27=>⟨[(0,.c (dD.ep a0 0)),(3,.c (.ptr 0 0 0)),(9,.c (.val (.int .i64 a1.fK))),(79,.c (.val (.bool u27)))],[.cells (cV.cs a1)],[],0⟩) ?_ (fun u27=>?_)
                  ·
                   refine Ref.bY (.tmp 79) ((a1.fK:Int) == 23) (by kernel_rfl) rfl (by kernel_rfl) (fun hc=>?_) (fun hc=>?_)
                   ·
                    refine Ref.bZ (by kernel_rfl) ?_
                    exact Ref.nil (t:=(((a1.fK:Int) == 23))) (by kernel_rfl)
                   ·
                    refine Ref.bG (cd (bd Tryz.f84) [1,0,1,0,1,1,1,1,1,1,1,1,1,1,1,1,1,1,1,1,1,1,1,1,1,1,0,1,1,0]) (cd (bd Tryz.f84) [1,0,1,0,1,1,1,1,1,1,1,1,1,1,1,1,1,1,1,1,1,1,1,1,1,1,0,1,1,1]) (by kernel_rfl) ?_
                    refine Ref.bD 37 (by kernel_rfl) ?_
                    refine bC.bS (bJ:=⟨[(0,.c (dD.ep a0 0)),(3,.c (.ptr 0 0 0)),(9,.c (.val (.int .i64 a1.fK))),(79,.c (.val (.bool ((a1.fK:Int) == 24))))],[.cells (cV.cs a1)],[],0⟩) 0 2 2 [0,3,9,79] [0] rfl (by kernel_rfl) ?_
                    refine bC.bH 2 (by kernel_rfl) ?_
                    refine Ref.bY (.tmp 79) ((a1.fK:Int) == 24) (by kernel_rfl) rfl (by kernel_rfl) (fun hc=>?_) (fun hc=>?_)
                    ·
                     refine Ref.bZ (by kernel_rfl) ?_
                     exact Ref.nil (t:=(((a1.fK:Int) == 24))) (by kernel_rfl)
                    ·
                     refine Ref.bG (cd (bd Tryz.f84) [1,0,1,0,1,1,1,1,1,1,1,1,1,1,1,1,1,1,1,1,1,1,1,1,1,1,0,1,1,1,1,0]) (cd (bd Tryz.f84) [1,0,1,0,1,1,1,1,1,1,1,1,1,1,1,1,1,1,1,1,1,1,1,1,1,1,0,1,1,1,1,1]) (by kernel_rfl) ?_
                     refine Ref.bD 38 (by kernel_rfl) ?_
                     refine bC.bS (bJ:=⟨[(0,.c (dD.ep a0 0)),(3,.c (.ptr 0 0 0)),(9,.c (.val (.int .i64 a1.fK))),(79,.c (.val (.bool ((a1.fK:Int) == 25))))],[.cells (cV.cs a1)],[],0⟩) 0 2 2 [0,3,9,79] [0] rfl (by kernel_rfl) ?_
                     refine bC.bH 2 (by kernel_rfl) ?_
                     refine Ref.bY (.tmp 79) ((a1.fK:Int) == 25) (by kernel_rfl) rfl (by kernel_rfl) (fun hc=>?_) (fun hc=>?_)
                     ·
                      refine Ref.bZ (by kernel_rfl) ?_
                      exact Ref.nil (t:=(((a1.fK:Int) == 25))) (by kernel_rfl)
                     ·
                      refine Ref.bD 39 (by kernel_rfl) ?_
                      refine bC.bS (bJ:=⟨[(0,.c (dD.ep a0 0)),(3,.c (.ptr 0 0 0)),(9,.c (.val (.int .i64 a1.fK))),(79,.c (.val (.bool ((a1.fK:Int) == 26))))],[.cells (cV.cs a1)],[],0⟩) 0 2 2 [0,3,9,79] [0] rfl (by kernel_rfl) ?_
                      refine bC.bH 2 (by kernel_rfl) ?_
                      exact Ref.nil (t:=(((a1.fK:Int) == 26))) (by kernel_rfl)
                  ·
                   refine Ref.bY (.tmp 79) u27 (by kernel_rfl) rfl (by kernel_rfl) (fun hc=>?_) (fun hc=>?_)
                   ·
                    refine Ref.bG (cd (bd Tryz.f84) [1,0,1,0,1,1,1,1,1,1,1,1,1,1,1,1,1,1,1,1,1,1,1,1,1,1,1,0,0]) (cd (bd Tryz.f84) [1,0,1,0,1,1,1,1,1,1,1,1,1,1,1,1,1,1,1,1,1,1,1,1,1,1,1,0,1]) (by kernel_rfl) ?_
                    refine Ref.bD 40 (by kernel_rfl) ?_
                    refine bC.bS (bJ:=⟨[(84,.c (dD.ep a0 0)),(85,.agg (cV.cs a1))],[],[],0⟩) 0 2 2 [84,85] [] rfl (by kernel_rfl) ?_
                    refine bC.cF (t:=86) 2 3 [] rfl (by kernel_rfl) (aGc K a0 a1) (fun oO=>?_)
                    refine bC.bS (bJ:=⟨[(4,.c (.str oO.1)),(5,.c (.str oO.2.1)),(6,.c (.val (.bool oO.2.2)))],[],[],0⟩) 3 6 9 [4,5,6] [] rfl (by kernel_rfl) ?_
                    refine bC.bH 9 (by kernel_rfl) ?_
                    exact Ref.cP (t:=(Sum.inr (oO.1,oO.2.1,oO.2.2))) (by kernel_rfl) (by kernel_rfl)
                   ·
                    refine Ref.bG (cd (bd Tryz.f84) [1,0,1,0,1,1,1,1,1,1,1,1,1,1,1,1,1,1,1,1,1,1,1,1,1,1,1,1,0]) (cd (bd Tryz.f84) [1,0,1,0,1,1,1,1,1,1,1,1,1,1,1,1,1,1,1,1,1,1,1,1,1,1,1,1,1]) (by kernel_rfl) ?_
                    refine Ref.bG (cd (bd Tryz.f84) [1,0,1,0,1,1,1,1,1,1,1,1,1,1,1,1,1,1,1,1,1,1,1,1,1,1,1,1,0,0]) (cd (bd Tryz.f84) [1,0,1,0,1,1,1,1,1,1,1,1,1,1,1,1,1,1,1,1,1,1,1,1,1,1,1,1,0,1]) (by kernel_rfl) ?_
                    refine Ref.bD 41 (by kernel_rfl) ?_
                    refine bC.bS (bJ:=⟨[(0,.c (dD.ep a0 0)),(3,.c (.ptr 0 0 0)),(9,.c (.val (.int .i64 a1.fK))),(90,.c (.val (.bool ((a1.fK:Int) == 27))))],[.cells (cV.cs a1)],[],0⟩) 0 2 2 [0,3,9,90] [0] rfl (by kernel_rfl) ?_
                    refine bC.bH 2 (by kernel_rfl) ?_
                    refine Ref.bind (eU:=fun eE=>⟨[(0,.c (dD.ep a0 0)),(3,.c (.ptr 0 0 0)),(9,.c (.val (.int .i64 a1.fK))),(90,.c (.val (.bool eE)))],[.cells (cV.cs a1)],[],0⟩) ?_ (fun eE=>?_)
                    ·
                     refine Ref.bY (.tmp 90) ((a1.fK:Int) == 27) (by kernel_rfl) rfl (by kernel_rfl) (fun hc=>?_) (fun hc=>?_)
                     ·
                      refine Ref.bZ (by kernel_rfl) ?_
                      exact Ref.nil (t:=(((a1.fK:Int) == 27))) (by kernel_rfl)
                     ·
                      refine Ref.bD 42 (by kernel_rfl) ?_
                      refine bC.bS (bJ:=⟨[(0,.c (dD.ep a0 0)),(3,.c (.ptr 0 0 0)),(9,.c (.val (.int .i64 a1.fK))),(90,.c (.val (.bool ((a1.fK:Int) == 28))))],[.cells (cV.cs a1)],[],0⟩) 0 2 2 [0,3,9,90] [0] rfl (by kernel_rfl) ?_
                      refine bC.bH 2 (by kernel_rfl) ?_
                      exact Ref.nil (t:=(((a1.fK:Int) == 28))) (by kernel_rfl)
                    ·
                     refine Ref.bY (.tmp 90) eE (by kernel_rfl) rfl (by kernel_rfl) (fun hc=>?_) (fun hc=>?_)
                     ·
                      refine Ref.bG (cd (bd Tryz.f84) [1,0,1,0,1,1,1,1,1,1,1,1,1,1,1,1,1,1,1,1,1,1,1,1,1,1,1,1,1,0,0]) (cd (bd Tryz.f84) [1,0,1,0,1,1,1,1,1,1,1,1,1,1,1,1,1,1,1,1,1,1,1,1,1,1,1,1,1,0,1]) (by kernel_rfl) ?_
                      refine Ref.bD 43 (by kernel_rfl) ?_
                      refine bC.bS (bJ:=⟨[(0,.c (dD.ep a0 0)),(3,.c (.ptr 0 0 0)),(7,.c (.val (.int .i64 (Int.ofNat a0.bP.bE.length))))],[.cells (cV.cs a1)],[],0⟩) 0 7 7 [0,3,7] [0] rfl (by kernel_rfl) ?_
                      refine bC.bH 7 (by kernel_rfl) ?_
                      refine Ref.bG (cd (bd Tryz.f84) [1,0,1,0,1,1,1,1,1,1,1,1,1,1,1,1,1,1,1,1,1,1,1,1,1,1,1,1,1,0,1,0]) (cd (bd Tryz.f84) [1,0,1,0,1,1,1,1,1,1,1,1,1,1,1,1,1,1,1,1,1,1,1,1,1,1,1,1,1,0,1,1]) (by kernel_rfl) ?_
                      refine Ref.bG (cd (bd Tryz.f84) [1,0,1,0,1,1,1,1,1,1,1,1,1,1,1,1,1,1,1,1,1,1,1,1,1,1,1,1,1,0,1,0,0]) (cd (bd Tryz.f84) [1,0,1,0,1,1,1,1,1,1,1,1,1,1,1,1,1,1,1,1,1,1,1,1,1,1,1,1,1,0,1,0,1]) (by kernel_rfl) ?_
                      refine Ref.bD 44 (by kernel_rfl) ?_
                      refine bC.bS (bJ:=⟨[(0,.c (dD.ep a0 0)),(3,.c (.ptr 0 0 0)),(7,.c (.val (.int .i64 (Int.ofNat a0.bP.bE.length)))),(101,.c (.val (.bool ((a1.fA:Int) == 1))))],[.cells (cV.cs a1)],[],0⟩) 0 3 3 [0,3,7,101] [0] rfl (by kernel_rfl) ?_
                      refine bC.bH 3 (by kernel_rfl) ?_
                      refine Ref.bind (eU:=fun wX=>⟨[(3,.c (.ptr 0 0 0)),(7,.c (.val (.int .i64 wX)))],[.cells (cV.cs a1)],[],0⟩) ?_ (fun wX=>?_)
                      ·
                       refine Ref.bY (.tmp 101) ((a1.fA:Int) == 1) (by kernel_rfl) rfl (by kernel_rfl) (fun hc=>?_) (fun hc=>?_)
                       ·
                        refine Ref.bD 45 (by kernel_rfl) ?_
                        refine bC.bS (bJ:=⟨[(3,.c (.ptr 0 0 0)),(7,.c (.val (.int .i64 (Int.ofNat a0.bP.bR.length))))],[.cells (cV.cs a1)],[],0⟩) 0 7 7 [3,7] [0] rfl (by kernel_rfl) ?_
                        refine bC.bH 7 (by kernel_rfl) ?_
                        exact Ref.nil (t:=((Int.ofNat a0.bP.bR.length))) (by kernel_rfl)
                       ·
                        refine Ref.bZ (by kernel_rfl) ?_
                        refine Ref.conv (Conv.keep (bJ:=⟨[(3,.c (.ptr 0 0 0)),(7,.c (.val (.int .i64 (Int.ofNat a0.bP.bE.length))))],[.cells (cV.cs a1)],[],0⟩) [3,7] [0] (by kernel_rfl)) ?_
                        exact Ref.nil (t:=((Int.ofNat a0.bP.bE.length))) (by kernel_rfl)
                      ·
                       refine Ref.bG (cd (bd Tryz.f84) [1,0,1,0,1,1,1,1,1,1,1,1,1,1,1,1,1,1,1,1,1,1,1,1,1,1,1,1,1,0,1,1,0]) (cd (bd Tryz.f84) [1,0,1,0,1,1,1,1,1,1,1,1,1,1,1,1,1,1,1,1,1,1,1,1,1,1,1,1,1,0,1,1,1]) (by kernel_rfl) ?_
                       refine Ref.eS 46 (by kernel_rfl) (by kernel_rfl) ?_
                       refine eD.eT (bJ:=⟨[(4,.c (.str ([114]:Bytes))),(5,.c (.str ([114]:Bytes))),(108,.c (.ptr 0 0 2)),(110,.c (.val (.int .i64 wX)))],[.cells (cV.cs a1)],[],0⟩) (fuel':=3) [0,2,4,5] [4,5,108,110] [0] rfl (by kernel_rfl) (by kernel_rfl) ?_
                       refine eD.tail [1,3,6] rfl (by kernel_rfl) ?_
                       refine bC.bS (bJ:=⟨[(4,.c (.str ([114]:Bytes))),(5,.c (.str ([114]:Bytes))),(6,.c (.val (.bool (decide ((a1.fB:Int)<wX)))))],[],[],0⟩) 0 3 3 [4,5,6] [] rfl (by kernel_rfl) ?_
                       refine bC.bH 3 (by kernel_rfl) ?_
                       exact Ref.cP (t:=(Sum.inr (([114]:Bytes),([114]:Bytes),(decide ((a1.fB:Int)<wX))))) (by kernel_rfl) (by kernel_rfl)
                     ·
                      refine Ref.bG (cd (bd Tryz.f84) [1,0,1,0,1,1,1,1,1,1,1,1,1,1,1,1,1,1,1,1,1,1,1,1,1,1,1,1,1,1,0]) (cd (bd Tryz.f84) [1,0,1,0,1,1,1,1,1,1,1,1,1,1,1,1,1,1,1,1,1,1,1,1,1,1,1,1,1,1,1]) (by kernel_rfl) ?_
                      refine Ref.bD 47 (by kernel_rfl) ?_
                      refine bC.bS (bJ:=⟨[(0,.c (dD.ep a0 0)),(3,.c (.ptr 0 0 0)),(9,.c (.val (.int .i64 a1.fK))),(112,.c (.val (.bool ((a1.fK:Int) == 29))))],[.cells (cV.cs a1)],[],0⟩) 0 2 2 [0,3,9,112] [0] rfl (by kernel_rfl) ?_
                      refine bC.bH 2 (by kernel_rfl) ?_
                      refine Ref.bY (.tmp 112) ((a1.fK:Int) == 29) (by kernel_rfl) rfl (by kernel_rfl) (fun hc=>?_) (fun hc=>?_)
                      ·
                       refine Ref.bG (cd (bd Tryz.f84) [1,0,1,0,1,1,1,1,1,1,1,1,1,1,1,1,1,1,1,1,1,1,1,1,1,1,1,1,1,1,1,0,0]) (cd (bd Tryz.f84) [1,0,1,0,1,1,1,1,1,1,1,1,1,1,1,1,1,1,1,1,1,1,1,1,1,1,1,1,1,1,1,0,1]) (by kernel_rfl) ?_
                       refine Ref.eS 48 (by kernel_rfl) (by kernel_rfl) ?_
                       refine eD.eT (bJ:=⟨[(4,.c (.str ([]:Bytes))),(5,.c (.str ([]:Bytes))),(117,.c (dD.ep a0 15))],[],[],0⟩) (fuel':=3) [0,1,2,3,6,7] [4,5,117] [] rfl (by kernel_rfl) (by kernel_rfl) ?_
                       refine eD.tail [4,5,8] rfl (by kernel_rfl) ?_
                       refine bC.bS (bJ:=⟨[(4,.c (.str ([]:Bytes))),(5,.c (.str ([]:Bytes))),(6,.c (.val (.bool (!a0.fc.dK))))],[],[],0⟩) 0 3 3 [4,5,6] [] rfl (by kernel_rfl) ?_
                       refine bC.bH 3 (by kernel_rfl) ?_
                       exact Ref.cP (t:=(Sum.inr (([]:Bytes),([]:Bytes),(!a0.fc.dK)))) (by kernel_rfl) (by kernel_rfl)
                      ·
                       refine Ref.bG (cd (bd Tryz.f84) [1,0,1,0,1,1,1,1,1,1,1,1,1,1,1,1,1,1,1,1,1,1,1,1,1,1,1,1,1,1,1,1,0]) (cd (bd Tryz.f84) [1,0,1,0,1,1,1,1,1,1,1,1,1,1,1,1,1,1,1,1,1,1,1,1,1,1,1,1,1,1,1,1,1]) (by kernel_rfl) ?_
                       refine Ref.bD 49 (by kernel_rfl) ?_
                       refine bC.bS (bJ:=⟨[(0,.c (dD.ep a0 0)),(3,.c (.ptr 0 0 0)),(9,.c (.val (.int .i64 a1.fK))),(120,.c (.val (.bool ((a1.fK:Int) == 30))))],[.cells (cV.cs a1)],[],0⟩) 0 2 2 [0,3,9,120] [0] rfl (by kernel_rfl) ?_
                       refine bC.bH 2 (by kernel_rfl) ?_
                       refine Ref.bY (.tmp 120) ((a1.fK:Int) == 30) (by kernel_rfl) rfl (by kernel_rfl) (fun hc=>?_) (fun hc=>?_)
                       ·
                        refine Ref.bG (cd (bd Tryz.f84) [1,0,1,0,1,1,1,1,1,1,1,1,1,1,1,1,1,1,1,1,1,1,1,1,1,1,1,1,1,1,1,1,1,0,0]) (cd (bd Tryz.f84) [1,0,1,0,1,1,1,1,1,1,1,1,1,1,1,1,1,1,1,1,1,1,1,1,1,1,1,1,1,1,1,1,1,0,1]) (by kernel_rfl) ?_
                        refine Ref.eS 50 (by kernel_rfl) (by kernel_rfl) ?_
                        refine eD.eT (bJ:=⟨[(4,.c (.str ([105]:Bytes))),(5,.c (.str ([]:Bytes))),(125,.c (dD.ep a0 15))],[],[],0⟩) (fuel':=2) [0,1,2,3,5,6] [4,5,125] [] rfl (by kernel_rfl) (by kernel_rfl) ?_
                        refine eD.tail [4,7] rfl (by kernel_rfl) ?_
                        refine bC.bS (bJ:=⟨[(4,.c (.str ([105]:Bytes))),(5,.c (.str ([]:Bytes))),(6,.c (.val (.bool a0.fc.dK)))],[],[],0⟩) 0 2 2 [4,5,6] [] rfl (by kernel_rfl) ?_
                        refine bC.bH 2 (by kernel_rfl) ?_
                        exact Ref.cP (t:=(Sum.inr (([105]:Bytes),([]:Bytes),a0.fc.dK))) (by kernel_rfl) (by kernel_rfl)
                       ·
                        refine Ref.bG (cd (bd Tryz.f84) [1,0,1,0,1,1,1,1,1,1,1,1,1,1,1,1,1,1,1,1,1,1,1,1,1,1,1,1,1,1,1,1,1,1,0]) (cd (bd Tryz.f84) [1,0,1,0,1,1,1,1,1,1,1,1,1,1,1,1,1,1,1,1,1,1,1,1,1,1,1,1,1,1,1,1,1,1,1]) (by kernel_rfl) ?_
                        refine Ref.bD 51 (by kernel_rfl) ?_
                        refine bC.bS (bJ:=⟨[(0,.c (dD.ep a0 0)),(3,.c (.ptr 0 0 0)),(127,.c (.val (.bool ((a1.fK:Int) == 31))))],[.cells (cV.cs a1)],[],0⟩) 0 2 2 [0,3,127] [0] rfl (by kernel_rfl) ?_
                        refine bC.bH 2 (by kernel_rfl) ?_
                        refine Ref.bY (.tmp 127) ((a1.fK:Int) == 31) (by kernel_rfl) rfl (by kernel_rfl) (fun hc=>?_) (fun hc=>?_)
                        ·
                         refine Ref.bG (cd (bd Tryz.f84) [1,0,1,0,1,1,1,1,1,1,1,1,1,1,1,1,1,1,1,1,1,1,1,1,1,1,1,1,1,1,1,1,1,1,1,0,0]) (cd (bd Tryz.f84) [1,0,1,0,1,1,1,1,1,1,1,1,1,1,1,1,1,1,1,1,1,1,1,1,1,1,1,1,1,1,1,1,1,1,1,0,1]) (by kernel_rfl) ?_
                         refine Ref.eS 52 (by kernel_rfl) (by kernel_rfl) ?_
                         refine eD.eT (bJ:=⟨[(4,.c (.str ([105,105]:Bytes))),(5,.c (.str ([]:Bytes))),(129,.c (.ptr 0 0 1)),(134,.c (dD.ep a0 6))],[.cells (cV.cs a1)],[],0⟩) (fuel':=5) [0,2,3,4,5,9,10] [4,5,129,134] [0] rfl (by kernel_rfl) (by kernel_rfl) ?_
                         refine eD.nN [] ?_
                         refine cI.eT (bJ:=⟨[(4,.c (.str ([105,105]:Bytes))),(5,.c (.str ([]:Bytes))),(6,.c (.val (.bool (decide ((a1.fA:Int)<(Int.ofNat a0.bP.bQ.length))))))],[],[],0⟩) (fuel':=0) [1,6,7,8,11] [4,5,6] [] rfl (by kernel_rfl) (by kernel_rfl) ?_
                         refine cI.c7 (eM:=fun pP=>⟨[(4,.c (.str ([105,105]:Bytes))),(5,.c (.str ([]:Bytes))),(6,.c (.val (.bool pP)))],[],[],0⟩) (by kernel_rfl) (fun pP=>?_)
                         refine cI.done (by kernel_rfl) ?_
                         exact Ref.cP (t:=(Sum.inr (([105,105]:Bytes),([]:Bytes),pP))) (by kernel_rfl) (by kernel_rfl)
                        ·
                         refine Ref.bZ (by kernel_rfl) ?_
                         refine Ref.conv (Conv.keep (bJ:=⟨[],[],[],0⟩) [] [] (by kernel_rfl)) ?_
                         exact Ref.nil (t:=()) (by kernel_rfl)
 ·
  refine Ref.bG (cd (bd Tryz.f84) [1,1,0]) (cd (bd Tryz.f84) [1,1,1]) (by kernel_rfl) ?_
  refine Ref.bD 53 (by kernel_rfl) ?_
  refine bC.bS (bJ:=⟨[(4,.c (.str ([]:Bytes))),(5,.c (.str ([]:Bytes))),(6,.c (.val (.bool true)))],[],[],0⟩) 0 3 3 [4,5,6] [] rfl (by kernel_rfl) ?_
  refine bC.bH 3 (by kernel_rfl) ?_
  exact Ref.cP (t:=(([]:Bytes),([]:Bytes),true)) (by kernel_rfl) (by kernel_rfl)
end Go.Proofs.YtngjamedgphjiaaGreatDoor
