/- No conditions. -/
import Derived.Test.YtidjangjfekfjaaGreatDoorTyA
import Derived.Test.YtidjangjfekfjaaGreatDoorProg
set_option linter.unusedVariables false
set_option linter.unusedSimpArgs false
set_option linter.unusedSectionVars false
namespace Go.Proofs.YtidjangjfekfjaaGreatDoor
open Go Go.Proofs Go.Dl
variable [fT]
set_option maxRecDepth 100000
set_option maxHeartbeats 4000000
def F41 (K:Nat) (a0:Int) (a1:Int):Option ((mF) ⊕ (mF)) :=
 (some (.inl ([(a0,a1)])))
theorem tM (K:Nat) (a0:Int) (a1:Int):cQ Tryz.prog 41 [.c (.val (.int .i64 a0)),.c (.val (.int .i64 a1))] [] (b5 (F41 K a0 a1)) (fun r=>.c (fH r)) (fun r=>[]):=by
 refine cQ.it Tryz.f41 (fun r=>⟨[(4,.c (fH r))],[],[],0⟩) ?_
 unfold F41
 exact Ref.fG 0 1 [0,1] [] (Ref.sn 1 6 ⟨[(4,.c (.iface true 96 (.ptr 0 0 0)))],[.cells [iC a0,iC a1,.val .nilIface]],[],0⟩ [4] [0] (Ref.conv (Conv.freeze (cR:=⟨[(4,.c (fH [(a0,a1)]))],[.dead],[],0⟩) 0 (by kernel_rfl)) (Ref.ck ⟨[(4,.c (fH [(a0,a1)]))],[],[],0⟩ [4] [] Ref.rt)))
def F24 (K:Nat) (a0:cV):Option ((fS) ⊕ (fS)) :=
 (cY (decide ((a0.fi:Int) ≥ (Int.ofNat a0.bZ.length))) (fun (x1:Bool)=>(if x1=true then (some (.inl ((⟨0,([]:Bytes),0,a0.lT⟩:fS)))) else (fI [jL a0.fi a0.bZ.length] (some (.inl ((a0.bZ.getD (a0.fi:Int).toNat default))))))))
theorem tN (K:Nat) (a0:cV):cQ Tryz.prog 24 [.c (cL.ep a0 0)] [] (b5 (F24 K a0)) (fun r=>.agg (eN.cs r)) (fun r=>[eN.o r]):=by
 refine cQ.it Tryz.f24 (fun r=>⟨[sP 2 0 0 0],[eN.o r],[],0⟩) ?_
 unfold F24
 exact Ref.fG 0 1 [0,2] [0] (Ref.sq (Ref.sq (Ref.fL 1 (by kernel_rfl) (by kernel_rfl) (eZ.iH (cR:=⟨[(0,.c (cL.ep a0 0)),sP 2 0 0 0,(5,.c (cL.ep a0 1)),(9,.c (cL.ep a0 0))],[oX5],[],0⟩) (fuel':=4) [0,1,2,4,5,6] [0,2,5,9] [0] rfl (by kernel_rfl) (by kernel_rfl) (eZ.uH [] (cJ.iH (cR:=⟨[(0,.c (cL.ep a0 0)),sP 2 0 0 0,sB 12 (decide ((a0.fi:Int) ≥ (Int.ofNat a0.bZ.length)))],[oX5],[],0⟩) (fuel':=0) [3,7,8,9] [0,2,12] [0] rfl (by kernel_rfl) (by kernel_rfl) (cJ.eX (iF:=fun x1=>⟨[(0,.c (cL.ep a0 0)),sP 2 0 0 0,sB 12 x1],[oX5],[],0⟩) (by kernel_rfl) (fun x1=>cJ.done (by kernel_rfl) (Ref.cn (.tmp 12) x1 (fun hc=>Ref.fG 2 6 [2] [0] Ref.rt) (fun hc=>Ref.sk (Ref.sq (Ref.fL 3 (by kernel_rfl) (by kernel_rfl) (eZ.iH (cR:=⟨[sP 2 0 0 0,(20,.c (cL.ep a0 0)),(24,.c (cL.ep a0 1))],[oX5],[],0⟩) (fuel':=5) [0,1,2,4,5,6] [2,20,24] [0] rfl (by kernel_rfl) (by kernel_rfl) (eZ.uH [10] (cJ.nR (vs:=[jL a0.fi a0.bZ.length]) (cR:=⟨[sP 2 0 0 0,(27,.agg (eN.cs (gd a0.bZ a0.fi)))],[oX5],[],0⟩) (fuel':=1) [3,7,8,9] [2,27] [0] rfl (by kernel_rfl) (by kernel_rfl) (cJ.aEd [10] rfl (by kernel_rfl) (bY.s7 0 1 [2] [0] Ref.rt)))))))))))))))))
def F17 (K:Nat) (a0:cV):Option ((Bool) ⊕ (Bool)) :=
 (some (.inl ((!tF a0.j9))))
theorem tQ (K:Nat) (a0:cV):cQ Tryz.prog 17 [.c (cL.ep a0 0)] [] (b5 (F17 K a0)) (fun r=>.c (.val (.bool r))) (fun r=>[]):=by
 refine cQ.it Tryz.f17 (fun r=>⟨[sB 2 r],[],[],0⟩) ?_
 unfold F17
 exact Ref.fG 0 1 [0] [] (Ref.sn 1 6 ⟨[sB 2 (!tF a0.j9)],[],[],0⟩ [2] [] Ref.rt)
def F40 (K:Nat) (a0:(List Bytes)) (a1:Bytes):Option ((Int) ⊕ (Int)) :=
 (cO (cN ((iter K (fun (u12:Int)=>(cY (decide ((u12:Int)<(Int.ofNat a0.length))) (fun (x16:Bool)=>(if x16=true then (cO (cN (fI [jL u12 a0.length] (if (a1 == (a0.getD (u12:Int).toNat default))=true then (some (.inl (Sum.inr (Sum.inr (u12))))) else (some (.inr ()))))) (fun (u17:Unit)=>(some (.inr ((IntKind.i64.wrap (u12+1))))))) else (some (.inl (Sum.inl ()))))))) (0)).map .inl)) (fun (u9:Unit)=>(some (.inl ((-1))))))
theorem aAH (K:Nat) (a0:(List Bytes)) (a1:Bytes):cQ Tryz.prog 40 [.c (E9.tree a0),.c (.str a1)] [] (b5 (F40 K a0 a1)) (fun r=>.c (.val (.int .i64 r))) (fun r=>[]):=by
 refine cQ.it Tryz.f40 (fun r=>⟨[sI 4 r],[],[],0⟩) ?_
 unfold F40
 exact Ref.fG 0 1 [0,1] [] (Ref.sq (Ref.sn 1 3 ⟨[(0,.c (E9.tree a0)),sS 1 a1,sI 7 (Int.ofNat a0.length),sI 8 0],[],[],0⟩ [0,1,7,8] [] (Ref.ce (.block 0 (cd (bd Tryz.f40) [1,0,1,0])) (Ref.block (fK:=fun u9=>⟨[],[],[],0⟩) (Ref.ce (.loop (cd (bd Tryz.f40) [1,0,1,0,0])) (Ref.loop (hd:=fun u12=>⟨[(0,.c (E9.tree a0)),sS 1 a1,sI 7 (Int.ofNat a0.length),sI 8 u12],[],[],0⟩) K (0) (by kernel_rfl) (fun u12=>Ref.s0 2 1 ⟨[(0,.c (E9.tree a0)),sS 1 a1,sI 7 (Int.ofNat a0.length),sI 8 u12,sB 9 (decide ((u12:Int)<(Int.ofNat a0.length)))],[],[],0⟩ [0,1,7,8,9] [] (bY.eX (iF:=fun x16=>⟨[(0,.c (E9.tree a0)),sS 1 a1,sI 7 (Int.ofNat a0.length),sI 8 u12,sB 9 x16],[],[],0⟩) (by kernel_rfl) (fun x16=>bY.nl 1 (Ref.sq (Ref.cn (.tmp 9) x16 (fun hc=>Ref.sk (Ref.sq (Ref.ce (.block 1 (cd (bd Tryz.f40) [1,0,1,0,0,1,1,0,0])) (Ref.block (fK:=fun u17=>⟨[(0,.c (E9.tree a0)),sS 1 a1,sI 7 (Int.ofNat a0.length),sI 8 u12],[],[],0⟩) (Ref.fG 3 2 [0,1,5,7,8] [] (Ref.sr 4 (bY.nR (vs:=[jL u12 a0.length]) (cR:=⟨[(0,.c (E9.tree a0)),sS 1 a1,sI 5 u12,sI 7 (Int.ofNat a0.length),sI 8 u12,sB 16 (a1 == (gd a0 u12))],[],[],0⟩) 0 6 6 [0,1,5,7,8,16] [] rfl (by kernel_rfl) (bY.nl 6 (Ref.cn (.tmp 16) (a1 == (gd a0 u12)) (fun hc=>Ref.sn 5 2 ⟨[sI 4 u12],[],[],0⟩ [4] [] Ref.rt) (fun hc=>Ref.sk (Ref.kn [0,1,7,8] []))))))) (fun a=>match a with | .inl _=>(fun h=>by cases h) | .inr _=>(fun h=>by cases h)) (fun u17=>Ref.rn 6 (bY.s7 0 2 [0,1,7,8] [] Ref.n0)))))) (fun hc=>Ref.kx 0 [] [])))))))) (fun _ h=>by cases h) (fun u9=>Ref.fG 7 1 [4] [] Ref.rt)))))
def F50 (K:Nat) (a0:(List Bytes)) (a1:Bytes):Option ((Bool) ⊕ (Bool)) :=
 ((b5 (F40 K a0 a1)).bind (fun r1=>(some (.inl ((decide ((r1:Int) ≥ 0)))))))
theorem aIV (K:Nat) (a0:(List Bytes)) (a1:Bytes):cQ Tryz.prog 50 [.c (E9.tree a0),.c (.str a1)] [] (b5 (F50 K a0 a1)) (fun r=>.c (.val (.bool r))) (fun r=>[]):=by
 refine cQ.it Tryz.f50 (fun r=>⟨[sB 4 r],[],[],0⟩) ?_
 unfold F50
 exact Ref.fG 0 1 [0,1] [] (Ref.sc 1 2 [5,6] [] 7 [] (aAH K a0 a1) (fun r1=>bY.en 3 2 ⟨[sB 4 (decide ((r1:Int) ≥ 0))],[],[],0⟩ [4] [] Ref.rt))
def oF (K:Nat) (a0:cV) (a1:(List Bytes)):Option ((Bool) ⊕ (Bool)) :=
 ((b5 (F24 K a0)).bind (fun r1=>((b5 (F17 K a0)).bind (fun r2=>(cY (r2 && (((r1.b9:Int) == 2) || ((r1.b9:Int) == 4))) (fun (x3:Bool)=>((cX x3 (b5 (F50 K a1 r1.eG)) default).bind (fun r4=>(some (.inl ((x3 && r4))))))))))))
theorem iV (K:Nat) (a0:cV) (a1:(List Bytes)):cQ Tryz.prog 22 [.c (cL.ep a0 0),.c (E9.tree a1)] [] (b5 (oF K a0 a1)) (fun r=>.c (.val (.bool r))) (fun r=>[]):=by
 refine cQ.it Tryz.f22 (fun r=>⟨[sB 4 r],[],[],0⟩) ?_
 unfold oF
 exact Ref.fG 0 1 [0,1] [] (Ref.sc 1 1 [0,1,6] [] 7 [] (tN K a0) (fun r1=>bY.en 2 2 ⟨[(0,.c (cL.ep a0 0)),(1,.c (E9.tree a1)),sP 5 0 0 0],[eN.o r1],[],0⟩ [0,1,5] [1] (Ref.sc 2 1 [1,5,8] [0] 9 [] (tQ K a0) (fun r2=>bY.e0 (cR:=⟨[sB 20 (r2 && (((r1.b9:Int) == 2) || ((r1.b9:Int) == 4))),(21,.c (E9.tree a1)),sS 23 r1.eG],[],[(23,[(20,true)]),(21,[(20,true)])],0⟩) 2 14 16 [20,21,23] [] (bY.eX (iF:=fun x3=>⟨[sB 20 x3,(21,.c (E9.tree a1)),sS 23 r1.eG],[],[(23,[(20,true)]),(21,[(20,true)])],0⟩) (by kernel_rfl) (fun x3=>bY.eF (t:=24) (g:=[(20,true)]) (b:=x3) 16 17 [] (default:Bool) rfl (by kernel_rfl) (aIV K a1 r1.eG) (fun _=>rfl) (fun r4=>bY.en 17 2 ⟨[sB 4 (x3 && r4)],[],[],0⟩ [4] [] Ref.rt)))))))
def F66 (K:Nat) (a0:cV) (a1:Int):Option ((Bool) ⊕ (Bool)) :=
 ((b5 (F17 K a0)).bind (fun r1=>((cX r1 (b5 (F24 K a0)) default).bind (fun r2=>(some (.inl ((r1 && ((r2.b9:Int) == a1)))))))))
theorem pU (K:Nat) (a0:cV) (a1:Int):cQ Tryz.prog 66 [.c (cL.ep a0 0),.c (.val (.int .i64 a1))] [] (b5 (F66 K a0 a1)) (fun r=>.c (.val (.bool r))) (fun r=>[]):=by
 refine cQ.it Tryz.f66 (fun r=>⟨[sB 4 r],[],[],0⟩) ?_
 unfold F66
 exact Ref.fG 0 1 [0,1] [] (Ref.sc 1 1 [0,1,5] [] 6 [] (tQ K a0) (fun r1=>bY.e1 2 2 4 [1,7,8] [] (bY.eF (t:=9) (g:=[(7,true)]) (b:=r1) 4 5 [] (default:fS) rfl (by kernel_rfl) (cQ.forget (tN K a0) (fun _=>rfl)) (fun _=>rfl) (fun r2=>bY.en 5 5 ⟨[sB 4 (r1 && ((r2.b9:Int) == a1))],[],[],0⟩ [4] [] Ref.rt))))
def zQ (K:Nat) (a0:cV):Option ((Bool) ⊕ (Bool)) :=
 ((b5 (oF K a0 ([[45]]:List Bytes))).bind (fun r1=>((cX (!r1) (b5 (F66 K a0 3)) default).bind (fun r2=>(some (.inl ((r1 || r2))))))))
theorem aFn (K:Nat) (a0:cV):cQ Tryz.prog 106 [.c (cL.ep a0 0)] [] (b5 (zQ K a0)) (fun r=>.c (.val (.bool r))) (fun r=>[]):=by
 refine cQ.it Tryz.f106 (fun r=>⟨[sB 2 r],[],[],0⟩) ?_
 unfold zQ
 exact Ref.fG 0 1 [0] [] (Ref.s0 1 1 ⟨[(0,.c (cL.ep a0 0)),(3,.c (cL.ep a0 0))],[],[],0⟩ [0,3] [] (bY.li 4 [] E9 ([[45]]:List Bytes) 1 2 (bY.cc 5 2 3 [] (iV K a0 ([[45]]:List Bytes)) (fun r1=>bY.e1 3 2 5 [6,7] [] (bY.eF (t:=8) (g:=[(6,false)]) (b:=(!r1)) 5 6 [] (default:Bool) rfl (by kernel_rfl) (pU K a0 3) (fun _=>rfl) (fun r2=>bY.en 6 2 ⟨[sB 2 (r1 || r2)],[],[],0⟩ [2] [] Ref.rt))))))
def aBv (K:Nat) (a0:cV):Option ((Bool) ⊕ (Bool)) :=
 ((b5 (F66 K a0 1)).bind (fun r1=>((cX (!r1) (b5 (oF K a0 ([[84,72,73,83],[83,85,80,69,82],[73,70],[67,65,83,69],[87,72,73,76,69],[70,79,82],[82,69,84,85,82,78],[69,88,73,84],[83,84,69,80]]:List Bytes))) default).bind (fun r2=>(some (.inl ((r1 || r2))))))))
theorem aKC (K:Nat) (a0:cV):cQ Tryz.prog 105 [.c (cL.ep a0 0)] [] (b5 (aBv K a0)) (fun r=>.c (.val (.bool r))) (fun r=>[]):=by
 refine cQ.it Tryz.f105 (fun r=>⟨[sB 2 r],[],[],0⟩) ?_
 unfold aBv
 exact Ref.fG 0 1 [0] [] (Ref.sc 1 1 [0,3] [] 4 [] (pU K a0 1) (fun r1=>bY.e0 (cR:=⟨[sB 5 r1,(6,.c (cL.ep a0 0))],[],[(6,[(5,false)])],0⟩) 2 2 4 [5,6] [] (bY.li 7 [(5,false)] E9 ([[84,72,73,83],[83,85,80,69,82],[73,70],[67,65,83,69],[87,72,73,76,69],[70,79,82],[82,69,84,85,82,78],[69,88,73,84],[83,84,69,80]]:List Bytes) 4 5 (bY.eF (t:=8) (g:=[(5,false)]) (b:=(!r1)) 5 6 [] (default:Bool) rfl (by kernel_rfl) (iV K a0 ([[84,72,73,83],[83,85,80,69,82],[73,70],[67,65,83,69],[87,72,73,76,69],[70,79,82],[82,69,84,85,82,78],[69,88,73,84],[83,84,69,80]]:List Bytes)) (fun _=>rfl) (fun r2=>bY.en 6 2 ⟨[sB 2 (r1 || r2)],[],[],0⟩ [2] [] Ref.rt)))))
def F35 (K:Nat) (a0:cV):Option ((Bool) ⊕ (Bool)) :=
 ((b5 (F66 K a0 1)).bind (fun r1=>((cX (!r1) (b5 (F66 K a0 3)) default).bind (fun r2=>((cX (!(r1 || r2)) (b5 (oF K a0 ([[84,82,85,69],[70,65,76,83,69],[78,85,76,76],[84,72,73,83],[83,85,80,69,82],[82,69,70],[68,79,78,69],[67,79,85,78,84],[65,83],[40]]:List Bytes))) default).bind (fun r3=>(some (.inl (((r1 || r2) || r3))))))))))
theorem aNp (K:Nat) (a0:cV):cQ Tryz.prog 35 [.c (cL.ep a0 0)] [] (b5 (F35 K a0)) (fun r=>.c (.val (.bool r))) (fun r=>[]):=by
 refine cQ.it Tryz.f35 (fun r=>⟨[sB 2 r],[],[],0⟩) ?_
 unfold F35
 exact Ref.fG 0 1 [0] [] (Ref.sc 1 1 [0,3] [] 4 [] (pU K a0 1) (fun r1=>bY.e1 2 2 4 [0,5,6] [] (bY.eF (t:=7) (g:=[(5,false)]) (b:=(!r1)) 4 5 [] (default:Bool) rfl (by kernel_rfl) (pU K a0 3) (fun _=>rfl) (fun r2=>bY.e0 (cR:=⟨[sB 9 (r1 || r2),(10,.c (cL.ep a0 0))],[],[(10,[(9,false)])],0⟩) 5 3 8 [9,10] [] (bY.li 11 [(9,false)] E9 ([[84,82,85,69],[70,65,76,83,69],[78,85,76,76],[84,72,73,83],[83,85,80,69,82],[82,69,70],[68,79,78,69],[67,79,85,78,84],[65,83],[40]]:List Bytes) 8 9 (bY.eF (t:=12) (g:=[(9,false)]) (b:=(!(r1 || r2))) 9 10 [] (default:Bool) rfl (by kernel_rfl) (iV K a0 ([[84,82,85,69],[70,65,76,83,69],[78,85,76,76],[84,72,73,83],[83,85,80,69,82],[82,69,70],[68,79,78,69],[67,79,85,78,84],[65,83],[40]]:List Bytes)) (fun _=>rfl) (fun r3=>bY.en 10 2 ⟨[sB 2 ((r1 || r2) || r3)],[],[],0⟩ [2] [] Ref.rt)))))))
def F16 (K:Nat) (a0:cV) (a1:Int):Option ((cV) ⊕ (cV)) :=
 (if (!tF a0.j9)=true then ((cX true (b5 (F24 K a0)) default).bind (fun r1=>((b5 (F41 K a1 r1.kQ)).bind (fun r2=>(some (.inr ((⟨a0.bZ,a0.fi,a0.lT,r2⟩:cV)))))))) else (some (.inr (a0))))
theorem yC (K:Nat) (a0:cV) (a1:Int):cQ Tryz.prog 16 [.c (.ptr 0 0 0),.c (.val (.int .i64 a1))] [cL.o a0] (b5 (F16 K a0 a1)) (fun r=>.lG []) (fun r=>[cL.o r]):=by
 refine cQ.it Tryz.f16 (fun r=>⟨[],[cL.o r],[],1⟩) ?_
 unfold F16
 exact Ref.fG 0 5 [0,1,8] [0] (Ref.cn (.tmp 8) (!tF a0.j9) (fun hc=>Ref.rn 1 (bY.e1 0 3 3 [9,10,11] [0] (bY.eF (t:=12) (g:=[]) (b:=true) 3 4 [0] (default:fS) rfl (by kernel_rfl) (cQ.forget (tN K a0) (fun _=>rfl)) (fun _=>rfl) (fun r1=>bY.e1 4 1 5 [9,10,13] [0] (bY.cc 14 5 6 [] (tM K a1 r1.kQ) (fun r2=>bY.en 6 3 ⟨[],[.cells [eN.tree a0.bZ,iC a0.fi,iC a0.lT,fH r2]],[],1⟩ [] [0] Ref.n0)))))) (fun hc=>Ref.sk (Ref.kn [] [0])))
def kD (K:Nat) (a0:cV) (a1:Bytes):Option ((Bool × cV) ⊕ (Bool × cV)) :=
 ((cX true (b5 (oF K a0 [a1])) default).bind (fun r1=>(if (!r1)=true then (some (.inl (false,a0))) else (some (.inl (true,(⟨a0.bZ,(IntKind.i64.wrap (a0.fi+1)),a0.lT,a0.j9⟩:cV)))))))
theorem eY (K:Nat) (a0:cV) (a1:Bytes):cQ Tryz.prog 37 [.c (.ptr 0 0 0),.c (.str a1)] [cL.o a0] (b5 (kD K a0 a1)) (fun r=>.c (.val (.bool r.1))) (fun r=>[cL.o r.2]):=by
 refine cQ.it Tryz.f37 (fun r=>⟨[sB 4 r.1],[cL.o r.2],[],1⟩) ?_
 unfold kD
 exact Ref.fG 0 1 [0,1] [0] (Ref.sq (Ref.s0 1 2 ⟨[sP 0 0 0 0,sP 5 0 0 0,sS 6 a1],[cL.o a0],[],1⟩ [0,5,6] [0] (bY.e0 (cR:=⟨[sP 0 0 0 0,sP 5 0 0 0,(7,.c (.own 1 1))],[cL.o a0,.row 9 1 1 (iM [[.str a1]])],[],1⟩) 2 1 3 [0,5,7] [0,1] (bY.conv (Conv.ob 1 (E9.row [a1]) (El.cP E9 [a1] rfl (by kernel_rfl))) (bY.conv (Conv.sl 7 (.c (.own 1 ([a1].length))) (gB.c (eU.own (by simp <;> omega)))) (bY.eF (t:=8) (g:=[]) (b:=true) 3 4 [0,1] (default:Bool) rfl (by kernel_rfl) (iV K a0 [a1]) (fun _=>rfl) (fun r1=>bY.en 4 1 ⟨[sP 0 0 0 0,sB 9 (!r1)],[cL.o a0],[],1⟩ [0,9] [0] (Ref.cn (.tmp 9) (!r1) (fun hc=>Ref.fG 2 1 [4] [0] Ref.rt) (fun hc=>Ref.sk (Ref.fG 3 8 [] [0] (Ref.sn 4 1 ⟨[sB 4 true],[.cells [eN.tree a0.bZ,iC (IntKind.i64.wrap (a0.fi+1)),iC a0.lT,fH a0.j9]],[],1⟩ [4] [0] Ref.rt)))))))))))
def fV (K:Nat) (a0:cV) (a1:(List Bytes)):Option ((cV) ⊕ (cV)) :=
 (cO (cN ((iter K (fun (kB:cV × Int)=>(cY (decide ((kB.2:Int)<(Int.ofNat a1.length))) (fun (x36:Bool)=>(if x36=true then (cO (cN (fI [jL kB.2 a1.length] ((b5 (kD K kB.1 (a1.getD (kB.2:Int).toNat default))).bind (fun yD=>(if (!yD.1)=true then ((b5 (F16 K yD.2 3)).bind (fun r41=>(some (.inr (r41))))) else (some (.inr (yD.2)))))))) (fun (u39:cV)=>(some (.inr (u39,(IntKind.i64.wrap (kB.2+1))))))) else (some (.inl (Sum.inl (kB.1)))))))) (a0,0)).map .inl)) (fun (gN:cV)=>(some (.inr (gN)))))
theorem eK (K:Nat) (a0:cV) (a1:(List Bytes)):cQ Tryz.prog 79 [.c (.ptr 0 0 0),.c (E9.tree a1)] [cL.o a0] (b5 (fV K a0 a1)) (fun r=>.lG []) (fun r=>[cL.o r]):=by
 refine cQ.it Tryz.f79 (fun r=>⟨[],[cL.o r],[],1⟩) ?_
 unfold fV
 exact Ref.sn 0 3 ⟨[sP 0 0 0 0,(6,.c (E9.tree a1)),sI 7 (Int.ofNat a1.length),sI 8 0],[cL.o a0],[],1⟩ [0,6,7,8] [0] (Ref.ce (.block 0 (cd (bd Tryz.f79) [1,0])) (Ref.block (fK:=fun gN=>⟨[],[cL.o gN],[],1⟩) (Ref.ce (.loop (cd (bd Tryz.f79) [1,0,0])) (Ref.loop (hd:=fun kB=>⟨[sP 0 0 0 0,(6,.c (E9.tree a1)),sI 7 (Int.ofNat a1.length),sI 8 kB.2],[cL.o kB.1],[],1⟩) K (a0,0) (by kernel_rfl) (fun kB=>Ref.s0 1 1 ⟨[sP 0 0 0 0,(6,.c (E9.tree a1)),sI 7 (Int.ofNat a1.length),sI 8 kB.2,sB 9 (decide ((kB.2:Int)<(Int.ofNat a1.length)))],[cL.o kB.1],[],1⟩ [0,6,7,8,9] [0] (bY.eX (iF:=fun x36=>⟨[sP 0 0 0 0,(6,.c (E9.tree a1)),sI 7 (Int.ofNat a1.length),sI 8 kB.2,sB 9 x36],[cL.o kB.1],[],1⟩) (by kernel_rfl) (fun x36=>bY.nl 1 (Ref.sq (Ref.cn (.tmp 9) x36 (fun hc=>Ref.sk (Ref.sq (Ref.ce (.block 1 (cd (bd Tryz.f79) [1,0,0,1,1,0,0])) (Ref.block (fK:=fun u39=>⟨[sP 0 0 0 0,(6,.c (E9.tree a1)),sI 7 (Int.ofNat a1.length),sI 8 kB.2],[cL.o u39],[],1⟩) (Ref.sr 2 (bY.nR (vs:=[jL kB.2 a1.length]) (cR:=⟨[sP 0 0 0 0,sS 5 (gd a1 kB.2),(6,.c (E9.tree a1)),sI 7 (Int.ofNat a1.length),sI 8 kB.2],[cL.o kB.1],[],1⟩) 0 3 3 [0,5,6,7,8] [0] rfl (by kernel_rfl) (bY.nl 3 (Ref.sc 3 2 [0,6,7,8,12,13] [0] 14 [0] (eY K kB.1 (gd a1 kB.2)) (fun yD=>bY.en 3 1 ⟨[sP 0 0 0 0,(6,.c (E9.tree a1)),sI 7 (Int.ofNat a1.length),sI 8 kB.2,sB 15 (!yD.1)],[cL.o yD.2],[],1⟩ [0,6,7,8,15] [0] (Ref.cn (.tmp 15) (!yD.1) (fun hc=>Ref.rn 4 (bY.e1 0 1 1 [0,6,7,8,16] [0] (bY.cc 17 1 2 [0] (yC K yD.2 3) (fun r41=>bY.nl 2 (Ref.kn [0,6,7,8] [0]))))) (fun hc=>Ref.sk (Ref.kn [0,6,7,8] [0])))))))) (fun a=>match a with | .inl _=>(fun h=>by cases h) | .inr _=>(fun h=>by cases h)) (fun u39=>Ref.rn 5 (bY.s7 0 2 [0,6,7,8] [0] Ref.n0)))))) (fun hc=>Ref.kx 0 [] [0])))))))) (fun _ h=>by cases h) (fun gN=>Ref.n0)))
def s8 (K:Nat) (a0:cV):Option ((Bytes × cV) ⊕ (Bytes × cV)) :=
 ((cX true (b5 (F24 K a0)) default).bind (fun r1=>((cX true (b5 (F66 K a0 1)) default).bind (fun r2=>(if (!r2)=true then ((b5 (F16 K a0 3)).bind (fun r3=>(some (.inl (([]:Bytes),r3))))) else (some (.inl (r1.eG,(⟨a0.bZ,(IntKind.i64.wrap (a0.fi+1)),a0.lT,a0.j9⟩:cV)))))))))
theorem kN (K:Nat) (a0:cV):cQ Tryz.prog 69 [.c (.ptr 0 0 0)] [cL.o a0] (b5 (s8 K a0)) (fun r=>.c (.str r.1)) (fun r=>[cL.o r.2]):=by
 refine cQ.it Tryz.f69 (fun r=>⟨[sS 2 r.1],[cL.o r.2],[],1⟩) ?_
 unfold s8
 exact Ref.fG 0 1 [0] [0] (Ref.sr 1 (bY.e1 0 1 1 [0,4] [0] (bY.eF (t:=5) (g:=[]) (b:=true) 1 2 [0] (default:fS) rfl (by kernel_rfl) (cQ.forget (tN K a0) (fun _=>rfl)) (fun _=>rfl) (fun r1=>bY.en 2 2 ⟨[sP 0 0 0 0,sP 3 1 0 0],[cL.o a0,eN.o r1],[],1⟩ [0,3] [0,1] (Ref.sq (Ref.sr 2 (bY.e1 0 1 1 [0,3,6] [0,1] (bY.eF (t:=7) (g:=[]) (b:=true) 1 2 [0] (default:Bool) rfl (by kernel_rfl) (pU K a0 1) (fun _=>rfl) (fun r2=>bY.en 2 1 ⟨[sP 0 0 0 0,sP 3 1 0 0,sB 8 (!r2)],[cL.o a0,eN.o r1],[],1⟩ [0,3,8] [0,1] (Ref.cn (.tmp 8) (!r2) (fun hc=>Ref.sc 3 1 [9] [0] 10 [0] (yC K a0 3) (fun r3=>bY.nl 2 (Ref.sn 4 1 ⟨[sS 2 ([]:Bytes)],[cL.o r3],[],1⟩ [2] [0] Ref.rt))) (fun hc=>Ref.sk (Ref.fG 5 8 [3] [0,1] (Ref.sn 6 3 ⟨[sS 2 r1.eG],[.cells [eN.tree a0.bZ,iC (IntKind.i64.wrap (a0.fi+1)),iC a0.lT,fH a0.j9]],[],1⟩ [2] [0] Ref.rt)))))))))))))
def F67 (K:Nat) (a0:cV):Option ((Int × cV) ⊕ (Int × cV)) :=
 ((cX true (b5 (F24 K a0)) default).bind (fun r1=>((cX true (b5 (F66 K a0 3)) default).bind (fun r2=>(if (!r2)=true then ((b5 (F16 K a0 3)).bind (fun r3=>(some (.inl (0,r3))))) else (some (.inl (r1.fN,(⟨a0.bZ,(IntKind.i64.wrap (a0.fi+1)),a0.lT,a0.j9⟩:cV)))))))))
theorem yE (K:Nat) (a0:cV):cQ Tryz.prog 67 [.c (.ptr 0 0 0)] [cL.o a0] (b5 (F67 K a0)) (fun r=>.c (.val (.int .i64 r.1))) (fun r=>[cL.o r.2]):=by
 refine cQ.it Tryz.f67 (fun r=>⟨[sI 2 r.1],[cL.o r.2],[],1⟩) ?_
 unfold F67
 exact Ref.fG 0 1 [0] [0] (Ref.sr 1 (bY.e1 0 1 1 [0,4] [0] (bY.eF (t:=5) (g:=[]) (b:=true) 1 2 [0] (default:fS) rfl (by kernel_rfl) (cQ.forget (tN K a0) (fun _=>rfl)) (fun _=>rfl) (fun r1=>bY.en 2 2 ⟨[sP 0 0 0 0,sP 3 1 0 0],[cL.o a0,eN.o r1],[],1⟩ [0,3] [0,1] (Ref.sq (Ref.sr 2 (bY.e1 0 1 1 [0,3,6] [0,1] (bY.eF (t:=7) (g:=[]) (b:=true) 1 2 [0] (default:Bool) rfl (by kernel_rfl) (pU K a0 3) (fun _=>rfl) (fun r2=>bY.en 2 1 ⟨[sP 0 0 0 0,sP 3 1 0 0,sB 8 (!r2)],[cL.o a0,eN.o r1],[],1⟩ [0,3,8] [0,1] (Ref.cn (.tmp 8) (!r2) (fun hc=>Ref.sc 3 1 [9] [0] 10 [0] (yC K a0 3) (fun r3=>bY.nl 2 (Ref.sn 4 1 ⟨[sI 2 0],[cL.o r3],[],1⟩ [2] [0] Ref.rt))) (fun hc=>Ref.sk (Ref.fG 5 8 [3] [0,1] (Ref.sn 6 3 ⟨[sI 2 r1.fN],[.cells [eN.tree a0.bZ,iC (IntKind.i64.wrap (a0.fi+1)),iC a0.lT,fH a0.j9]],[],1⟩ [2] [0] Ref.rt)))))))))))))
def mC (K:Nat) (a0:cV):Option ((Int × cV) ⊕ (Int × cV)) :=
 ((b5 (kD K a0 ([45]:Bytes))).bind (fun r1=>(if r1.1=true then ((b5 (F67 K r1.2)).bind (fun r2=>(some (.inl ((IntKind.i64.wrap (0 - r2.1)),r2.2))))) else ((b5 (F67 K r1.2)).bind (fun r3=>(some (.inl (r3.1,r3.2))))))))
theorem zR (K:Nat) (a0:cV):cQ Tryz.prog 104 [.c (.ptr 0 0 0)] [cL.o a0] (b5 (mC K a0)) (fun r=>.c (.val (.int .i64 r.1))) (fun r=>[cL.o r.2]):=by
 refine cQ.it Tryz.f104 (fun r=>⟨[sI 2 r.1],[cL.o r.2],[],1⟩) ?_
 unfold mC
 exact Ref.fG 0 1 [0] [0] (Ref.sq (Ref.sc 1 1 [0,3] [0] 4 [0] (eY K a0 aDY) (fun r1=>bY.nl 2 (Ref.cn (.tmp 4) r1.1 (fun hc=>Ref.sc 2 1 [5] [0] 6 [0] (yE K r1.2) (fun r2=>bY.en 2 2 ⟨[sI 2 (IntKind.i64.wrap (0 - r2.1))],[cL.o r2.2],[],1⟩ [2] [0] Ref.rt)) (fun hc=>Ref.sk (Ref.sc 3 1 [8] [0] 9 [0] (yE K r1.2) (fun r3=>bY.en 2 1 ⟨[sI 2 r3.1],[cL.o r3.2],[],1⟩ [2] [0] Ref.rt)))))))
def qV (K:Nat) (a0:cV) (a1:Int) (a2:Int):Option ((cV) ⊕ (cV)) :=
 (if (decide ((a1:Int) ≥ a2))=true then ((b5 (F16 K a0 5)).bind (fun r1=>(some (.inr (r1))))) else (some (.inr (a0))))
theorem rP (K:Nat) (a0:cV) (a1:Int) (a2:Int):cQ Tryz.prog 23 [.c (.ptr 0 0 0),.c (.val (.int .i64 a1)),.c (.val (.int .i64 a2))] [cL.o a0] (b5 (qV K a0 a1 a2)) (fun r=>.lG []) (fun r=>[cL.o r]):=by
 refine cQ.it Tryz.f23 (fun r=>⟨[],[cL.o r],[],1⟩) ?_
 unfold qV
 exact Ref.fG 0 3 [0,8] [0] (Ref.cn (.tmp 8) (decide ((a1:Int) ≥ a2)) (fun hc=>Ref.rn 1 (bY.e1 0 1 1 [9] [0] (bY.cc 10 1 2 [0] (yC K a0 5) (fun r1=>bY.nl 2 (Ref.kn [] [0]))))) (fun hc=>Ref.sk (Ref.kn [] [0])))
def F36 (K:Nat) (a0:cV) (a1:Int):Option ((cV) ⊕ (cV)) :=
 (if (decide ((a1:Int) > 6))=true then ((b5 (F16 K a0 4)).bind (fun r1=>(some (.inr (r1))))) else (some (.inr (a0))))
theorem aNq (K:Nat) (a0:cV) (a1:Int):cQ Tryz.prog 36 [.c (.ptr 0 0 0),.c (.val (.int .i64 a1))] [cL.o a0] (b5 (F36 K a0 a1)) (fun r=>.lG []) (fun r=>[cL.o r]):=by
 refine cQ.it Tryz.f36 (fun r=>⟨[],[cL.o r],[],1⟩) ?_
 unfold F36
 exact Ref.fG 0 2 [0,5] [0] (Ref.cn (.tmp 5) (decide ((a1:Int) > 6)) (fun hc=>Ref.rn 1 (bY.e1 0 1 1 [6] [0] (bY.cc 7 1 2 [0] (yC K a0 4) (fun r1=>bY.nl 2 (Ref.kn [] [0]))))) (fun hc=>Ref.sk (Ref.kn [] [0])))
def F68 (K:Nat) (a0:cV):Option ((Bytes × cV) ⊕ (Bytes × cV)) :=
 ((b5 (fV K a0 ([[40]]:List Bytes))).bind (fun r1=>((b5 (s8 K r1)).bind (fun r2=>((b5 (fV K r2.2 ([[41]]:List Bytes))).bind (fun r3=>(some (.inl (r2.1,r3)))))))))
theorem aIW (K:Nat) (a0:cV):cQ Tryz.prog 68 [.c (.ptr 0 0 0)] [cL.o a0] (b5 (F68 K a0)) (fun r=>.c (.str r.1)) (fun r=>[cL.o r.2]):=by
 refine cQ.it Tryz.f68 (fun r=>⟨[sS 2 r.1],[cL.o r.2],[],1⟩) ?_
 unfold F68
 exact Ref.fG 0 1 [0] [0] (Ref.s0 1 1 ⟨[sP 0 0 0 0,sP 4 0 0 0],[cL.o a0],[],1⟩ [0,4] [0] (bY.li 5 [] E9 ([[40]]:List Bytes) 1 2 (bY.cc 6 2 3 [0] (eK K a0 ([[40]]:List Bytes)) (fun r1=>bY.nl 3 (Ref.sc 2 1 [0,7] [0] 8 [0] (kN K r1) (fun r2=>bY.en 2 1 ⟨[sP 0 0 0 0,sS 3 r2.1],[cL.o r2.2],[],1⟩ [0,3] [0] (Ref.s0 3 1 ⟨[sS 3 r2.1,sP 9 0 0 0],[cL.o r2.2],[],1⟩ [3,9] [0] (bY.li 10 [] E9 ([[41]]:List Bytes) 1 2 (bY.cc 11 2 3 [0] (eK K r2.2 ([[41]]:List Bytes)) (fun r3=>bY.nl 3 (Ref.sn 4 2 ⟨[sS 2 r2.1],[cL.o r3],[],1⟩ [2] [0] Ref.rt)))))))))))
end Go.Proofs.YtidjangjfekfjaaGreatDoor
