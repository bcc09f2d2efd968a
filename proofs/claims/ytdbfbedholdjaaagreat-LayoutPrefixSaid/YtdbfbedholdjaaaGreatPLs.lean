/- No conditions. -/
import Derived.Test.YtdbfbedholdjaaaGreatPLL
import Derived.Test.YtdbfbedholdjaaaGreatPLG
import Derived.Test.YtdbfbedholdjaaaGreatPLp
import Derived.Test.YtdbfbedholdjaaaGreatProg
set_option linter.unusedVariables false
set_option linter.unusedSimpArgs false
set_option linter.unusedSectionVars false
namespace Go.Proofs.YtdbfbedholdjaaaGreat
open Go Go.Proofs Go.Dl
variable [dW]
set_option maxRecDepth 100000
set_option maxHeartbeats 4000000
def F72 (K:Nat) (a0:Bytes):Option ((cB × Int × Int) ⊕ (cB × Int × Int)) :=
 ((bT (aPg K a0)).bind (fun r1=>(some (.inl ((⟨r1.1,0,(Int.ofNat a0.length),0,0⟩:cB),r1.2.1,r1.2.2)))))
theorem aVh (K:Nat) (a0:Bytes):bS Tryz.prog 72 [.c (.str a0)] [] (bT (F72 K a0)) (fun r=>.iT [.c (.ptr 0 0 0),.c (.val (.int .i64 r.2.1)),.c (.val (.int .i64 r.2.2))]) (fun r=>[cK.o r.1]):=by
 refine bS.it Tryz.f72 (fun r=>⟨[sP 2 0 0 0,sI 3 r.2.1,sI 4 r.2.2],[cK.o r.1],[],0⟩) ?_
 unfold F72
 exact Ref.pt (
  .call [] (aSe _ _) fun r1 =>
  .ret [0] _)
def F33 (K:Nat) (a0:Bytes):Option ((cZ × (List Int) × Int × Int) ⊕ (cZ × (List Int) × Int × Int)) :=
 ((bT (F72 K a0)).bind (fun r1=>(if ((r1.2.1:Int) != 0)=true then (some (.inl ((⟨[]⟩:cZ),[],r1.2.1,r1.2.2))) else (bL (bJ ((iter K (fun (jI:cB × (List jG) × (List Int))=>(bN ((decide ((jI.1.qG:Int)<(Int.ofNat jI.1.ft.length))) && ((jI.1.iL:Int) == 0)) (fun (aYq:Bool)=>(if aYq=true then (bL (bJ ((cH true (bT (F73 K jI.1 ([73,78,84,69,82,70,65,67,69]:Bytes))) default).bind (fun aHn=>((cH (!aHn) (bT (F73 K jI.1 ([67,76,65,83,83]:Bytes))) default).bind (fun qW=>((cH (!(aHn || qW)) (bT (F73 K jI.1 ([80,82,79,71,82,65,77]:Bytes))) default).bind (fun aHo=>((cH (!((aHn || qW) || aHo)) (bT (F73 K jI.1 ([84,65,83,75]:Bytes))) default).bind (fun aO7=>(bL (if (((aHn || qW) || aHo) || aO7)=true then ((bT (F74 K jI.1 (Int.ofNat jI.2.1.length) 12)).bind (fun kE=>(some (.inr (kE))))) else (some (.inr (jI.1)))) (fun (s0:cB)=>((bT (F75 K s0)).bind (fun vD=>(bW [room ((jI.2.2.length+([vD.1].length)) * 8)] ((bT (F76 K vD.2)).bind (fun pE=>(bW [room ((jI.2.1.length+([pE.1].length)) * 160)] (some (.inr (pE.2,(jI.2.1++[pE.1]),(jI.2.2++[vD.1]))))))))))))))))))))) (fun (aJA:cB × (List jG) × (List Int))=>(some (.inr (aJA.1,aJA.2.1,aJA.2.2))))) else (some (.inl (Sum.inl (jI.1,jI.2.1,jI.2.2)))))))) (r1.1,[],[])).map .inl)) (fun (rY:cB × (List jG) × (List Int))=>(if ((rY.1.iL:Int) != 0)=true then (some (.inl ((⟨[]⟩:cZ),[],rY.1.iL,rY.1.aCk))) else (some (.inl ((⟨rY.2.1⟩:cZ),rY.2.2,0,0)))))))))
abbrev aK1 (v0:cB × (List jG) × (List Int)):List Go.Dl.Obj:=[.cells [.nil],cK.o v0.1,.cells [.own 3 v0.2.1.length],jR.row v0.2.1,E3.row v0.2.2]
abbrev aHI (v0:cB × (List jG) × (List Int)):List (Nat × D):=[sP 2 0 0 0,sP 6 1 0 0,sP 9 2 0 0,(10,.c (.own 4 v0.2.2.length))]
theorem aVi (K:Nat) (a0:Bytes):bS Tryz.prog 33 [.c (.str a0)] [] (bT (F33 K a0)) (fun r=>.iT [.agg (dM.cs r.1),.c (E3.tree r.2.1),.c (.val (.int .i64 r.2.2.1)),.c (.val (.int .i64 r.2.2.2))]) (fun r=>[.cells (dM.cs r.1)]):=by
 refine bS.it Tryz.f33 (fun r=>⟨[sP 2 0 0 0,(3,.c (E3.tree r.2.1)),sI 4 r.2.2.1,sI 5 r.2.2.2],[.cells (dM.cs r.1)],[],0⟩) ?_
 unfold F33
 exact Ref.pt (
  .call [] (aVh _ _) fun r1 =>
  .ite _ (
   .ok 3 0 0 0 (x:=.nil) (y:=jR.tree []) (El.cN jR) <|
   .sl 3 0 3 (x:=.c (.nil)) (y:=(.c (E3.tree []))) (eA.c (El.cN E3)) <|
   .ret [0] _) (
   .bk 0 (fun rY=>⟨aHI rY,aK1 rY,[],0⟩) (
    .ad 5 0 10 E3.ty E3.w (E3.at []) <|
    .adc 5 0 2 0 jR.ty jR.w (jR.at []) <|
    .lp [0,1,2,4,3] (fun jI=>⟨aHI jI,aK1 jI,[],0⟩) fun jI =>
    .ex [0,1,2,4,5,6] <|
    .tx [] <|
    .ex [3,7,8,9,10,11,12,13,14,15,16] <|
    .lt _ fun aYq =>
    .ite _ (
     .bk 1 (fun aJA=>⟨aHI aJA,aK1 aJA,[],0⟩) (
      .look (default:Bool) _ [1] (lF K jI.1 ([73,78,84,69,82,70,65,67,69]:Bytes)) (fun _=>rfl) fun aHn =>
      .look (default:Bool) _ [1] (lF K jI.1 ([67,76,65,83,83]:Bytes)) (fun _=>rfl) fun qW =>
      .look (default:Bool) _ [1] (lF K jI.1 ([80,82,79,71,82,65,77]:Bytes)) (fun _=>rfl) fun aHo =>
      .look (default:Bool) _ [1] (lF K jI.1 ([84,65,83,75]:Bytes)) (fun _=>rfl) fun aO7 =>
      .jn (fun s0=>⟨aHI jI,[.cells [.nil],cK.o s0,.cells [.own 3 jI.2.1.length],jR.row jI.2.1,E3.row jI.2.2],[],0⟩) (
       .ite _ (
        .call [1] (qV _ _ _ _) fun kE =>
        .nil [0,1,2,3,4] _) (
        .nil [0,1,2,3,4] _)) fun s0 =>
      .call [1] (aO4 _ _) fun vD =>
      .ob 9 2 5 (x:=.row 3 1 1 (gY [[iC vD.1]])) (y:=(E3.row [vD.1])) (El.bZ E3 [vD.1] rfl (by kernel_rfl)) <|
      .sl 9 2 63 (x:=.c (.own 5 1)) (y:=(.c (.own 5 ([vD.1].length)))) (eA.c (dY.own (by first | (simp;done) | (simp;omega) | omega))) <|
      .ck _ <|
      .ob 9 1 6 (x:=.row 3 1 (jI.2.2.length+([vD.1].length)) fun i j=>bif Nat.blt i jI.2.2.length then E3.at jI.2.2 i j else (E3.at [vD.1]) (i - jI.2.2.length) j) (y:=(E3.row (jI.2.2++[vD.1]))) (El.cI E3 jI.2.2 [vD.1] rfl rfl) <|
      .sl 9 1 64 (x:=.c (.own 6 (jI.2.2.length+([vD.1].length)))) (y:=(.c (.own 6 ((jI.2.2++[vD.1]).length)))) (eA.c (dY.own (by first | (simp;done) | (simp;omega) | omega))) <|
      .call [1] (aVc _ _) fun pE =>
      .ob 11 3 9 (x:=.row 35 11 1 (gY [(jR.cs pE.1)])) (y:=(jR.row [pE.1])) (El.bZ jR [pE.1] rfl (by kernel_rfl)) <|
      .sl 11 3 70 (x:=.c (.own 9 1)) (y:=(.c (.own 9 ([pE.1].length)))) (eA.c (dY.own (by first | (simp;done) | (simp;omega) | omega))) <|
      .ck _ <|
      .ob 11 2 10 (x:=.row 35 11 (jI.2.1.length+([pE.1].length)) fun i j=>bif Nat.blt i jI.2.1.length then jR.at jI.2.1 i j else (jR.at [pE.1]) (i - jI.2.1.length) j) (y:=(jR.row (jI.2.1++[pE.1]))) (El.cI jR jI.2.1 [pE.1] rfl rfl) <|
      .sl 11 2 71 (x:=.c (.own 10 (jI.2.1.length+([pE.1].length)))) (y:=(.c (.own 10 ((jI.2.1++[pE.1]).length)))) (eA.c (dY.own (by first | (simp;done) | (simp;omega) | omega))) <|
      .nil [0,1,2,10,6] _) fun aJA =>
     .nil [0,1,2,3,4] _) (
     .ret [0,1,2,3,4] _)) fun rY =>
   .ite _ (
    .esc [0,1,2,3,4] [(cd (bd Tryz.f33) [1,1,1,1,1,1,0,1,0,0]),(cd (bd Tryz.f33) [1,1,1,1,1,1,0,1,0,1]),(cd (bd Tryz.f33) [1,1,1,1,1,1,1])] ⟨aHI rY++[sB 77 ((rY.1.iL:Int) != 0)],aK1 rY,[],0⟩ (by
     refine Ref.eH 13 (by kernel_rfl) (by kernel_rfl) ?_
     refine dN.eW (cR:=⟨[sP 2 0 0 0,(78,.agg [.nil]),sP 81 1 0 3,sP 85 1 0 4],[.cells [.nil],cK.o rY.1],[],0⟩) (fuel':=6) [0,1,2,3,5,6,7] [2,78,81,85] [0,1] rfl (by kernel_rfl) (by kernel_rfl) ?_
     refine dN.qB [9] ?_
     refine bO.iR (fuel':=4) [[],[(4,82)],[(8,86)],[(4,82),(8,86)]] [(4,82),(8,86)] [2,78,81,85] [0,1] ⟨[sP 2 0 0 0,(78,.agg [.nil]),sP 81 1 0 3,sI 82 rY.1.iL,sP 85 1 0 4,sI 86 rY.1.aCk],[.cells [.nil],cK.o rY.1],[],0⟩ ?_
     refine cO.cM (fuel':=3) 9 ?_
     refine dB.gI (cR:=⟨[sP 2 0 0 0,sP 81 1 0 3,sI 82 rY.1.iL,sP 85 1 0 4,sI 86 rY.1.aCk],[.cells [.nil],cK.o rY.1],[],0⟩) 9 [2,81,82,85,86] [0,1] (by kernel_rfl) (by kernel_rfl) ?_
     refine cO.eW (cR:=⟨[sP 2 0 0 0,(3,.c (.nil)),sP 81 1 0 3,sI 82 rY.1.iL,sP 85 1 0 4,sI 86 rY.1.aCk],[.cells [.nil],cK.o rY.1],[],0⟩) (fuel':=2) [10] [2,3,81,82,85,86] [0,1] rfl (by kernel_rfl) (by kernel_rfl) ?_
     refine cO.less [[],[(8,86)]] ?_
     refine cO.eW (cR:=⟨[sP 2 0 0 0,(3,.c (.nil)),sI 4 rY.1.iL,sP 85 1 0 4,sI 86 rY.1.aCk],[.cells [.nil],cK.o rY.1],[],0⟩) (fuel':=1) [11] [2,3,4,85,86] [0,1] rfl (by kernel_rfl) (by kernel_rfl) ?_
     refine cO.close ?_
     refine bO.eW (cR:=⟨[sP 2 0 0 0,(3,.c (.nil)),sI 4 rY.1.iL,sI 5 rY.1.aCk],[.cells [.nil]],[],0⟩) (fuel':=0) [12] [2,3,4,5] [0] rfl (by kernel_rfl) (by kernel_rfl) ?_
     refine bO.done (by kernel_rfl) ?_
     exact Ref.pt (
      .ok 1000000 0 0 0 (x:=.nil) (y:=jR.tree []) (El.cN jR) <|
      .sl 1000000 0 3 (x:=.c (.nil)) (y:=(.c (E3.tree []))) (eA.c (El.cN E3)) <|
      .ret [0] _))) (
    .fz 14 0 3 <|
    .fz 14 0 4 <|
    .ret [0] _)))
def F8 (K:Nat) (a0:Bytes):Option ((cZ × (List nV)) ⊕ (cZ × (List nV))) :=
 ((bT (F33 K a0)).bind (fun r1=>(if ((r1.2.2.1:Int) != 0)=true then (some (.inl ((⟨[]⟩:cZ),[(⟨r1.2.2.1,r1.2.2.2⟩:nV)]))) else ((bT (F34 K r1.1)).bind (fun r2=>(bL (if (((Int.ofNat r2.length):Int) == 0)=true then ((bT (F35 K r1.1)).bind (fun r5=>(if (decide ((r5:Int) ≥ 0))=true then (some (.inr ([(⟨18,r5⟩:nV)]))) else (some (.inr (r2)))))) else (some (.inr (r2)))) (fun (u4:(List nV))=>(if (((Int.ofNat u4.length):Int) == 0)=true then (some (.inl (r1.1,[]))) else (bL (bJ ((iter K (fun (gO:(List nV) × Int)=>(bN (decide ((gO.2:Int)<(Int.ofNat u4.length))) (fun (x21:Bool)=>(if x21=true then (bL (bJ (bW [cS gO.2 u4.length,cS gO.2 u4.length] (bW [cS ((u4.getD (gO.2:Int).toNat default).zK) r1.2.1.length] (bW [room ((gO.1.length+([(⟨(u4.getD (gO.2:Int).toNat default).oK,(r1.2.1.getD ((u4.getD (gO.2:Int).toNat default).zK:Int).toNat default)⟩:nV)].length)) * 16)] (some (.inr ((gO.1++[(⟨(u4.getD (gO.2:Int).toNat default).oK,(r1.2.1.getD ((u4.getD (gO.2:Int).toNat default).zK:Int).toNat default)⟩:nV)])))))))) (fun (dU:(List nV))=>(some (.inr (dU,(IntKind.i64.wrap (gO.2+1))))))) else (some (.inl (Sum.inl (gO.1)))))))) ([],0)).map .inl)) (fun (u14:(List nV))=>(some (.inl ((⟨[]⟩:cZ),u14)))))))))))))
abbrev aJB (v0:cZ × (List Int) × Int × Int) (v1:(List nV)):List (Nat × D):=[sP 2 0 0 0,(5,.c (E3.tree v0.2.1)),(8,.c (tB.tree v1))]
theorem aYs (K:Nat) (a0:Bytes):bS Tryz.prog 8 [.c (.str a0)] [] (bT (F8 K a0)) (fun r=>.iT [.agg (dM.cs r.1),.c (tB.tree r.2)]) (fun r=>[.cells (dM.cs r.1)]):=by
 refine bS.it Tryz.f8 (fun r=>⟨[sP 2 0 0 0,(3,.c (tB.tree r.2))],[.cells (dM.cs r.1)],[],0⟩) ?_
 unfold F8
 exact Ref.pt (
  .call [] (aVi _ _) fun r1 =>
  .ite _ (
   .ob 3 2 3 (x:=.row 73 2 1 (gY [[iC r1.2.2.1,iC r1.2.2.2]])) (y:=(tB.row [(⟨r1.2.2.1,r1.2.2.2⟩:nV)])) (El.bZ tB [(⟨r1.2.2.1,r1.2.2.2⟩:nV)] rfl (by kernel_rfl)) <|
   .sl 3 2 25 (x:=.c (.own 3 1)) (y:=(.c (.own 3 ([(⟨r1.2.2.1,r1.2.2.2⟩:nV)].length)))) (eA.c (dY.own (by first | (simp;done) | (simp;omega) | omega))) <|
   .ok 3 0 0 0 (x:=.nil) (y:=jR.tree []) (El.cN jR) <|
   .fz 3 0 3 <|
   .ret [0] _) (
   .call [] (aUX _ _) fun r2 =>
   .jn (fun u4=>⟨[sP 2 0 0 0,sP 4 1 0 0,(5,.c (E3.tree r1.2.1)),(8,.c (tB.tree u4))],[.cells [.nil],.cells (dM.cs r1.1)],[],0⟩) (
    .ite _ (
     .call [] (aUP _ _) fun r5 =>
     .ite _ (
      .ob 8 1 3 (x:=.row 73 2 1 (gY [[iC 18,iC r5]])) (y:=(tB.row [(⟨18,r5⟩:nV)])) (El.bZ tB [(⟨18,r5⟩:nV)] rfl (by kernel_rfl)) <|
      .sl 8 1 37 (x:=.c (.own 3 1)) (y:=(.c (.own 3 ([(⟨18,r5⟩:nV)].length)))) (eA.c (dY.own (by first | (simp;done) | (simp;omega) | omega))) <|
      .fz 8 0 3 <|
      .nil [0,2] _) (
      .nil [0,2] _)) (
     .nil [0,2] _)) fun u4 =>
   .ite _ (
    .sl 10 0 3 (x:=.c (.nil)) (y:=(.c (tB.tree []))) (eA.c (El.cN tB)) <|
    .ret [0] _) (
    .bk 0 (fun u14=>⟨[sP 2 0 0 0,(10,.c (.own 1 u14.length))],[.cells [.nil],tB.row u14],[],0⟩) (
     .ad 12 0 10 tB.ty tB.w (tB.at []) <|
     .lp [0,2] (fun gO=>⟨aJB r1 u4++[(10,.c (.own 1 gO.1.length)),sI 11 gO.2],[.cells [.nil],tB.row gO.1],[],0⟩) fun gO =>
     .lt _ fun x21 =>
     .ite _ (
      .bk 1 (fun dU=>⟨aJB r1 u4++[(10,.c (.own 1 dU.length)),sI 11 gO.2],[.cells [.nil],tB.row dU],[],0⟩) (
       .esc [0,1] [(cd (cd (bd Tryz.f8) [1,1,1,1,1,1,1,0,1,0,0,1,0]) [0])] ⟨aJB r1 u4++[(10,.c (.own 1 gO.1.length)),sI 11 gO.2,sB 45 x21],[.cells [.nil],tB.row gO.1],[],0⟩ (by
        refine Ref.eH 15 (by kernel_rfl) (by kernel_rfl) ?_
        refine dN.evC (vs:=[cS gO.2 u4.length,cS gO.2 u4.length]) (cR:=⟨aJB r1 u4++[sI 11 gO.2,(48,.c (.own 1 gO.1.length)),(52,.c (tB.ep (gd u4 gO.2) 0)),(54,.c (E3.tree r1.2.1)),(58,.c (tB.ep (gd u4 gO.2) 1))],[.cells [.nil],tB.row gO.1],[],0⟩) (fuel':=8) [0,1,2,3,4,6,7,8,9,10] [2,5,8,11,48,52,54,58] [0,1] rfl (by kernel_rfl) (by kernel_rfl) ?_
        refine dN.qB [16,17] ?_
        refine bO.evC (vs:=[cS ((gd u4 gO.2).zK) r1.2.1.length]) (cR:=⟨aJB r1 u4++[sI 11 gO.2,(48,.c (.own 1 gO.1.length)),(62,.agg [iC ((gd u4 gO.2).oK),iC (r1.2.1.getD ((gd u4 gO.2).zK:Int).toNat default)])],[.cells [.nil],tB.row gO.1],[],0⟩) (fuel':=3) [5,11,12,13,14] [2,5,8,11,48,62] [0,1] rfl (by kernel_rfl) (by kernel_rfl) ?_
        refine bO.mX (cR:=⟨aJB r1 u4++[sI 11 gO.2,(48,.c (.own 1 gO.1.length)),(63,.c (.own 2 1))],[.cells [.nil],tB.row gO.1,.row 73 2 1 (gY [[iC ((gd u4 gO.2).oK),iC (r1.2.1.getD ((gd u4 gO.2).zK:Int).toNat default)]])],[],0⟩) (fuel':=2) 15 [2,5,8,11,48,63] [0,1,2] rfl (by kernel_rfl) (by kernel_rfl) ?_
        refine bO.conv (Conv.ob 2 (tB.row [(⟨(gd u4 gO.2).oK,(r1.2.1.getD ((gd u4 gO.2).zK:Int).toNat default)⟩:nV)]) (El.bZ tB [(⟨(gd u4 gO.2).oK,(r1.2.1.getD ((gd u4 gO.2).zK:Int).toNat default)⟩:nV)] rfl (by kernel_rfl))) ?_
        refine bO.conv (Conv.sl 63 (.c (.own 2 ([(⟨(gd u4 gO.2).oK,(r1.2.1.getD ((gd u4 gO.2).zK:Int).toNat default)⟩:nV)].length))) (eA.c (dY.own (by first | (simp;done) | (simp;omega) | omega)))) ?_
        refine bO.qP [16,17] rfl (by kernel_rfl) ?_
        refine c6.evC (vs:=[room ((gO.1.length+([(⟨(gd u4 gO.2).oK,(r1.2.1.getD ((gd u4 gO.2).zK:Int).toNat default)⟩:nV)].length)) * 16)]) (cR:=⟨aJB r1 u4++[sI 11 gO.2,(64,.c (.own 1 (gO.1.length+([(⟨(gd u4 gO.2).oK,(r1.2.1.getD ((gd u4 gO.2).zK:Int).toNat default)⟩:nV)].length))))],[.cells [.nil],.row 73 2 (gO.1.length+([(⟨(gd u4 gO.2).oK,(r1.2.1.getD ((gd u4 gO.2).zK:Int).toNat default)⟩:nV)].length)) fun i j=>bif Nat.blt i gO.1.length then tB.at gO.1 i j else (tB.at [(⟨(gd u4 gO.2).oK,(r1.2.1.getD ((gd u4 gO.2).zK:Int).toNat default)⟩:nV)]) (i - gO.1.length) j],[],0⟩) 0 1 1 [2,5,8,11,64] [0,3] rfl (by kernel_rfl) ?_
        refine c6.conv (Conv.ob 1 (tB.row (gO.1++[(⟨(gd u4 gO.2).oK,(r1.2.1.getD ((gd u4 gO.2).zK:Int).toNat default)⟩:nV)])) (El.cI tB gO.1 [(⟨(gd u4 gO.2).oK,(r1.2.1.getD ((gd u4 gO.2).zK:Int).toNat default)⟩:nV)] rfl rfl)) ?_
        refine c6.conv (Conv.sl 64 (.c (.own 1 ((gO.1++[(⟨(gd u4 gO.2).oK,(r1.2.1.getD ((gd u4 gO.2).zK:Int).toNat default)⟩:nV)]).length))) (eA.c (dY.own (by first | (simp;done) | (simp;omega) | omega)))) ?_
        refine c6.en1 1 1 [2,5,8,10,11] [0,1] ?_
        exact Ref.n0)) fun dU =>
      .nil [0,1] _) (
      .ret [0,1] _)) fun u14 =>
    .ok 16 0 0 0 (x:=.nil) (y:=jR.tree []) (El.cN jR) <|
    .fz 16 0 1 <|
    .ret [0] _)))
end Go.Proofs.YtdbfbedholdjaaaGreat
