/- No conditions. -/
import Derived.Test.YtdbfbedholdjaaaGreatLL
import Derived.Test.YtdbfbedholdjaaaGreatLG
import Derived.Test.YtdbfbedholdjaaaGreatLp
import Derived.Test.YtdbfbedholdjaaaGreatProg
set_option linter.unusedVariables false
set_option linter.unusedSimpArgs false
set_option linter.unusedSectionVars false
namespace Go.Proofs.YtdbfbedholdjaaaGreat
open Go Go.Proofs Go.Dl
variable [eC]
set_option maxRecDepth 100000
set_option maxHeartbeats 4000000
def F72 (K:Nat) (a0:Bytes):Option ((cB × Int × Int) ⊕ (cB × Int × Int)) :=
 ((bU (aOZ K a0)).bind (fun r1=>(some (.inl ((⟨r1.1,0,(Int.ofNat a0.length),0,0⟩:cB),r1.2.1,r1.2.2)))))
theorem aUY (K:Nat) (a0:Bytes):bR Tryz.prog 72 [.c (.str a0)] [] (bU (F72 K a0)) (fun r=>.iV [.c (.ptr 0 0 0),.c (.val (.int .i64 r.2.1)),.c (.val (.int .i64 r.2.2))]) (fun r=>[cL.o r.1]):=by
 refine bR.it Tryz.f72 (fun r=>⟨[sP 2 0 0 0,sI 3 r.2.1,sI 4 r.2.2],[cL.o r.1],[],0⟩) ?_
 unfold F72
 exact Ref.pt (
  .call [] (aRR _ _) fun r1 =>
  .ret [0] _)
def F33 (K:Nat) (a0:Bytes):Option ((dD × (List Int) × Int × Int) ⊕ (dD × (List Int) × Int × Int)) :=
 ((bU (F72 K a0)).bind (fun r1=>(if ((r1.2.1:Int) != 0)=true then (some (.inl ((⟨[]⟩:dD),[],r1.2.1,r1.2.2))) else (bM (bL ((iter K (fun (jJ:cB × (List jX) × (List Int))=>(bO ((decide ((jJ.1.qE:Int)<(Int.ofNat jJ.1.ft.length))) && ((jJ.1.iN:Int) == 0)) (fun (aX3:Bool)=>(if aX3=true then (bM (bL ((cK true (bU (F73 K jJ.1 ([73,78,84,69,82,70,65,67,69]:Bytes))) default).bind (fun aHe=>((cK (!aHe) (bU (F73 K jJ.1 ([67,76,65,83,83]:Bytes))) default).bind (fun qS=>((cK (!(aHe || qS)) (bU (F73 K jJ.1 ([80,82,79,71,82,65,77]:Bytes))) default).bind (fun aHf=>((cK (!((aHe || qS) || aHf)) (bU (F73 K jJ.1 ([84,65,83,75]:Bytes))) default).bind (fun aOR=>(bM (if (((aHe || qS) || aHf) || aOR)=true then ((bU (F74 K jJ.1 (Int.ofNat jJ.2.1.length) 12)).bind (fun kF=>(some (.inr (kF))))) else (some (.inr (jJ.1)))) (fun (sY:cB)=>((bU (F75 K sY)).bind (fun vC=>(bW [room ((jJ.2.2.length+([vC.1].length)) * 8)] ((bU (F76 K vC.2)).bind (fun pF=>(bW [room ((jJ.2.1.length+([pF.1].length)) * 160)] (some (.inr (pF.2,(jJ.2.1++[pF.1]),(jJ.2.2++[vC.1]))))))))))))))))))))) (fun (aJr:cB × (List jX) × (List Int))=>(some (.inr (aJr.1,aJr.2.1,aJr.2.2))))) else (some (.inl (Sum.inl (jJ.1,jJ.2.1,jJ.2.2)))))))) (r1.1,[],[])).map .inl)) (fun (rW:cB × (List jX) × (List Int))=>(if ((rW.1.iN:Int) != 0)=true then (some (.inl ((⟨[]⟩:dD),[],rW.1.iN,rW.1.aCe))) else (some (.inl ((⟨rW.2.1⟩:dD),rW.2.2,0,0)))))))))
abbrev aKQ (v0:cB × (List jX) × (List Int)):List Go.Dl.Obj:=[.cells [.nil],cL.o v0.1,.cells [.own 3 v0.2.1.length],iY.row v0.2.1,E3.row v0.2.2]
abbrev aHz (v0:cB × (List jX) × (List Int)):List (Nat × D):=[sP 2 0 0 0,sP 6 1 0 0,sP 9 2 0 0,(10,.c (.own 4 v0.2.2.length))]
theorem aUZ (K:Nat) (a0:Bytes):bR Tryz.prog 33 [.c (.str a0)] [] (bU (F33 K a0)) (fun r=>.iV [.agg (dQ.cs r.1),.c (E3.tree r.2.1),.c (.val (.int .i64 r.2.2.1)),.c (.val (.int .i64 r.2.2.2))]) (fun r=>[.cells (dQ.cs r.1)]):=by
 refine bR.it Tryz.f33 (fun r=>⟨[sP 2 0 0 0,(3,.c (E3.tree r.2.1)),sI 4 r.2.2.1,sI 5 r.2.2.2],[.cells (dQ.cs r.1)],[],0⟩) ?_
 unfold F33
 exact Ref.pt (
  .call [] (aUY _ _) fun r1 =>
  .ite _ (
   .ok 3 0 0 0 (x:=.nil) (y:=iY.tree []) (El.cO iY) <|
   .sl 3 0 3 (x:=.c (.nil)) (y:=(.c (E3.tree []))) (eG.c (El.cO E3)) <|
   .ret [0] _) (
   .bk 0 (fun rW=>⟨aHz rW,aKQ rW,[],0⟩) (
    .ad 5 0 10 E3.ty E3.w (E3.at []) <|
    .adc 5 0 2 0 iY.ty iY.w (iY.at []) <|
    .lp [0,1,2,4,3] (fun jJ=>⟨aHz jJ,aKQ jJ,[],0⟩) fun jJ =>
    .ex [0,1,2,4,5,6] <|
    .tx [] <|
    .ex [3,7,8,9,10,11,12,13,14,15,16] <|
    .lt _ fun aX3 =>
    .ite _ (
     .bk 1 (fun aJr=>⟨aHz aJr,aKQ aJr,[],0⟩) (
      .look (default:Bool) _ [1] (lG K jJ.1 ([73,78,84,69,82,70,65,67,69]:Bytes)) (fun _=>rfl) fun aHe =>
      .look (default:Bool) _ [1] (lG K jJ.1 ([67,76,65,83,83]:Bytes)) (fun _=>rfl) fun qS =>
      .look (default:Bool) _ [1] (lG K jJ.1 ([80,82,79,71,82,65,77]:Bytes)) (fun _=>rfl) fun aHf =>
      .look (default:Bool) _ [1] (lG K jJ.1 ([84,65,83,75]:Bytes)) (fun _=>rfl) fun aOR =>
      .jn (fun sY=>⟨aHz jJ,[.cells [.nil],cL.o sY,.cells [.own 3 jJ.2.1.length],iY.row jJ.2.1,E3.row jJ.2.2],[],0⟩) (
       .ite _ (
        .call [1] (qR _ _ _ _) fun kF =>
        .nil [0,1,2,3,4] _) (
        .nil [0,1,2,3,4] _)) fun sY =>
      .call [1] (aOO _ _) fun vC =>
      .ob 9 2 5 (x:=.row 3 1 1 (hG [[iC vC.1]])) (y:=(E3.row [vC.1])) (El.bZ E3 [vC.1] rfl (by kernel_rfl)) <|
      .sl 9 2 63 (x:=.c (.own 5 1)) (y:=(.c (.own 5 ([vC.1].length)))) (eG.c (eD.own (by first | (simp;done) | (simp;omega) | omega))) <|
      .ck _ <|
      .ob 9 1 6 (x:=.row 3 1 (jJ.2.2.length+([vC.1].length)) fun i j=>bif Nat.blt i jJ.2.2.length then E3.at jJ.2.2 i j else (E3.at [vC.1]) (i - jJ.2.2.length) j) (y:=(E3.row (jJ.2.2++[vC.1]))) (El.cH E3 jJ.2.2 [vC.1] rfl rfl) <|
      .sl 9 1 64 (x:=.c (.own 6 (jJ.2.2.length+([vC.1].length)))) (y:=(.c (.own 6 ((jJ.2.2++[vC.1]).length)))) (eG.c (eD.own (by first | (simp;done) | (simp;omega) | omega))) <|
      .call [1] (aUV _ _) fun pF =>
      .ob 11 3 9 (x:=.row 35 11 1 (hG [(iY.cs pF.1)])) (y:=(iY.row [pF.1])) (El.bZ iY [pF.1] rfl (by kernel_rfl)) <|
      .sl 11 3 70 (x:=.c (.own 9 1)) (y:=(.c (.own 9 ([pF.1].length)))) (eG.c (eD.own (by first | (simp;done) | (simp;omega) | omega))) <|
      .ck _ <|
      .ob 11 2 10 (x:=.row 35 11 (jJ.2.1.length+([pF.1].length)) fun i j=>bif Nat.blt i jJ.2.1.length then iY.at jJ.2.1 i j else (iY.at [pF.1]) (i - jJ.2.1.length) j) (y:=(iY.row (jJ.2.1++[pF.1]))) (El.cH iY jJ.2.1 [pF.1] rfl rfl) <|
      .sl 11 2 71 (x:=.c (.own 10 (jJ.2.1.length+([pF.1].length)))) (y:=(.c (.own 10 ((jJ.2.1++[pF.1]).length)))) (eG.c (eD.own (by first | (simp;done) | (simp;omega) | omega))) <|
      .nil [0,1,2,10,6] _) fun aJr =>
     .nil [0,1,2,3,4] _) (
     .ret [0,1,2,3,4] _)) fun rW =>
   .ite _ (
    .esc [0,1,2,3,4] [(cd (bd Tryz.f33) [1,1,1,1,1,1,0,1,0,0]),(cd (bd Tryz.f33) [1,1,1,1,1,1,0,1,0,1]),(cd (bd Tryz.f33) [1,1,1,1,1,1,1])] ⟨aHz rW++[sB 77 ((rW.1.iN:Int) != 0)],aKQ rW,[],0⟩ (by
     refine Ref.eR 13 (by kernel_rfl) (by kernel_rfl) ?_
     refine dV.fE (cR:=⟨[sP 2 0 0 0,(78,.agg [.nil]),sP 81 1 0 3,sP 85 1 0 4],[.cells [.nil],cL.o rW.1],[],0⟩) (fuel':=6) [0,1,2,3,5,6,7] [2,78,81,85] [0,1] rfl (by kernel_rfl) (by kernel_rfl) ?_
     refine dV.rG [9] ?_
     refine bQ.iT (fuel':=4) [[],[(4,82)],[(8,86)],[(4,82),(8,86)]] [(4,82),(8,86)] [2,78,81,85] [0,1] ⟨[sP 2 0 0 0,(78,.agg [.nil]),sP 81 1 0 3,sI 82 rW.1.iN,sP 85 1 0 4,sI 86 rW.1.aCe],[.cells [.nil],cL.o rW.1],[],0⟩ ?_
     refine cQ.cP (fuel':=3) 9 ?_
     refine dP.iA (cR:=⟨[sP 2 0 0 0,sP 81 1 0 3,sI 82 rW.1.iN,sP 85 1 0 4,sI 86 rW.1.aCe],[.cells [.nil],cL.o rW.1],[],0⟩) 9 [2,81,82,85,86] [0,1] (by kernel_rfl) (by kernel_rfl) ?_
     refine cQ.fE (cR:=⟨[sP 2 0 0 0,(3,.c (.nil)),sP 81 1 0 3,sI 82 rW.1.iN,sP 85 1 0 4,sI 86 rW.1.aCe],[.cells [.nil],cL.o rW.1],[],0⟩) (fuel':=2) [10] [2,3,81,82,85,86] [0,1] rfl (by kernel_rfl) (by kernel_rfl) ?_
     refine cQ.less [[],[(8,86)]] ?_
     refine cQ.fE (cR:=⟨[sP 2 0 0 0,(3,.c (.nil)),sI 4 rW.1.iN,sP 85 1 0 4,sI 86 rW.1.aCe],[.cells [.nil],cL.o rW.1],[],0⟩) (fuel':=1) [11] [2,3,4,85,86] [0,1] rfl (by kernel_rfl) (by kernel_rfl) ?_
     refine cQ.close ?_
     refine bQ.fE (cR:=⟨[sP 2 0 0 0,(3,.c (.nil)),sI 4 rW.1.iN,sI 5 rW.1.aCe],[.cells [.nil]],[],0⟩) (fuel':=0) [12] [2,3,4,5] [0] rfl (by kernel_rfl) (by kernel_rfl) ?_
     refine bQ.done (by kernel_rfl) ?_
     exact Ref.pt (
      .ok 1000000 0 0 0 (x:=.nil) (y:=iY.tree []) (El.cO iY) <|
      .sl 1000000 0 3 (x:=.c (.nil)) (y:=(.c (E3.tree []))) (eG.c (El.cO E3)) <|
      .ret [0] _))) (
    .fz 14 0 3 <|
    .fz 14 0 4 <|
    .ret [0] _)))
def F8 (K:Nat) (a0:Bytes):Option ((dD × (List oC)) ⊕ (dD × (List oC))) :=
 ((bU (F33 K a0)).bind (fun r1=>(if ((r1.2.2.1:Int) != 0)=true then (some (.inl ((⟨[]⟩:dD),[(⟨r1.2.2.1,r1.2.2.2⟩:oC)]))) else ((bU (F34 K r1.1)).bind (fun r2=>(bM (if (((Int.ofNat r2.length):Int) == 0)=true then ((bU (F35 K r1.1)).bind (fun r5=>(if (decide ((r5:Int) ≥ 0))=true then (some (.inr ([(⟨18,r5⟩:oC)]))) else (some (.inr (r2)))))) else (some (.inr (r2)))) (fun (u4:(List oC))=>(if (((Int.ofNat u4.length):Int) == 0)=true then (some (.inl (r1.1,[]))) else (bM (bL ((iter K (fun (gW:(List oC) × Int)=>(bO (decide ((gW.2:Int)<(Int.ofNat u4.length))) (fun (x21:Bool)=>(if x21=true then (bM (bL (bW [cS gW.2 u4.length,cS gW.2 u4.length] (bW [cS ((u4.getD (gW.2:Int).toNat default).zF) r1.2.1.length] (bW [room ((gW.1.length+([(⟨(u4.getD (gW.2:Int).toNat default).oL,(r1.2.1.getD ((u4.getD (gW.2:Int).toNat default).zF:Int).toNat default)⟩:oC)].length)) * 16)] (some (.inr ((gW.1++[(⟨(u4.getD (gW.2:Int).toNat default).oL,(r1.2.1.getD ((u4.getD (gW.2:Int).toNat default).zF:Int).toNat default)⟩:oC)])))))))) (fun (dY:(List oC))=>(some (.inr (dY,(IntKind.i64.wrap (gW.2+1))))))) else (some (.inl (Sum.inl (gW.1)))))))) ([],0)).map .inl)) (fun (u14:(List oC))=>(some (.inl ((⟨[]⟩:dD),u14)))))))))))))
abbrev aJs (v0:dD × (List Int) × Int × Int) (v1:(List oC)):List (Nat × D):=[sP 2 0 0 0,(5,.c (E3.tree v0.2.1)),(8,.c (tA.tree v1))]
theorem aX5 (K:Nat) (a0:Bytes):bR Tryz.prog 8 [.c (.str a0)] [] (bU (F8 K a0)) (fun r=>.iV [.agg (dQ.cs r.1),.c (tA.tree r.2)]) (fun r=>[.cells (dQ.cs r.1)]):=by
 refine bR.it Tryz.f8 (fun r=>⟨[sP 2 0 0 0,(3,.c (tA.tree r.2))],[.cells (dQ.cs r.1)],[],0⟩) ?_
 unfold F8
 exact Ref.pt (
  .call [] (aUZ _ _) fun r1 =>
  .ite _ (
   .ob 3 2 3 (x:=.row 73 2 1 (hG [[iC r1.2.2.1,iC r1.2.2.2]])) (y:=(tA.row [(⟨r1.2.2.1,r1.2.2.2⟩:oC)])) (El.bZ tA [(⟨r1.2.2.1,r1.2.2.2⟩:oC)] rfl (by kernel_rfl)) <|
   .sl 3 2 25 (x:=.c (.own 3 1)) (y:=(.c (.own 3 ([(⟨r1.2.2.1,r1.2.2.2⟩:oC)].length)))) (eG.c (eD.own (by first | (simp;done) | (simp;omega) | omega))) <|
   .ok 3 0 0 0 (x:=.nil) (y:=iY.tree []) (El.cO iY) <|
   .fz 3 0 3 <|
   .ret [0] _) (
   .call [] (aUG _ _) fun r2 =>
   .jn (fun u4=>⟨[sP 2 0 0 0,sP 4 1 0 0,(5,.c (E3.tree r1.2.1)),(8,.c (tA.tree u4))],[.cells [.nil],.cells (dQ.cs r1.1)],[],0⟩) (
    .ite _ (
     .call [] (aUy _ _) fun r5 =>
     .ite _ (
      .ob 8 1 3 (x:=.row 73 2 1 (hG [[iC 18,iC r5]])) (y:=(tA.row [(⟨18,r5⟩:oC)])) (El.bZ tA [(⟨18,r5⟩:oC)] rfl (by kernel_rfl)) <|
      .sl 8 1 37 (x:=.c (.own 3 1)) (y:=(.c (.own 3 ([(⟨18,r5⟩:oC)].length)))) (eG.c (eD.own (by first | (simp;done) | (simp;omega) | omega))) <|
      .fz 8 0 3 <|
      .nil [0,2] _) (
      .nil [0,2] _)) (
     .nil [0,2] _)) fun u4 =>
   .ite _ (
    .sl 10 0 3 (x:=.c (.nil)) (y:=(.c (tA.tree []))) (eG.c (El.cO tA)) <|
    .ret [0] _) (
    .bk 0 (fun u14=>⟨[sP 2 0 0 0,(10,.c (.own 1 u14.length))],[.cells [.nil],tA.row u14],[],0⟩) (
     .ad 12 0 10 tA.ty tA.w (tA.at []) <|
     .lp [0,2] (fun gW=>⟨aJs r1 u4++[(10,.c (.own 1 gW.1.length)),sI 11 gW.2],[.cells [.nil],tA.row gW.1],[],0⟩) fun gW =>
     .lt _ fun x21 =>
     .ite _ (
      .bk 1 (fun dY=>⟨aJs r1 u4++[(10,.c (.own 1 dY.length)),sI 11 gW.2],[.cells [.nil],tA.row dY],[],0⟩) (
       .esc [0,1] [(cd (cd (bd Tryz.f8) [1,1,1,1,1,1,1,0,1,0,0,1,0]) [0])] ⟨aJs r1 u4++[(10,.c (.own 1 gW.1.length)),sI 11 gW.2,sB 45 x21],[.cells [.nil],tA.row gW.1],[],0⟩ (by
        refine Ref.eR 15 (by kernel_rfl) (by kernel_rfl) ?_
        refine dV.evC (vs:=[cS gW.2 u4.length,cS gW.2 u4.length]) (cR:=⟨aJs r1 u4++[sI 11 gW.2,(48,.c (.own 1 gW.1.length)),(52,.c (tA.ep (gd u4 gW.2) 0)),(54,.c (E3.tree r1.2.1)),(58,.c (tA.ep (gd u4 gW.2) 1))],[.cells [.nil],tA.row gW.1],[],0⟩) (fuel':=8) [0,1,2,3,4,6,7,8,9,10] [2,5,8,11,48,52,54,58] [0,1] rfl (by kernel_rfl) (by kernel_rfl) ?_
        refine dV.rG [16,17] ?_
        refine bQ.evC (vs:=[cS ((gd u4 gW.2).zF) r1.2.1.length]) (cR:=⟨aJs r1 u4++[sI 11 gW.2,(48,.c (.own 1 gW.1.length)),(62,.agg [iC ((gd u4 gW.2).oL),iC (r1.2.1.getD ((gd u4 gW.2).zF:Int).toNat default)])],[.cells [.nil],tA.row gW.1],[],0⟩) (fuel':=3) [5,11,12,13,14] [2,5,8,11,48,62] [0,1] rfl (by kernel_rfl) (by kernel_rfl) ?_
        refine bQ.nC (cR:=⟨aJs r1 u4++[sI 11 gW.2,(48,.c (.own 1 gW.1.length)),(63,.c (.own 2 1))],[.cells [.nil],tA.row gW.1,.row 73 2 1 (hG [[iC ((gd u4 gW.2).oL),iC (r1.2.1.getD ((gd u4 gW.2).zF:Int).toNat default)]])],[],0⟩) (fuel':=2) 15 [2,5,8,11,48,63] [0,1,2] rfl (by kernel_rfl) (by kernel_rfl) ?_
        refine bQ.conv (Conv.ob 2 (tA.row [(⟨(gd u4 gW.2).oL,(r1.2.1.getD ((gd u4 gW.2).zF:Int).toNat default)⟩:oC)]) (El.bZ tA [(⟨(gd u4 gW.2).oL,(r1.2.1.getD ((gd u4 gW.2).zF:Int).toNat default)⟩:oC)] rfl (by kernel_rfl))) ?_
        refine bQ.conv (Conv.sl 63 (.c (.own 2 ([(⟨(gd u4 gW.2).oL,(r1.2.1.getD ((gd u4 gW.2).zF:Int).toNat default)⟩:oC)].length))) (eG.c (eD.own (by first | (simp;done) | (simp;omega) | omega)))) ?_
        refine bQ.qM [16,17] rfl (by kernel_rfl) ?_
        refine cY.evC (vs:=[room ((gW.1.length+([(⟨(gd u4 gW.2).oL,(r1.2.1.getD ((gd u4 gW.2).zF:Int).toNat default)⟩:oC)].length)) * 16)]) (cR:=⟨aJs r1 u4++[sI 11 gW.2,(64,.c (.own 1 (gW.1.length+([(⟨(gd u4 gW.2).oL,(r1.2.1.getD ((gd u4 gW.2).zF:Int).toNat default)⟩:oC)].length))))],[.cells [.nil],.row 73 2 (gW.1.length+([(⟨(gd u4 gW.2).oL,(r1.2.1.getD ((gd u4 gW.2).zF:Int).toNat default)⟩:oC)].length)) fun i j=>bif Nat.blt i gW.1.length then tA.at gW.1 i j else (tA.at [(⟨(gd u4 gW.2).oL,(r1.2.1.getD ((gd u4 gW.2).zF:Int).toNat default)⟩:oC)]) (i - gW.1.length) j],[],0⟩) 0 1 1 [2,5,8,11,64] [0,3] rfl (by kernel_rfl) ?_
        refine cY.conv (Conv.ob 1 (tA.row (gW.1++[(⟨(gd u4 gW.2).oL,(r1.2.1.getD ((gd u4 gW.2).zF:Int).toNat default)⟩:oC)])) (El.cH tA gW.1 [(⟨(gd u4 gW.2).oL,(r1.2.1.getD ((gd u4 gW.2).zF:Int).toNat default)⟩:oC)] rfl rfl)) ?_
        refine cY.conv (Conv.sl 64 (.c (.own 1 ((gW.1++[(⟨(gd u4 gW.2).oL,(r1.2.1.getD ((gd u4 gW.2).zF:Int).toNat default)⟩:oC)]).length))) (eG.c (eD.own (by first | (simp;done) | (simp;omega) | omega)))) ?_
        refine cY.en1 1 1 [2,5,8,10,11] [0,1] ?_
        exact Ref.n0)) fun dY =>
      .nil [0,1] _) (
      .ret [0,1] _)) fun u14 =>
    .ok 16 0 0 0 (x:=.nil) (y:=iY.tree []) (El.cO iY) <|
    .fz 16 0 1 <|
    .ret [0] _)))
end Go.Proofs.YtdbfbedholdjaaaGreat
