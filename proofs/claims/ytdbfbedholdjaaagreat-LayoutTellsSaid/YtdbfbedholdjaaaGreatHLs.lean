/- No conditions. -/
import Derived.Test.YtdbfbedholdjaaaGreatHLL
import Derived.Test.YtdbfbedholdjaaaGreatHLG
import Derived.Test.YtdbfbedholdjaaaGreatHLp
import Derived.Test.YtdbfbedholdjaaaGreatProg
set_option linter.unusedVariables false
set_option linter.unusedSimpArgs false
set_option linter.unusedSectionVars false
namespace Go.Proofs.YtdbfbedholdjaaaGreat
open Go Go.Proofs Go.Dl
variable [dO]
set_option maxRecDepth 100000
set_option maxHeartbeats 4000000
def F72 (K:Nat) (a0:Bytes):Option ((cF × Int × Int) ⊕ (cF × Int × Int)) :=
 ((bX (aQG K a0)).bind (fun r1=>(some (.inl ((⟨r1.1,0,(Int.ofNat a0.length),0,0⟩:cF),r1.2.1,r1.2.2)))))
theorem aYL (K:Nat) (a0:Bytes):bV Tryz.prog 72 [.c (.str a0)] [] (bX (F72 K a0)) (fun r=>.jW [.c (.ptr 0 0 0),.c (.val (.int .i64 r.2.1)),.c (.val (.int .i64 r.2.2))]) (fun r=>[cW.o r.1]):=by
 refine bV.it Tryz.f72 (fun r=>⟨[sP 2 0 0 0,sI 3 r.2.1,sI 4 r.2.2],[cW.o r.1],[],0⟩) ?_
 unfold F72
 exact Ref.pt (
  .call [] (aUb _ _) fun r1 =>
  .ret [0] _)
def F33 (K:Nat) (a0:Bytes):Option ((cK × (List Int) × Int × Int) ⊕ (cK × (List Int) × Int × Int)) :=
 ((bX (F72 K a0)).bind (fun r1=>(if ((r1.2.1:Int) != 0)=true then (some (.inl ((⟨[]⟩:cK),[],r1.2.1,r1.2.2))) else (bT (bQ ((iter K (fun (lX:cF × (List iR) × (List Int))=>(bR ((decide ((lX.1.qT:Int)<(Int.ofNat lX.1.ft.length))) && ((lX.1.iQ:Int) == 0)) (fun (a3N:Bool)=>(if a3N=true then (bT (bQ ((cE true (bX (F73 K lX.1 ([73,78,84,69,82,70,65,67,69]:Bytes))) default).bind (fun aHy=>((cE (!aHy) (bX (F73 K lX.1 ([67,76,65,83,83]:Bytes))) default).bind (fun aBk=>((cE (!(aHy || aBk)) (bX (F73 K lX.1 ([80,82,79,71,82,65,77]:Bytes))) default).bind (fun aHz=>((cE (!((aHy || aBk) || aHz)) (bX (F73 K lX.1 ([84,65,83,75]:Bytes))) default).bind (fun aP4=>(bT (if (((aHy || aBk) || aHz) || aP4)=true then ((bX (F74 K lX.1 (Int.ofNat lX.2.1.length) 12)).bind (fun aBe=>(some (.inr (aBe))))) else (some (.inr (lX.1)))) (fun (pX:cF)=>((bX (F75 K pX)).bind (fun aEh=>(bY [room ((lX.2.2.length+([aEh.1].length)) * 8)] ((bX (F76 K aEh.2)).bind (fun wM=>(bY [room ((lX.2.1.length+([wM.1].length)) * 160)] (some (.inr (wM.2,(lX.2.1++[wM.1]),(lX.2.2++[aEh.1]))))))))))))))))))))) (fun (aEo:cF × (List iR) × (List Int))=>(some (.inr (aEo.1,aEo.2.1,aEo.2.2))))) else (some (.inl (Sum.inl (lX.1,lX.2.1,lX.2.2)))))))) (r1.1,[],[])).map .inl)) (fun (wN:cF × (List iR) × (List Int))=>(if ((wN.1.iQ:Int) != 0)=true then (some (.inl ((⟨[]⟩:cK),[],wN.1.iQ,wN.1.aHx))) else (some (.inl ((⟨wN.2.1⟩:cK),wN.2.2,0,0)))))))))
theorem aYM (K:Nat) (a0:Bytes):bV Tryz.prog 33 [.c (.str a0)] [] (bX (F33 K a0)) (fun r=>.jW [.agg (c9.cs r.1),.c (E3.tree r.2.1),.c (.val (.int .i64 r.2.2.1)),.c (.val (.int .i64 r.2.2.2))]) (fun r=>[.cells (c9.cs r.1)]):=by
 refine bV.it Tryz.f33 (fun r=>⟨[sP 2 0 0 0,(3,.c (E3.tree r.2.1)),sI 4 r.2.2.1,sI 5 r.2.2.2],[.cells (c9.cs r.1)],[],0⟩) ?_
 unfold F33
 exact Ref.pt (
  .call [] (aYL _ _) fun r1 =>
  .ite _ (
   .ok 3 0 0 0 (x:=.nil) (y:=gW.tree []) (El.cJ gW) <|
   .sl 3 0 3 (x:=.c (.nil)) (y:=(.c (E3.tree []))) (jS.c (El.cJ E3)) <|
   .ret [0] _) (
   .bk 0 (fun wN=>⟨[sP 2 0 0 0,sP 6 1 0 0,sP 9 2 0 0,(10,.c (.own 4 wN.2.2.length))],[.cells [.nil],cW.o wN.1,.cells [.own 3 wN.2.1.length],gW.row wN.2.1,E3.row wN.2.2],[],0⟩) (
    .ad 5 0 10 E3.ty E3.w (E3.at []) <|
    .adc 5 0 2 0 gW.ty gW.w (gW.at []) <|
    .lp [0,1,2,4,3] (fun lX=>⟨[sP 2 0 0 0,sP 6 1 0 0,sP 9 2 0 0,(10,.c (.own 4 lX.2.2.length))],[.cells [.nil],cW.o lX.1,.cells [.own 3 lX.2.1.length],gW.row lX.2.1,E3.row lX.2.2],[],0⟩) fun lX =>
    .ex [0,1,2,4,5,6] <|
    .tx [] <|
    .ex [3,7,8,9,10,11,12,13,14,15,16] <|
    .lt _ fun a3N =>
    .ite _ (
     .bk 1 (fun aEo=>⟨[sP 2 0 0 0,sP 6 1 0 0,sP 9 2 0 0,(10,.c (.own 4 aEo.2.2.length))],[.cells [.nil],cW.o aEo.1,.cells [.own 3 aEo.2.1.length],gW.row aEo.2.1,E3.row aEo.2.2],[],0⟩) (
      .look (default:Bool) _ [1] (j5 K lX.1 ([73,78,84,69,82,70,65,67,69]:Bytes)) (fun _=>rfl) fun aHy =>
      .look (default:Bool) _ [1] (j5 K lX.1 ([67,76,65,83,83]:Bytes)) (fun _=>rfl) fun aBk =>
      .look (default:Bool) _ [1] (j5 K lX.1 ([80,82,79,71,82,65,77]:Bytes)) (fun _=>rfl) fun aHz =>
      .look (default:Bool) _ [1] (j5 K lX.1 ([84,65,83,75]:Bytes)) (fun _=>rfl) fun aP4 =>
      .jn (fun pX=>⟨[sP 2 0 0 0,sP 6 1 0 0,sP 9 2 0 0,(10,.c (.own 4 lX.2.2.length))],[.cells [.nil],cW.o pX,.cells [.own 3 lX.2.1.length],gW.row lX.2.1,E3.row lX.2.2],[],0⟩) (
       .ite _ (
        .call [1] (oO _ _ _ _) fun aBe =>
        .nil [0,1,2,3,4] _) (
        .nil [0,1,2,3,4] _)) fun pX =>
      .call [1] (aPW _ _) fun aEh =>
      .ob 9 2 5 (El.b9 E3 [aEh.1] rfl rfl) <|
      .ck _ <|
      .ap 9 1 6 64 E3 lX.2.2 [aEh.1] <|
      .call [1] (aYy _ _) fun wM =>
      .ob 11 3 9 (El.b9 gW [wM.1] rfl rfl) <|
      .ck _ <|
      .ap 11 2 10 71 gW lX.2.1 [wM.1] <|
      .nil [0,1,2,10,6] _) fun aEo =>
     .nil [0,1,2,3,4] _) (
     .ret [0,1,2,3,4] _)) fun wN =>
   .ite _ (
    .ex [0,1,2,3,5,6,7] <|
    .tx [9] <|
    .all [2,78,81,85,82,86,3,4,5] (rg (cd (bd Tryz.f33) [1,1,1,1,1,1,0,1,0,0])) [true,true,true,true,false,true,true,true,false,false,false,false,false] (hl []) ⟨[sP 2 0 0 0,(3,.c (.nil)),sI 4 wN.1.iQ,sI 5 wN.1.aHx],[.cells [.nil]],[],0⟩ [.s 2] <|
    .ok 1000000 0 0 0 (x:=.nil) (y:=gW.tree []) (El.cJ gW) <|
    .sl 1000000 0 3 (x:=.c (.nil)) (y:=(.c (E3.tree []))) (jS.c (El.cJ E3)) <|
    .ret [0] _) (
    .fz 14 0 3 <|
    .fz 14 0 4 <|
    .ret [0] _)))
def F8 (K:Nat) (a0:Bytes):Option ((cK × (List uV)) ⊕ (cK × (List uV))) :=
 ((bX (F33 K a0)).bind (fun r1=>(if ((r1.2.2.1:Int) != 0)=true then (some (.inl ((⟨[]⟩:cK),[(⟨r1.2.2.1,r1.2.2.2⟩:uV)]))) else ((bX (F34 K r1.1)).bind (fun r2=>(bT (if (((Int.ofNat r2.length):Int) == 0)=true then ((bX (F35 K r1.1)).bind (fun r5=>(if (decide ((r5:Int) ≥ 0))=true then (some (.inr ([(⟨18,r5⟩:uV)]))) else (some (.inr (r2)))))) else (some (.inr (r2)))) (fun (u4:(List uV))=>(if (((Int.ofNat u4.length):Int) == 0)=true then (some (.inl (r1.1,[]))) else (bT (bQ ((iter K (fun (kF:(List uV) × Int)=>(bR (decide ((kF.2:Int)<(Int.ofNat u4.length))) (fun (x21:Bool)=>(if x21=true then (bT (bQ (bY [cP kF.2 u4.length,cP kF.2 u4.length] (bY [cP ((u4.getD (kF.2:Int).toNat default).fAt) r1.2.1.length] (bY [room ((kF.1.length+([(⟨(u4.getD (kF.2:Int).toNat default).y9,(r1.2.1.getD ((u4.getD (kF.2:Int).toNat default).fAt:Int).toNat default)⟩:uV)].length)) * 16)] (some (.inr ((kF.1++[(⟨(u4.getD (kF.2:Int).toNat default).y9,(r1.2.1.getD ((u4.getD (kF.2:Int).toNat default).fAt:Int).toNat default)⟩:uV)])))))))) (fun (eA:(List uV))=>(some (.inr (eA,(IntKind.i64.wrap (kF.2+1))))))) else (some (.inl (Sum.inl (kF.1)))))))) ([],0)).map .inl)) (fun (u14:(List uV))=>(some (.inl ((⟨[]⟩:cK),u14)))))))))))))
theorem a3O (K:Nat) (a0:Bytes):bV Tryz.prog 8 [.c (.str a0)] [] (bX (F8 K a0)) (fun r=>.jW [.agg (c9.cs r.1),.c (E73.tree r.2)]) (fun r=>[.cells (c9.cs r.1)]):=by
 refine bV.it Tryz.f8 (fun r=>⟨[sP 2 0 0 0,(3,.c (E73.tree r.2))],[.cells (c9.cs r.1)],[],0⟩) ?_
 unfold F8
 exact Ref.pt (
  .call [] (aYM _ _) fun r1 =>
  .ite _ (
   .ob 3 2 3 (El.b9 E73 [(⟨r1.2.2.1,r1.2.2.2⟩:uV)] rfl rfl) <|
   .ok 3 0 0 0 (x:=.nil) (y:=gW.tree []) (El.cJ gW) <|
   .fz 3 0 3 <|
   .ret [0] _) (
   .call [] (aX2 _ _) fun r2 =>
   .jn (fun u4=>⟨[sP 2 0 0 0,sP 4 1 0 0,(5,.c (E3.tree r1.2.1)),(8,.c (E73.tree u4))],[.cells [.nil],.cells (c9.cs r1.1)],[],0⟩) (
    .ite _ (
     .call [] (aXW _ _) fun r5 =>
     .ite _ (
      .ob 8 1 3 (El.b9 E73 [(⟨18,r5⟩:uV)] rfl rfl) <|
      .fz 8 0 3 <|
      .nil [0,2] _) (
      .nil [0,2] _)) (
     .nil [0,2] _)) fun u4 =>
   .ite _ (
    .sl 10 0 3 (x:=.c (.nil)) (y:=(.c (E73.tree []))) (jS.c (El.cJ E73)) <|
    .ret [0] _) (
    .bk 0 (fun u14=>⟨[sP 2 0 0 0,(10,.c (.own 1 u14.length))],[.cells [.nil],E73.row u14],[],0⟩) (
     .ad 12 0 10 E73.ty E73.w (E73.at []) <|
     .lp [0,2] (fun kF=>⟨[sP 2 0 0 0,(5,.c (E3.tree r1.2.1)),(8,.c (E73.tree u4)),(10,.c (.own 1 kF.1.length)),sI 11 kF.2],[.cells [.nil],E73.row kF.1],[],0⟩) fun kF =>
     .lt _ fun x21 =>
     .ite _ (
      .bk 1 (fun eA=>⟨[sP 2 0 0 0,(5,.c (E3.tree r1.2.1)),(8,.c (E73.tree u4)),(10,.c (.own 1 eA.length)),sI 11 kF.2],[.cells [.nil],E73.row eA],[],0⟩) (
       .hO [0,1,2,3,4,6,7,8,9,10] _ <|
       .tx [16,17] <|
       .hO [5,11,12,13,14] _ <|
       .fk 15 <|
       .ob 999999 0 2 (El.b9 E73 [(⟨(gd u4 kF.2).y9,(r1.2.1.getD ((gd u4 kF.2).fAt:Int).toNat default)⟩:uV)] rfl rfl) <|
       .tl [16,17] <|
       .ck _ <|
       .ap 15 1 3 64 E73 kF.1 [(⟨(gd u4 kF.2).y9,(r1.2.1.getD ((gd u4 kF.2).fAt:Int).toNat default)⟩:uV)] <|
       .nil [0,3] _) fun eA =>
      .nil [0,1] _) (
      .ret [0,1] _)) fun u14 =>
    .ok 16 0 0 0 (x:=.nil) (y:=gW.tree []) (El.cJ gW) <|
    .fz 16 0 1 <|
    .ret [0] _)))
end Go.Proofs.YtdbfbedholdjaaaGreat
