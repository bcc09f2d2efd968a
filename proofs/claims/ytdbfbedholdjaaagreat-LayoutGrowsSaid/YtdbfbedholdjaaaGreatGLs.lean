/- No conditions. -/
import Derived.Test.YtdbfbedholdjaaaGreatGLL
import Derived.Test.YtdbfbedholdjaaaGreatGLG
import Derived.Test.YtdbfbedholdjaaaGreatGLp
import Derived.Test.YtdbfbedholdjaaaGreatProg
set_option linter.unusedVariables false
set_option linter.unusedSimpArgs false
set_option linter.unusedSectionVars false
namespace Go.Proofs.YtdbfbedholdjaaaGreat
open Go Go.Proofs Go.Dl
variable [dK]
set_option maxRecDepth 100000
set_option maxHeartbeats 4000000
def F72 (K:Nat) (a0:Bytes):Option ((cC × Int × Int) ⊕ (cC × Int × Int)) :=
 ((bV (aPp K a0)).bind (fun r1=>(some (.inl ((⟨r1.1,0,(Int.ofNat a0.length),0,0⟩:cC),r1.2.1,r1.2.2)))))
theorem aWH (K:Nat) (a0:Bytes):bS Tryz.prog 72 [.c (.str a0)] [] (bV (F72 K a0)) (fun r=>.kC [.c (.ptr 0 0 0),.c (.val (.int .i64 r.2.1)),.c (.val (.int .i64 r.2.2))]) (fun r=>[cV.o r.1]):=by
 refine bS.it Tryz.f72 (fun r=>⟨[sP 2 0 0 0,sI 3 r.2.1,sI 4 r.2.2],[cV.o r.1],[],0⟩) ?_
 unfold F72
 exact Ref.pt (
  .call [] (aSF _ _) fun r1 =>
  .ret [0] _)
def F33 (K:Nat) (a0:Bytes):Option ((cM × (List Int) × Int × Int) ⊕ (cM × (List Int) × Int × Int)) :=
 ((bV (F72 K a0)).bind (fun r1=>(if ((r1.2.1:Int) != 0)=true then (some (.inl ((⟨[]⟩:cM),[],r1.2.1,r1.2.2))) else (bP (bN ((iter K (fun (lY:cC × (List gX) × (List Int))=>(bO ((decide ((lY.1.qJ:Int)<(Int.ofNat lY.1.ft.length))) && ((lY.1.iS:Int) == 0)) (fun (a0C:Bool)=>(if a0C=true then (bP (bN ((cF true (bV (F73 K lY.1 ([73,78,84,69,82,70,65,67,69]:Bytes))) default).bind (fun aGT=>((cF (!aGT) (bV (F73 K lY.1 ([67,76,65,83,83]:Bytes))) default).bind (fun aAU=>((cF (!(aGT || aAU)) (bV (F73 K lY.1 ([80,82,79,71,82,65,77]:Bytes))) default).bind (fun aGU=>((cF (!((aGT || aAU) || aGU)) (bV (F73 K lY.1 ([84,65,83,75]:Bytes))) default).bind (fun aOK=>(bP (if (((aGT || aAU) || aGU) || aOK)=true then ((bV (F74 K lY.1 (Int.ofNat lY.2.1.length) 12)).bind (fun aAQ=>(some (.inr (aAQ))))) else (some (.inr (lY.1)))) (fun (pS:cC)=>((bV (F75 K pS)).bind (fun aDH=>(bW [room ((lY.2.2.length+([aDH.1].length)) * 8)] ((bV (F76 K aDH.2)).bind (fun v7=>(bW [room ((lY.2.1.length+([v7.1].length)) * 160)] (some (.inr (v7.2,(lY.2.1++[v7.1]),(lY.2.2++[aDH.1]))))))))))))))))))))) (fun (aDL:cC × (List gX) × (List Int))=>(some (.inr (aDL.1,aDL.2.1,aDL.2.2))))) else (some (.inl (Sum.inl (lY.1,lY.2.1,lY.2.2)))))))) (r1.1,[],[])).map .inl)) (fun (v8:cC × (List gX) × (List Int))=>(if ((v8.1.iS:Int) != 0)=true then (some (.inl ((⟨[]⟩:cM),[],v8.1.iS,v8.1.aGS))) else (some (.inl ((⟨v8.2.1⟩:cM),v8.2.2,0,0)))))))))
theorem aWI (K:Nat) (a0:Bytes):bS Tryz.prog 33 [.c (.str a0)] [] (bV (F33 K a0)) (fun r=>.kC [.agg (dP.cs r.1),.c (E3.tree r.2.1),.c (.val (.int .i64 r.2.2.1)),.c (.val (.int .i64 r.2.2.2))]) (fun r=>[.cells (dP.cs r.1)]):=by
 refine bS.it Tryz.f33 (fun r=>⟨[sP 2 0 0 0,(3,.c (E3.tree r.2.1)),sI 4 r.2.2.1,sI 5 r.2.2.2],[.cells (dP.cs r.1)],[],0⟩) ?_
 unfold F33
 exact Ref.pt (
  .call [] (aWH _ _) fun r1 =>
  .ite _ (
   .ok 3 0 0 0 (x:=.nil) (y:=gT.tree []) (El.cE gT) <|
   .sl 3 0 3 (x:=.c (.nil)) (y:=(.c (E3.tree []))) (jR.c (El.cE E3)) <|
   .ret [0] _) (
   .bk 0 (fun v8=>⟨[sP 2 0 0 0,sP 6 1 0 0,sP 9 2 0 0,(10,.c (.own 4 v8.2.2.length))],[.cells [.nil],cV.o v8.1,.cells [.own 3 v8.2.1.length],gT.row v8.2.1,E3.row v8.2.2],[],0⟩) (
    .ad 5 0 10 E3.ty E3.w (E3.at []) <|
    .adc 5 0 2 0 gT.ty gT.w (gT.at []) <|
    .lp [0,1,2,4,3] (fun lY=>⟨[sP 2 0 0 0,sP 6 1 0 0,sP 9 2 0 0,(10,.c (.own 4 lY.2.2.length))],[.cells [.nil],cV.o lY.1,.cells [.own 3 lY.2.1.length],gT.row lY.2.1,E3.row lY.2.2],[],0⟩) fun lY =>
    .ex [0,1,2,4,5,6] <|
    .tx [] <|
    .ex [3,7,8,9,10,11,12,13,14,15,16] <|
    .lt _ fun a0C =>
    .ite _ (
     .bk 1 (fun aDL=>⟨[sP 2 0 0 0,sP 6 1 0 0,sP 9 2 0 0,(10,.c (.own 4 aDL.2.2.length))],[.cells [.nil],cV.o aDL.1,.cells [.own 3 aDL.2.1.length],gT.row aDL.2.1,E3.row aDL.2.2],[],0⟩) (
      .look (default:Bool) _ [1] (jZ K lY.1 ([73,78,84,69,82,70,65,67,69]:Bytes)) (fun _=>rfl) fun aGT =>
      .look (default:Bool) _ [1] (jZ K lY.1 ([67,76,65,83,83]:Bytes)) (fun _=>rfl) fun aAU =>
      .look (default:Bool) _ [1] (jZ K lY.1 ([80,82,79,71,82,65,77]:Bytes)) (fun _=>rfl) fun aGU =>
      .look (default:Bool) _ [1] (jZ K lY.1 ([84,65,83,75]:Bytes)) (fun _=>rfl) fun aOK =>
      .jn (fun pS=>⟨[sP 2 0 0 0,sP 6 1 0 0,sP 9 2 0 0,(10,.c (.own 4 lY.2.2.length))],[.cells [.nil],cV.o pS,.cells [.own 3 lY.2.1.length],gT.row lY.2.1,E3.row lY.2.2],[],0⟩) (
       .ite _ (
        .call [1] (oL _ _ _ _) fun aAQ =>
        .nil [0,1,2,3,4] _) (
        .nil [0,1,2,3,4] _)) fun pS =>
      .call [1] (aOC _ _) fun aDH =>
      .ob 9 2 5 (El.cB E3 [aDH.1] rfl rfl) <|
      .ck _ <|
      .ap 9 1 6 64 E3 lY.2.2 [aDH.1] <|
      .call [1] (aWx _ _) fun v7 =>
      .ob 11 3 9 (El.cB gT [v7.1] rfl rfl) <|
      .ck _ <|
      .ap 11 2 10 71 gT lY.2.1 [v7.1] <|
      .nil [0,1,2,10,6] _) fun aDL =>
     .nil [0,1,2,3,4] _) (
     .ret [0,1,2,3,4] _)) fun v8 =>
   .ite _ (
    .ex [0,1,2,3,5,6,7] <|
    .tx [9] <|
    .all [2,78,81,85,82,86,3,4,5] (rg (cd (bd Tryz.f33) [1,1,1,1,1,1,0,1,0,0])) [true,true,true,true,false,true,true,true,false,false,false,false,false] (hl []) ⟨[sP 2 0 0 0,(3,.c (.nil)),sI 4 v8.1.iS,sI 5 v8.1.aGS],[.cells [.nil]],[],0⟩ [.s 2] <|
    .ok 1000000 0 0 0 (x:=.nil) (y:=gT.tree []) (El.cE gT) <|
    .sl 1000000 0 3 (x:=.c (.nil)) (y:=(.c (E3.tree []))) (jR.c (El.cE E3)) <|
    .ret [0] _) (
    .fz 14 0 3 <|
    .fz 14 0 4 <|
    .ret [0] _)))
def F8 (K:Nat) (a0:Bytes):Option ((cM × (List uJ)) ⊕ (cM × (List uJ))) :=
 ((bV (F33 K a0)).bind (fun r1=>(if ((r1.2.2.1:Int) != 0)=true then (some (.inl ((⟨[]⟩:cM),[(⟨r1.2.2.1,r1.2.2.2⟩:uJ)]))) else ((bV (F34 K r1.1)).bind (fun r2=>(bP (if (((Int.ofNat r2.length):Int) == 0)=true then ((bV (F35 K r1.1)).bind (fun r5=>(if (decide ((r5:Int) ≥ 0))=true then (some (.inr ([(⟨18,r5⟩:uJ)]))) else (some (.inr (r2)))))) else (some (.inr (r2)))) (fun (u4:(List uJ))=>(if (((Int.ofNat u4.length):Int) == 0)=true then (some (.inl (r1.1,[]))) else (bP (bN ((iter K (fun (kI:(List uJ) × Int)=>(bO (decide ((kI.2:Int)<(Int.ofNat u4.length))) (fun (x21:Bool)=>(if x21=true then (bP (bN (bW [cY kI.2 u4.length,cY kI.2 u4.length] (bW [cY ((u4.getD (kI.2:Int).toNat default).fAt) r1.2.1.length] (bW [room ((kI.1.length+([(⟨(u4.getD (kI.2:Int).toNat default).yM,(r1.2.1.getD ((u4.getD (kI.2:Int).toNat default).fAt:Int).toNat default)⟩:uJ)].length)) * 16)] (some (.inr ((kI.1++[(⟨(u4.getD (kI.2:Int).toNat default).yM,(r1.2.1.getD ((u4.getD (kI.2:Int).toNat default).fAt:Int).toNat default)⟩:uJ)])))))))) (fun (dZ:(List uJ))=>(some (.inr (dZ,(IntKind.i64.wrap (kI.2+1))))))) else (some (.inl (Sum.inl (kI.1)))))))) ([],0)).map .inl)) (fun (u14:(List uJ))=>(some (.inl ((⟨[]⟩:cM),u14)))))))))))))
theorem a0E (K:Nat) (a0:Bytes):bS Tryz.prog 8 [.c (.str a0)] [] (bV (F8 K a0)) (fun r=>.kC [.agg (dP.cs r.1),.c (zW.tree r.2)]) (fun r=>[.cells (dP.cs r.1)]):=by
 refine bS.it Tryz.f8 (fun r=>⟨[sP 2 0 0 0,(3,.c (zW.tree r.2))],[.cells (dP.cs r.1)],[],0⟩) ?_
 unfold F8
 exact Ref.pt (
  .call [] (aWI _ _) fun r1 =>
  .ite _ (
   .ob 3 2 3 (El.cB zW [(⟨r1.2.2.1,r1.2.2.2⟩:uJ)] rfl rfl) <|
   .ok 3 0 0 0 (x:=.nil) (y:=gT.tree []) (El.cE gT) <|
   .fz 3 0 3 <|
   .ret [0] _) (
   .call [] (aWi _ _) fun r2 =>
   .jn (fun u4=>⟨[sP 2 0 0 0,sP 4 1 0 0,(5,.c (E3.tree r1.2.1)),(8,.c (zW.tree u4))],[.cells [.nil],.cells (dP.cs r1.1)],[],0⟩) (
    .ite _ (
     .call [] (aWc _ _) fun r5 =>
     .ite _ (
      .ob 8 1 3 (El.cB zW [(⟨18,r5⟩:uJ)] rfl rfl) <|
      .fz 8 0 3 <|
      .nil [0,2] _) (
      .nil [0,2] _)) (
     .nil [0,2] _)) fun u4 =>
   .ite _ (
    .sl 10 0 3 (x:=.c (.nil)) (y:=(.c (zW.tree []))) (jR.c (El.cE zW)) <|
    .ret [0] _) (
    .bk 0 (fun u14=>⟨[sP 2 0 0 0,(10,.c (.own 1 u14.length))],[.cells [.nil],zW.row u14],[],0⟩) (
     .ad 12 0 10 zW.ty zW.w (zW.at []) <|
     .lp [0,2] (fun kI=>⟨[sP 2 0 0 0,(5,.c (E3.tree r1.2.1)),(8,.c (zW.tree u4)),(10,.c (.own 1 kI.1.length)),sI 11 kI.2],[.cells [.nil],zW.row kI.1],[],0⟩) fun kI =>
     .lt _ fun x21 =>
     .ite _ (
      .bk 1 (fun dZ=>⟨[sP 2 0 0 0,(5,.c (E3.tree r1.2.1)),(8,.c (zW.tree u4)),(10,.c (.own 1 dZ.length)),sI 11 kI.2],[.cells [.nil],zW.row dZ],[],0⟩) (
       .iU [0,1,2,3,4,6,7,8,9,10] _ <|
       .tx [16,17] <|
       .iU [5,11,12,13,14] _ <|
       .fk 15 <|
       .ob 999999 0 2 (El.cB zW [(⟨(gd u4 kI.2).yM,(r1.2.1.getD ((gd u4 kI.2).fAt:Int).toNat default)⟩:uJ)] rfl rfl) <|
       .tl [16,17] <|
       .ck _ <|
       .ap 15 1 3 64 zW kI.1 [(⟨(gd u4 kI.2).yM,(r1.2.1.getD ((gd u4 kI.2).fAt:Int).toNat default)⟩:uJ)] <|
       .nil [0,3] _) fun dZ =>
      .nil [0,1] _) (
      .ret [0,1] _)) fun u14 =>
    .ok 16 0 0 0 (x:=.nil) (y:=gT.tree []) (El.cE gT) <|
    .fz 16 0 1 <|
    .ret [0] _)))
end Go.Proofs.YtdbfbedholdjaaaGreat
