/- No conditions. -/
import Derived.Test.YtdbfbedholdjaaaGreatHLn
import Derived.Test.YtdbfbedholdjaaaGreatHBL
import Derived.Test.YtdbfbedholdjaaaGreatHLq
import Derived.Test.YtdbfbedholdjaaaGreatProg
set_option linter.unusedVariables false
set_option linter.unusedSimpArgs false
set_option linter.unusedSectionVars false
namespace Go.Proofs.YtdbfbedholdjaaaGreat
open Go Go.Proofs Go.Dl
variable [dO]
set_option maxRecDepth 100000
set_option maxHeartbeats 4000000
def F40 (K:Nat) (a0:cK) (a1:Int):Option ((w8) ⊕ (w8)) :=
 ((bX (F52 K a0 a1)).bind (fun r1=>((cE true (bX (F36 K r1)) default).bind (fun r2=>((bX (F52 K a0 a1)).bind (fun r3=>((bX (F38 K r3)).bind (fun r4=>((bX (F10 K a0 a1)).bind (fun r6=>(bT (if (decide (((Int.ofNat r6.length):Int) > 1))=true then (bY [cP 1 r6.length] ((cE true (bX (F11 K a0 (r6.getD (1:Int).toNat default))) default).bind (fun r9=>(some (.inr (r9)))))) else (some (.inr ((-1))))) (fun (u8:Int)=>((bX (F49 K a0 a1)).bind (fun j7=>(bT (bQ ((iter K (fun (l5:(List Int) × (List Bytes) × Int)=>(bR (decide ((l5.2.2:Int)<(Int.ofNat j7.length))) (fun (x58:Bool)=>(if x58=true then (bT (bQ (bY [cP l5.2.2 j7.length] ((bX (F87 K a0 a1 (j7.getD (l5.2.2:Int).toNat default))).bind (fun r63=>((cE true (bX (F19 K a0 r63.1)) default).bind (fun r64=>(bY [room ((l5.1.length+([r64].length)) * 8)] (bY [cP r63.1.cZ a0.bP.length,cP r63.1.dF ((a0.bP.getD (r63.1.cZ:Int).toNat default).bS).length] ((cE true (bX (F39 K (((a0.bP.getD (r63.1.cZ:Int).toNat default).bS).getD (r63.1.dF:Int).toNat default))) default).bind (fun r65=>(bY [room ((l5.2.1.length+([r65].length)) * 16)] (some (.inr ((l5.1++[r64]),(l5.2.1++[r65]))))))))))))))) (fun (u62:(List Int) × (List Bytes))=>(some (.inr (u62.1,u62.2,(IntKind.i64.wrap (l5.2.2+1))))))) else (some (.inl (Sum.inl (l5.1,l5.2.1)))))))) ([],[],0)).map .inl)) (fun (sY:(List Int) × (List Bytes))=>((bX (aOa K a0 a1)).bind (fun r66=>((bX (F89 K r66)).bind (fun pK=>(bY [decide (r66.length=pK.length)] (bT (bQ ((iter K (fun (oY:(List l4) × Int)=>(bR (decide ((oY.2:Int)<(Int.ofNat pK.length))) (fun (a3A:Bool)=>(if a3A=true then (bT (bQ (bY [cP oY.2 pK.length] ((bX (F22 K a0 (pK.getD ((oY.2:Int).toNat) default))).bind (fun aHI=>(bY [cP (pK.getD ((oY.2:Int).toNat) default) a0.bP.length] (bR ((a0.bP.getD ((pK.getD ((oY.2:Int).toNat) default):Int).toNat default).bS) (fun (aQu:(List hU))=>(bR (Int.ofNat ((a0.bP.getD ((pK.getD ((oY.2:Int).toNat) default):Int).toNat default).bS).length) (fun (aT7:Int)=>(bT (bQ ((iter K (fun (zA:(List Int) × Int)=>(if (decide ((zA.2:Int)<aT7))=true then (bT (bQ (bY [cP zA.2 aQu.length] (bR ((aQu.getD (zA.2:Int).toNat default).cD) (fun (aYG:Bytes)=>((cE true (bX (F90 K a0 a1 aYG)) default).bind (fun aQv=>(bY [room ((zA.1.length+([aQv].length)) * 8)] (some (.inr ((zA.1++[aQv]))))))))))) (fun (vG:(List Int))=>(some (.inr (vG,(IntKind.i64.wrap (zA.2+1))))))) else (some (.inl (Sum.inl (zA.1)))))) ([],0)).map .inl)) (fun (aHJ:(List Int))=>(bY [room ((oY.1.length+([(⟨aHI,aHJ⟩:l4)].length)) * 32)] (some (.inr ((oY.1++[(⟨aHI,aHJ⟩:l4)])))))))))))))))) (fun (aG9:(List l4))=>(some (.inr (aG9,(IntKind.i64.wrap (oY.2+1))))))) else (some (.inl (Sum.inl (oY.1)))))))) ([],0)).map .inl)) (fun (aQw:(List l4))=>(some (.inl ((⟨u8,r2,r4,sY.1,sY.2,aQw⟩:w8)))))))))))))))))))))))))))
abbrev uA (v0:Int):List (Nat × D):=[sI 1 v0,sP 2 0 0 0,sP 4 1 0 0,sP 5 2 0 0]
abbrev aKW (v0:cK) (v1:Int) (v2:Bytes) (v3:(List Int)) (v4:(List Int) × (List Bytes)) (v5:(List l4) × Int):List Go.Dl.Obj:=[.cells (c9.cs v0),oX3,.cells [iC v1,.str v2,E3.tree v3,.own 3 v4.1.length,.own 4 v4.2.length,.own 5 v5.1.length],E3.row v4.1,E9.row v4.2,tY.row v5.1]
theorem aYH (K:Nat) (a0:cK) (a1:Int):bV Tryz.prog 40 [.agg (c9.cs a0),.c (.val (.int .i64 a1))] [] (bX (F40 K a0 a1)) (fun r=>.agg (nW.cs r)) (fun r=>[.cells (nW.cs r)]):=by
 refine bV.it Tryz.f40 (fun r=>⟨[sP 4 0 0 0],[.cells (nW.cs r)],[],0⟩) ?_
 unfold F40
 exact Ref.pt (
  .ex [1,5] <|
  .tx [2,3,6,7,10] <|
  .ex [0] <|
  .kn fun r1 er1 =>
  .kn fun r2 er2 =>
  .kn fun r3 er3 =>
  .kn fun r4 er4 =>
  .all [1,2,4,17,18,22,19,20,21,23,24,25,5] (rg (cd (bd Tryz.f40) [1,0])) [true,true,false,false,false,true,false,false,false,false,false] (hl [(2,.kc [] (bV.eq (aIr _ _ _) er1) []),(3,.kc [] (bV.eq (aAp _ _) er2) []),(6,.kc [] (bV.eq (aIr _ _ _) er3) []),(7,.kc [] (bV.eq (aXJ _ _) er4) [])]) ⟨uA a1,[.cells (c9.cs a0),oX3,.cells [iC (-1),.str r2,E3.tree r4,.nil,.nil,.nil]],[],0⟩ [.s 2,.s 4,.s 5] <|
  .call [] (aBV _ _ _) fun r6 =>
  .jn (fun u8=>⟨uA a1,[.cells (c9.cs a0),oX3,.cells [iC u8,.str r2,E3.tree r4,.nil,.nil,.nil]],[],0⟩) (
   .ite _ (
    .hO [1,2] _ <|
    .tx [6] <|
    .ex [0,3] <|
    .dQ 4 (default:Int) _ [] (aFP K a0 (gd r6 1)) (fun _=>rfl) fun r9 =>
    .ex [5] <|
    .tl [6] <|
    .nil [0,1,2] _) (
    .nil [0,1,2] _)) fun u8 =>
  .call [] (aNr _ _ _) fun j7 =>
  .bk 0 (fun sY=>⟨uA a1,[.cells (c9.cs a0),oX3,.cells [iC u8,.str r2,E3.tree r4,.own 3 sY.1.length,.own 4 sY.2.length,.nil],E3.row sY.1,E9.row sY.2],[],0⟩) (
   .adc 5 0 2 3 E3.ty E3.w (E3.at []) <|
   .adc 5 0 2 4 E9.ty E9.w (E9.at []) <|
   .lp [0,1,2,3,4] (fun l5=>⟨uA a1++[(40,.c (E9.tree j7)),sI 41 (Int.ofNat j7.length),sI 42 l5.2.2],[.cells (c9.cs a0),oX3,.cells [iC u8,.str r2,E3.tree r4,.own 3 l5.1.length,.own 4 l5.2.1.length,.nil],E3.row l5.1,E9.row l5.2.1],[],0⟩) fun l5 =>
   .lt _ fun x58 =>
   .ite _ (
    .bk 1 (fun u62=>⟨uA a1++[(40,.c (E9.tree j7)),sI 41 (Int.ofNat j7.length),sI 42 l5.2.2],[.cells (c9.cs a0),oX3,.cells [iC u8,.str r2,E3.tree r4,.own 3 u62.1.length,.own 4 u62.2.length,.nil],E3.row u62.1,E9.row u62.2],[],0⟩) (
     .ck _ <|
     .call [] (aPa _ _ _ _) fun r63 =>
     .ex [0] <|
     .tx [6,7,8] <|
     .ex [1,2,3] <|
     .dQ 4 (default:Int) _ [] (aC0 K a0 r63.1) (fun _=>rfl) fun r64 =>
     .fk 5 <|
     .ob 999999 0 7 (El.b9 E3 [r64] rfl rfl) <|
     .tl [6,7,8] <|
     .ck _ <|
     .ap 9 2 8 59 E3 l5.1 [r64] <|
     .ex [0,2,4,9] <|
     .tx [15,16,17] <|
     .hO [1,3,5,6,7,8,10,11,12] _ <|
     .dQ 13 (default:Bytes) _ [] (aPm K (gd ((gd a0.bP r63.1.cZ).bS) r63.1.dF)) (fun _=>rfl) fun r65 =>
     .fk 14 <|
     .ob 999999 0 9 (El.b9 E9 [r65] rfl rfl) <|
     .tl [15,16,17] <|
     .ck _ <|
     .ap 10 2 10 76 E9 l5.2.1 [r65] <|
     .nil [0,1,2,8,10] _) fun u62 =>
    .nil [0,1,2,3,4] _) (
    .ret [0,1,2,3,4] _)) fun sY =>
  .call [] (aTA _ _ _) fun r66 =>
  .call [5] (aWu _ _) fun pK =>
  .aD7 [0,1,2,3,4,5] 13 (rg (cd (bd Tryz.f40) [1,1,1,1,1,0])) ((rg (cd (bd Tryz.f40) [1,1,1,1,1,0])).toList.drop 2) [(cd (bd Tryz.f40) [1,1,1,1,1,1])] ⟨uA a1++[(11,.c (.own 5 r66.length)),(82,.c (.own 5 r66.length)),(83,.jW [])],[.cells (c9.cs a0),oX3,.cells [iC u8,.str r2,E3.tree r4,.own 3 sY.1.length,.own 4 sY.2.length,.nil],E3.row sY.1,E9.row sY.2,E3.row pK],[],0⟩ (by
   refine eO.a0o (decide (r66.length=pK.length)) (fun hl1=>?_)
   exact eO.pt (id:=13) (
    .sl 13 0 11 (x:=.c (.own 5 r66.length)) (y:=(.c (.own 5 pK.length))) (jS.c (hG.own (of_decide_eq_true hl1))) <|
    .sl 13 0 82 (x:=.c (.own 5 r66.length)) (y:=(.c (.own 5 pK.length))) (jS.c (hG.own (of_decide_eq_true hl1))) <|
    .bk 2 (fun aQw=>⟨[sP 4 0 0 0,sP 5 1 0 0],[oX3,.cells [iC u8,.str r2,E3.tree r4,.own 2 sY.1.length,.own 3 sY.2.length,.own 4 aQw.length],E3.row sY.1,E9.row sY.2,tY.row aQw],[],0⟩) (
     .adc 14 0 2 5 tY.ty tY.w (tY.at []) <|
     .lp [0,1,2,3,4,6,5] (fun oY=>⟨uA a1++[(84,.c (.own 6 pK.length)),sI 85 (Int.ofNat pK.length),sI 86 oY.2],aKW a0 u8 r2 r4 sY oY++[E3.row pK],[],0⟩) fun oY =>
     .lt _ fun a3A =>
     .ite _ (
      .bk 3 (fun aG9=>⟨uA a1++[(84,.c (.own 6 pK.length)),sI 85 (Int.ofNat pK.length),sI 86 oY.2],[.cells (c9.cs a0),oX3,.cells [iC u8,.str r2,E3.tree r4,.own 3 sY.1.length,.own 4 sY.2.length,.own 5 aG9.length],E3.row sY.1,E9.row sY.2,tY.row aG9,E3.row pK],[],0⟩) (
       .ck _ <|
       .call [] (aO2 _ _ _) fun aHI =>
       .ck _ <|
       .lt _ fun aQu =>
       .lt _ fun aT7 =>
       .bk 4 (fun aHJ=>⟨uA a1++[sP 14 6 0 0,(84,.c (.own 8 pK.length)),sI 85 (Int.ofNat pK.length),sI 86 oY.2],aKW a0 u8 r2 r4 sY oY++[.cells [iC aHI,.own 7 aHJ.length],E3.row aHJ,E3.row pK],[],0⟩) (
        .adc 18 0 7 1 E3.ty E3.w (E3.at []) <|
        .lp [0,1,2,3,4,5,7,8,6] (fun zA=>⟨uA a1++[sP 14 6 0 0,(84,.c (.own 8 pK.length)),sI 85 (Int.ofNat pK.length),sI 86 oY.2,(99,.c (jO.tree aQu)),sI 100 aT7,sI 101 zA.2],aKW a0 u8 r2 r4 sY oY++[.cells [iC aHI,.own 7 zA.1.length],E3.row zA.1,E3.row pK],[],0⟩) fun zA =>
        .ite _ (
         .bk 5 (fun vG=>⟨uA a1++[sP 14 6 0 0,(84,.c (.own 8 pK.length)),sI 85 (Int.ofNat pK.length),sI 86 oY.2,(99,.c (jO.tree aQu)),sI 100 aT7,sI 101 zA.2],aKW a0 u8 r2 r4 sY oY++[.cells [iC aHI,.own 7 vG.length],E3.row vG,E3.row pK],[],0⟩) (
          .ck _ <|
          .ex [0,3,4] <|
          .tx [8,9,10] <|
          .ex [1,2,5] <|
          .lt _ fun aYG =>
          .dQ 6 (default:Int) _ [] (aXR K a0 a1 aYG) (fun _=>rfl) fun aQv =>
          .fk 7 <|
          .ob 999999 0 10 (El.b9 E3 [aQv] rfl rfl) <|
          .tl [8,9,10] <|
          .ck _ <|
          .ap 21 2 11 113 E3 zA.1 [aQv] <|
          .nil [0,1,2,3,4,5,6,11,8] _) fun vG =>
         .nil [0,1,2,3,4,5,6,7,8] _) (
         .ret [0,1,2,3,4,5,6,7,8] _)) fun aHJ =>
       .fz 23 4 7 <|
       .ob 23 3 9 (El.b9 tY [(⟨aHI,aHJ⟩:l4)] rfl rfl) <|
       .ck _ <|
       .ap 23 2 10 120 tY oY.1 [(⟨aHI,aHJ⟩:l4)] <|
       .nil [0,1,2,3,4,10,8] _) fun aG9 =>
      .nil [0,1,2,3,4,5,6] _) (
      .ret [1,2,3,4,5] _)) fun aQw =>
    .fz 25 0 2 <|
    .fz 25 0 3 <|
    .fz 25 0 4 <|
    .ret [0] _)))
def F9 (K:Nat) (a0:cK):Option ((fF) ⊕ (fF)) :=
 ((bX (F37 K a0)).bind (fun r1=>((cE true (bX (F36 K r1)) default).bind (fun r2=>((bX (F37 K a0)).bind (fun r3=>((bX (aSY K r3)).bind (fun r4=>(bT (bQ ((iter K (fun (dU:(List (List Bytes)) × (List w8) × (List sL) × (List Int) × Bytes × (List Int) × (List Int) × (List gV) × (List gV) × (List S85) × Int × Int × Int)=>(bR (decide ((dU.2.2.2.2.2.2.2.2.2.2.2.2:Int)<(Int.ofNat a0.bP.length))) (fun (a3B:Bool)=>(if a3B=true then (bT (bQ (bY [cP dU.2.2.2.2.2.2.2.2.2.2.2.2 a0.bP.length] (bR ((a0.bP.getD (dU.2.2.2.2.2.2.2.2.2.2.2.2:Int).toNat default).bU) (fun (aQx:Int)=>(bT (bQ (if ((aQx:Int) == 1)=true then (bR ((a0.bP.getD (dU.2.2.2.2.2.2.2.2.2.2.2.2:Int).toNat default).bS) (fun (aQy:(List hU))=>(bR (Int.ofNat ((a0.bP.getD (dU.2.2.2.2.2.2.2.2.2.2.2.2:Int).toNat default).bS).length) (fun (aT8:Int)=>(bT (bQ ((iter K (fun (zB:(List Bytes) × Int)=>(if (decide ((zB.2:Int)<aT8))=true then (bT (bQ (bY [cP zB.2 aQy.length] ((bX (F39 K (aQy.getD (zB.2:Int).toNat default))).bind (fun aQz=>(bY [room ((zB.1.length+([aQz].length)) * 16)] (some (.inr ((zB.1++[aQz]))))))))) (fun (aQA:(List Bytes))=>(some (.inr (aQA,(IntKind.i64.wrap (zB.2+1))))))) else (some (.inl (Sum.inl (zB.1)))))) ([],0)).map .inl)) (fun (aHK:(List Bytes))=>(bY [room ((dU.1.length+([aHK].length)) * 24)] (some (.inr ((⟨(dU.1++[aHK]),dU.2.1,dU.2.2.1,dU.2.2.2.1,dU.2.2.2.2.1,dU.2.2.2.2.2.1,dU.2.2.2.2.2.2.1,dU.2.2.2.2.2.2.2.1,dU.2.2.2.2.2.2.2.2.1,dU.2.2.2.2.2.2.2.2.2.1,dU.2.2.2.2.2.2.2.2.2.2.1,dU.2.2.2.2.2.2.2.2.2.2.2.1⟩:fF))))))))))) else (if ((aQx:Int) == 2)=true then ((bX (F40 K a0 dU.2.2.2.2.2.2.2.2.2.2.2.2)).bind (fun aJy=>(bY [room ((dU.2.1.length+([aJy].length)) * 120)] (some (.inr ((⟨dU.1,(dU.2.1++[aJy]),dU.2.2.1,dU.2.2.2.1,dU.2.2.2.2.1,dU.2.2.2.2.2.1,dU.2.2.2.2.2.2.1,dU.2.2.2.2.2.2.2.1,dU.2.2.2.2.2.2.2.2.1,dU.2.2.2.2.2.2.2.2.2.1,dU.2.2.2.2.2.2.2.2.2.2.1,dU.2.2.2.2.2.2.2.2.2.2.2.1⟩:fF))))))) else (if ((aQx:Int) == 3)=true then ((bX (F41 K a0 dU.2.2.2.2.2.2.2.2.2.2.2.2 (⟨dU.1,dU.2.1,dU.2.2.1,dU.2.2.2.1,dU.2.2.2.2.1,dU.2.2.2.2.2.1,dU.2.2.2.2.2.2.1,dU.2.2.2.2.2.2.2.1,dU.2.2.2.2.2.2.2.2.1,dU.2.2.2.2.2.2.2.2.2.1,dU.2.2.2.2.2.2.2.2.2.2.1,dU.2.2.2.2.2.2.2.2.2.2.2.1⟩:fF))).bind (fun a3C=>(some (.inr (a3C))))) else (if ((aQx:Int) == 4)=true then (bR ((a0.bP.getD (dU.2.2.2.2.2.2.2.2.2.2.2.2:Int).toNat default).gF) (fun (a3D:Bytes)=>((bX (F42 K a0 a3D)).bind (fun aYI=>(bR ((a0.bP.getD (dU.2.2.2.2.2.2.2.2.2.2.2.2:Int).toNat default).mG) (fun (aQB:Int)=>(bR ((a0.bP.getD (dU.2.2.2.2.2.2.2.2.2.2.2.2:Int).toNat default).mH) (fun (aQC:Int)=>((cE true (bX (F19 K a0 (⟨aYI,(-1)⟩:dS))) default).bind (fun aQD=>(bY [room ((dU.2.2.2.2.2.2.2.2.2.1.length+([(⟨aQD,aQB,aQC⟩:S85)].length)) * 24)] (some (.inr ((⟨dU.1,dU.2.1,dU.2.2.1,dU.2.2.2.1,dU.2.2.2.2.1,dU.2.2.2.2.2.1,dU.2.2.2.2.2.2.1,dU.2.2.2.2.2.2.2.1,dU.2.2.2.2.2.2.2.2.1,(dU.2.2.2.2.2.2.2.2.2.1++[(⟨aQD,aQB,aQC⟩:S85)]),dU.2.2.2.2.2.2.2.2.2.2.1,dU.2.2.2.2.2.2.2.2.2.2.2.1⟩:fF))))))))))))))) else (some (.inr ((⟨dU.1,dU.2.1,dU.2.2.1,dU.2.2.2.1,dU.2.2.2.2.1,dU.2.2.2.2.2.1,dU.2.2.2.2.2.2.1,dU.2.2.2.2.2.2.2.1,dU.2.2.2.2.2.2.2.2.1,dU.2.2.2.2.2.2.2.2.2.1,dU.2.2.2.2.2.2.2.2.2.2.1,dU.2.2.2.2.2.2.2.2.2.2.2.1⟩:fF))))))))) (fun (aT9:fF)=>(some (.inr ((aT9)))))))))) (fun (wW:fF)=>(bR (IntKind.i64.wrap (dU.2.2.2.2.2.2.2.2.2.2.2.2+1)) (fun (a3E:Int)=>(some (.inr ((wW).cL,(wW).cO,(wW).dI,(wW).dW,(wW).dJ,(wW).dM,(wW).b8,(wW).fY,(wW).eP,(wW).eN,(wW).fD,(wW).fW,a3E))))))) else (some (.inl (Sum.inl (dU.1,dU.2.1,dU.2.2.1,dU.2.2.2.1,dU.2.2.2.2.1,dU.2.2.2.2.2.1,dU.2.2.2.2.2.2.1,dU.2.2.2.2.2.2.2.1,dU.2.2.2.2.2.2.2.2.1,dU.2.2.2.2.2.2.2.2.2.1,dU.2.2.2.2.2.2.2.2.2.2.1,dU.2.2.2.2.2.2.2.2.2.2.2.1)))))))) ([],[],[],[],r2,r4,[],[],[],[],0,0,0)).map .inl)) (fun (eV:(List (List Bytes)) × (List w8) × (List sL) × (List Int) × Bytes × (List Int) × (List Int) × (List gV) × (List gV) × (List S85) × Int × Int)=>((bX (F43 K a0)).bind (fun aEn=>(bT (bQ ((iter K (fun (uB:(List sL) × Int)=>(bR (decide ((uB.2:Int)<(Int.ofNat aEn.length))) (fun (a3F:Bool)=>(if a3F=true then (bT (bQ (bY [cP uB.2 aEn.length] ((bX (F44 K a0 (aEn.getD (uB.2:Int).toNat default))).bind (fun aJz=>(bY [room ((uB.1.length+([aJz].length)) * 80)] (some (.inr ((uB.1++[aJz]))))))))) (fun (aQE:(List sL))=>(some (.inr (aQE,(IntKind.i64.wrap (uB.2+1))))))) else (some (.inl (Sum.inl (uB.1)))))))) (eV.2.2.1,0)).map .inl)) (fun (tU:(List sL))=>(some (.inl ((⟨eV.1,eV.2.1,tU,eV.2.2.2.1,eV.2.2.2.2.1,eV.2.2.2.2.2.1,eV.2.2.2.2.2.2.1,eV.2.2.2.2.2.2.2.1,eV.2.2.2.2.2.2.2.2.1,eV.2.2.2.2.2.2.2.2.2.1,eV.2.2.2.2.2.2.2.2.2.2.1,eV.2.2.2.2.2.2.2.2.2.2.2⟩:fF))))))))))))))))))
abbrev aUa (v0:cK) (v1:(List (List Bytes)) × (List w8) × (List sL) × (List Int) × Bytes × (List Int) × (List Int) × (List gV) × (List gV) × (List S85) × Int × Int × Int):List Go.Dl.Obj:=[.cells (c9.cs v0),oX0,.cells [.own 3 v1.1.length,.own 4 v1.2.1.length,.own 5 v1.2.2.1.length,.own 6 v1.2.2.2.1.length,.str v1.2.2.2.2.1,.own 7 v1.2.2.2.2.2.1.length,.own 8 v1.2.2.2.2.2.2.1.length,.own 9 v1.2.2.2.2.2.2.2.1.length,.own 10 v1.2.2.2.2.2.2.2.2.1.length,.own 11 v1.2.2.2.2.2.2.2.2.2.1.length,iC v1.2.2.2.2.2.2.2.2.2.2.1,iC v1.2.2.2.2.2.2.2.2.2.2.2.1],sO.row v1.1,nW.row v1.2.1,p7.row v1.2.2.1,E3.row v1.2.2.2.1,E3.row v1.2.2.2.2.2.1,E3.row v1.2.2.2.2.2.2.1,fC.row v1.2.2.2.2.2.2.2.1,fC.row v1.2.2.2.2.2.2.2.2.1,vE.row v1.2.2.2.2.2.2.2.2.2.1]
abbrev aQF (v0:(List (List Bytes)) × (List w8) × (List sL) × (List Int) × Bytes × (List Int) × (List Int) × (List gV) × (List gV) × (List S85) × Int × Int):List Go.Dl.Obj:=[E3.row v0.2.2.2.1,E3.row v0.2.2.2.2.2.1,E3.row v0.2.2.2.2.2.2.1,fC.row v0.2.2.2.2.2.2.2.1,fC.row v0.2.2.2.2.2.2.2.2.1,vE.row v0.2.2.2.2.2.2.2.2.2.1]
abbrev aJA (v0:cK) (v1:(List (List Bytes)) × (List w8) × (List sL) × (List Int) × Bytes × (List Int) × (List Int) × (List gV) × (List gV) × (List S85) × Int × Int × Int):List (Nat × D):=[(20,.c (gW.tree v0.bP)),sI 21 (Int.ofNat v0.bP.length),sI 22 v1.2.2.2.2.2.2.2.2.2.2.2.2]
abbrev aBm:List (Nat × D):=[sP 1 0 0 0,sP 2 1 0 0,sP 3 2 0 0]
abbrev a3G (v0:cK) (v1:fF):List Go.Dl.Obj:=[.cells (c9.cs v0),oX0,.cells (fF.oc (v1) 3 4 5 6 7 8 9 10 11),sO.row ((v1).cL),nW.row ((v1).cO),p7.row ((v1).dI),E3.row ((v1).dW),E3.row ((v1).dM),E3.row ((v1).b8),fC.row ((v1).fY),fC.row ((v1).eP),vE.row ((v1).eN)]
theorem aVP (K:Nat) (a0:cK):bV Tryz.prog 9 [.agg (c9.cs a0)] [] (bX (F9 K a0)) (fun r=>.agg (vQ.cs r)) (fun r=>[.cells (vQ.cs r)]):=by
 refine bV.it Tryz.f9 (fun r=>⟨[sP 2 0 0 0],[.cells (vQ.cs r)],[],0⟩) ?_
 unfold F9
 exact Ref.pt (
  .tx [1,2,4,5,8] <|
  .ex [0] <|
  .kn fun r1 er1 =>
  .kn fun r2 er2 =>
  .kn fun r3 er3 =>
  .kn fun r4 er4 =>
  .all [1,2,12,13,14,15,16,17,18,3] (rg (cd (bd Tryz.f9) [1,0])) [true,false,false,false,false,false,false,false,false] (hl [(1,.kc [] (bV.eq (aOY _ _) er1) []),(2,.kc [] (bV.eq (aAp _ _) er2) []),(4,.kc [] (bV.eq (aOY _ _) er3) []),(5,.kc [] (bV.eq (aTu _ _) er4) [])]) ⟨aBm,[.cells (c9.cs a0),oX0,.cells [.nil,.nil,.nil,.nil,.str r2,.own 3 r4.length,.nil,.nil,.nil,.nil,iC 0,iC 0],E3.row r4],[],0⟩ [.s 1,.s 2,.s 3,.o 2 5] <|
  .bk 0 (fun eV=>⟨aBm,.cells (c9.cs a0)::oX0::.cells [.own 3 eV.1.length,.own 4 eV.2.1.length,.own 5 eV.2.2.1.length,.own 6 eV.2.2.2.1.length,.str eV.2.2.2.2.1,.own 7 eV.2.2.2.2.2.1.length,.own 8 eV.2.2.2.2.2.2.1.length,.own 9 eV.2.2.2.2.2.2.2.1.length,.own 10 eV.2.2.2.2.2.2.2.2.1.length,.own 11 eV.2.2.2.2.2.2.2.2.2.1.length,iC eV.2.2.2.2.2.2.2.2.2.2.1,iC eV.2.2.2.2.2.2.2.2.2.2.2]::sO.row eV.1::nW.row eV.2.1::p7.row eV.2.2.1::aQF eV,[],0⟩) (
   .adc 2 0 2 0 sO.ty sO.w (sO.at []) <|
   .adc 2 0 2 1 nW.ty nW.w (nW.at []) <|
   .adc 2 0 2 2 p7.ty p7.w (p7.at []) <|
   .adc 2 0 2 3 E3.ty E3.w (E3.at []) <|
   .adc 2 0 2 6 E3.ty E3.w (E3.at []) <|
   .adc 2 0 2 7 fC.ty fC.w (fC.at []) <|
   .adc 2 0 2 8 fC.ty fC.w (fC.at []) <|
   .adc 2 0 2 9 vE.ty vE.w (vE.at []) <|
   .lp [0,1,2,4,5,6,7,3,8,9,10,11] (fun dU=>⟨aBm++aJA a0 dU,aUa a0 dU,[],0⟩) fun dU =>
   .lt _ fun a3B =>
   .ite _ (
    .bk 1 (fun wW=>⟨aBm++aJA a0 dU,a3G a0 wW,[],0⟩) (
     .ck _ <|
     .lt _ fun aQx =>
     .bk 2 (fun aT9=>⟨aBm++aJA a0 dU,a3G a0 aT9,[],0⟩) (
      .ite _ (
       .lt _ fun aQy =>
       .lt _ fun aT8 =>
       .bk 3 (fun aHK=>⟨aBm++((6,.c (.own 12 aHK.length))::aJA a0 dU),aUa a0 dU++[E9.row aHK],[],0⟩) (
        .ad 8 0 6 E9.ty E9.w (E9.at []) <|
        .lp [0,1,2,3,4,5,6,7,8,9,10,11,13] (fun zB=>⟨aBm++((6,.c (.own 12 zB.1.length))::(aJA a0 dU++[(32,.c (jO.tree aQy)),sI 33 aT8,sI 34 zB.2])),aUa a0 dU++[E9.row zB.1],[],0⟩) fun zB =>
        .ite _ (
         .bk 4 (fun aQA=>⟨aBm++((6,.c (.own 12 aQA.length))::(aJA a0 dU++[(32,.c (jO.tree aQy)),sI 33 aT8,sI 34 zB.2])),aUa a0 dU++[E9.row aQA],[],0⟩) (
          .ck _ <|
          .call [] (aPm _ _) fun aQz =>
          .ob 11 2 14 (El.b9 E9 [aQz] rfl rfl) <|
          .ck _ <|
          .ap 11 1 15 42 E9 zB.1 [aQz] <|
          .nil [0,1,2,3,4,5,6,7,8,9,10,11,15] _) fun aQA =>
         .nil [0,1,2,3,4,5,6,7,8,9,10,11,12] _) (
         .ret [0,1,2,3,4,5,6,7,8,9,10,11,12] _)) fun aHK =>
       .fz 13 4 12 <|
       .ob 13 3 13 (El.b9 sO [aHK] rfl rfl) <|
       .ck _ <|
       .ap 13 2 14 48 sO dU.1 [aHK] <|
       .nil [0,1,2,14,4,5,6,7,8,9,10,11] _) (
       .ite _ (
        .ex [0,3] <|
        .tx [4,6,8] <|
        .ex [2] <|
        .kn fun aJy a3H =>
        .asm _ fun h1 =>
        .all [1,2,3,20,21,22,52,54,55,53,56,57,58,59] (rg (cd (cd (bd Tryz.f9) [1,1,0,1,0,0,1,1,0,0,1,1,0,1,1,1]) [0])) [true,false,true,true,false,false,false,false,false] (hl [(4,.kc [] (bV.eq (aYH _ _ _) a3H) []),(5,.no [.bd 57 nW [aJy]]),(6,.ck _ h1 [.ap 58 nW dU.2.1 [aJy]])]) ⟨aBm++aJA a0 dU,[.cells (c9.cs a0),oX0,.cells [.own 3 dU.1.length,.own 4 ((dU.2.1++[aJy]).length),.own 5 dU.2.2.1.length,.own 6 dU.2.2.2.1.length,.str dU.2.2.2.2.1,.own 7 dU.2.2.2.2.2.1.length,.own 8 dU.2.2.2.2.2.2.1.length,.own 9 dU.2.2.2.2.2.2.2.1.length,.own 10 dU.2.2.2.2.2.2.2.2.1.length,.own 11 dU.2.2.2.2.2.2.2.2.2.1.length,iC dU.2.2.2.2.2.2.2.2.2.2.1,iC dU.2.2.2.2.2.2.2.2.2.2.2.1],sO.row dU.1,nW.row (dU.2.1++[aJy]),p7.row dU.2.2.1,E3.row dU.2.2.2.1,E3.row dU.2.2.2.2.2.1,E3.row dU.2.2.2.2.2.2.1,fC.row dU.2.2.2.2.2.2.2.1,fC.row dU.2.2.2.2.2.2.2.2.1,vE.row dU.2.2.2.2.2.2.2.2.2.1],[],0⟩ [.s 1,.s 2,.s 3,.o 2 0,.o 2 1,.o 2 2,.o 2 3,.o 2 5,.o 2 6,.o 2 7,.o 2 8,.o 2 9] <|
        .nil [0,1,2,3,4,5,6,7,8,9,10,11] _) (
        .ite _ (
         .call [2,3,4,5,6,7,8,9,10,11] (aX7 _ _ _ _) fun a3C =>
         .nil [0,1,2,13,14,15,16,17,18,19,20,21] _) (
         .ite _ (
          .lt _ fun a3D =>
          .call [] (aFR _ _ _) fun aYI =>
          .ex [0,5,7] <|
          .tx [11,12,13] <|
          .ex [1,2,3,6,8] <|
          .lt _ fun aQB =>
          .lt _ fun aQC =>
          .dQ 4 (default:Int) _ [] (aC0 K a0 (⟨aYI,(-1)⟩:dS)) (fun _=>rfl) fun aQD =>
          .ex [9] <|
          .fk 10 <|
          .ob 999999 0 14 (El.b9 vE [(⟨aQD,aQB,aQC⟩:S85)] rfl rfl) <|
          .tl [11,12,13] <|
          .ck _ <|
          .ap 20 2 15 83 vE dU.2.2.2.2.2.2.2.2.2.1 [(⟨aQD,aQB,aQC⟩:S85)] <|
          .nil [0,1,2,3,4,5,6,7,8,9,10,15] _) (
          .nil [0,1,2,3,4,5,6,7,8,9,10,11] _))))) fun aT9 =>
     .nil [0,1,2,3,4,5,6,7,8,9,10,11] _) fun wW =>
    .lt _ fun a3E =>
    .nil [0,1,2,3,4,5,6,7,8,9,10,11] _) (
    .ret [0,1,2,3,4,5,6,7,8,9,10,11] _)) fun eV =>
  .call [] (aOX _ _) fun aEn =>
  .bk 5 (fun tU=>⟨[sP 2 0 0 0,sP 3 1 0 0],oX0::.cells [.own 2 eV.1.length,.own 3 eV.2.1.length,.own 4 tU.length,.own 5 eV.2.2.2.1.length,.str eV.2.2.2.2.1,.own 6 eV.2.2.2.2.2.1.length,.own 7 eV.2.2.2.2.2.2.1.length,.own 8 eV.2.2.2.2.2.2.2.1.length,.own 9 eV.2.2.2.2.2.2.2.2.1.length,.own 10 eV.2.2.2.2.2.2.2.2.2.1.length,iC eV.2.2.2.2.2.2.2.2.2.2.1,iC eV.2.2.2.2.2.2.2.2.2.2.2]::sO.row eV.1::nW.row eV.2.1::p7.row tU::aQF eV,[],0⟩) (
   .lp [0,1,2,3,4,5,6,7,8,9,10,11] (fun uB=>⟨aBm++[(87,.c (dY.tree aEn)),sI 88 (Int.ofNat aEn.length),sI 89 uB.2],.cells (c9.cs a0)::oX0::.cells [.own 3 eV.1.length,.own 4 eV.2.1.length,.own 5 uB.1.length,.own 6 eV.2.2.2.1.length,.str eV.2.2.2.2.1,.own 7 eV.2.2.2.2.2.1.length,.own 8 eV.2.2.2.2.2.2.1.length,.own 9 eV.2.2.2.2.2.2.2.1.length,.own 10 eV.2.2.2.2.2.2.2.2.1.length,.own 11 eV.2.2.2.2.2.2.2.2.2.1.length,iC eV.2.2.2.2.2.2.2.2.2.2.1,iC eV.2.2.2.2.2.2.2.2.2.2.2]::sO.row eV.1::nW.row eV.2.1::p7.row uB.1::aQF eV,[],0⟩) fun uB =>
   .lt _ fun a3F =>
   .ite _ (
    .bk 6 (fun aQE=>⟨aBm++[(87,.c (dY.tree aEn)),sI 88 (Int.ofNat aEn.length),sI 89 uB.2],.cells (c9.cs a0)::oX0::.cells [.own 3 eV.1.length,.own 4 eV.2.1.length,.own 5 aQE.length,.own 6 eV.2.2.2.1.length,.str eV.2.2.2.2.1,.own 7 eV.2.2.2.2.2.1.length,.own 8 eV.2.2.2.2.2.2.1.length,.own 9 eV.2.2.2.2.2.2.2.1.length,.own 10 eV.2.2.2.2.2.2.2.2.1.length,.own 11 eV.2.2.2.2.2.2.2.2.2.1.length,iC eV.2.2.2.2.2.2.2.2.2.2.1,iC eV.2.2.2.2.2.2.2.2.2.2.2]::sO.row eV.1::nW.row eV.2.1::p7.row aQE::aQF eV,[],0⟩) (
     .ck _ <|
     .ex [0] <|
     .tx [4,6,8] <|
     .ex [2,3] <|
     .kn fun aJz a3I =>
     .asm _ fun h1 =>
     .all [1,2,3,87,88,89,93,95,96,94,97,98,99,100] (rg (cd (bd Tryz.f9) [1,1,1,0,1,0,0,1,1,0,0,1])) [true,false,true,true,false,false,false,false,false] (hl [(4,.kc [] (bV.eq (aX5 _ _ _) a3I) []),(5,.no [.bd 98 p7 [aJz]]),(6,.ck _ h1 [.ap 99 p7 uB.1 [aJz]])]) ⟨aBm++[(87,.c (dY.tree aEn)),sI 88 (Int.ofNat aEn.length),sI 89 uB.2],.cells (c9.cs a0)::oX0::.cells [.own 3 eV.1.length,.own 4 eV.2.1.length,.own 5 ((uB.1++[aJz]).length),.own 6 eV.2.2.2.1.length,.str eV.2.2.2.2.1,.own 7 eV.2.2.2.2.2.1.length,.own 8 eV.2.2.2.2.2.2.1.length,.own 9 eV.2.2.2.2.2.2.2.1.length,.own 10 eV.2.2.2.2.2.2.2.2.1.length,.own 11 eV.2.2.2.2.2.2.2.2.2.1.length,iC eV.2.2.2.2.2.2.2.2.2.2.1,iC eV.2.2.2.2.2.2.2.2.2.2.2]::sO.row eV.1::nW.row eV.2.1::p7.row (uB.1++[aJz])::aQF eV,[],0⟩ [.s 1,.s 2,.s 3,.o 2 0,.o 2 1,.o 2 2,.o 2 3,.o 2 5,.o 2 6,.o 2 7,.o 2 8,.o 2 9] <|
     .nil [0,1,2,3,4,5,6,7,8,9,10,11] _) fun aQE =>
    .nil [0,1,2,3,4,5,6,7,8,9,10,11] _) (
    .ret [1,2,3,4,5,6,7,8,9,10,11] _)) fun tU =>
  .fz 27 0 2 <|
  .fz 27 0 3 <|
  .fz 27 0 4 <|
  .fz 27 0 5 <|
  .fz 27 0 6 <|
  .fz 27 0 7 <|
  .fz 27 0 8 <|
  .fz 27 0 9 <|
  .fz 27 0 10 <|
  .ret [0] _)
def F13 (K:Nat) (a0:cK) (a1:Int) (a2:Bytes):Option ((Int) ⊕ (Int)) :=
 ((bX (F49 K a0 a1)).bind (fun r1=>((bX (F48 K r1 a2)).bind (fun r2=>(some (.inl (r2)))))))
theorem aYJ (K:Nat) (a0:cK) (a1:Int) (a2:Bytes):bV Tryz.prog 13 [.agg (c9.cs a0),.c (.val (.int .i64 a1)),.c (.str a2)] [] (bX (F13 K a0 a1 a2)) (fun r=>.c (.val (.int .i64 r))) (fun r=>[]):=by
 refine bV.it Tryz.f13 (fun r=>⟨[sI 6 r],[],[],0⟩) ?_
 unfold F13
 exact Ref.pt (
  .call [] (aNr _ _ _) fun r1 =>
  .call [] (aYF _ _ _) fun r2 =>
  .ret [] _)
def F14 (K:Nat) (a0:cK) (a1:Int) (a2:Bytes):Option ((Int) ⊕ (Int)) :=
 ((bX (F50 K a0 a1 2)).bind (fun r1=>(if (!r1)=true then (some (.inl ((-1)))) else ((bX (F52 K a0 a1)).bind (fun r2=>((bX (F51 K r2 a2)).bind (fun r3=>(some (.inl (r3))))))))))
theorem aYK (K:Nat) (a0:cK) (a1:Int) (a2:Bytes):bV Tryz.prog 14 [.agg (c9.cs a0),.c (.val (.int .i64 a1)),.c (.str a2)] [] (bX (F14 K a0 a1 a2)) (fun r=>.c (.val (.int .i64 r))) (fun r=>[]):=by
 refine bV.it Tryz.f14 (fun r=>⟨[sI 6 r],[],[],0⟩) ?_
 unfold F14
 exact Ref.pt (
  .call [] (aCZ _ _ _ _) fun r1 =>
  .ite _ (
   .ret [] _) (
   .call [] (aIr _ _ _) fun r2 =>
   .call [] (aO3 _ _ _) fun r3 =>
   .ret [] _))
end Go.Proofs.YtdbfbedholdjaaaGreat
