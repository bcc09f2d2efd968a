/- No conditions. -/
import Derived.Test.YtdbfbedholdjaaaGreatGLt
import Derived.Test.YtdbfbedholdjaaaGreatProg
set_option linter.unusedVariables false
set_option linter.unusedSimpArgs false
set_option linter.unusedSectionVars false
namespace Go.Proofs.YtdbfbedholdjaaaGreat
open Go Go.Proofs Go.Dl
variable [dK]
set_option maxRecDepth 100000
set_option maxHeartbeats 4000000
abbrev gV (n:Int):List fE:=[⟨[116],⟨7,3,0,[]⟩,0,0,0⟩,⟨[122],⟨1,0,0,[]⟩,n,0,0⟩]
abbrev gD (n:Int):gX:=⟨3,[48],[],[],false,false,gV n,[],[],0,0⟩
abbrev gU (u:cM) (n:Int):cM:=⟨u.bM++[gD n]⟩
abbrev gC:uF:=⟨-1,[],[],false,0,[]⟩
def F5 (K:Nat) (a0:Bytes) (a1:Int):Option ((Bool) ⊕ (Bool)) :=
 (bO (decide (((Int.ofNat a0.length):Int) > 6000)) (fun (x1:Bool)=>(if x1=true then ((bV (F7 K)).bind (fun r2=>(some (.inl (r2))))) else ((bV (F8 K a0)).bind (fun r3=>(bO ((decide (((Int.ofNat r3.2.length):Int) > 0)) || (decide (((Int.ofNat r3.1.bM.length):Int) ≥ 12))) (fun (x4:Bool)=>(if x4=true then ((bV (F7 K)).bind (fun r5=>(some (.inl (r5))))) else ((bV (F15 K a1 100)).bind (fun r6=>(bW [room (r3.1.bM.length * 160)] (bW [room ((r3.1.bM.length+([(gD r6)].length)) * 160)] ((bV (F9 K r3.1)).bind (fun r8=>((bV (F9 K (gU r3.1 r6))).bind (fun r9=>(bW [room (r8.dS.length+([105]:Bytes).length)] (bW [room (r8.dU.length * 8)] ((bV (F15 K a1 100)).bind (fun jL=>(bW [room ((r8.dU.length+([jL].length)) * 8)] (bW [room (r8.bY.length * 8)] (bW [room ((r8.bY.length+([3].length)) * 8)] (bW [room (r8.dQ.length * 80)] (bW [room ((r8.dQ.length+([gC].length)) * 80)] ((cF true (bV (F16 K (⟨r8.cK,r8.cS,(r8.dQ++[gC]),r8.eM,(r8.dS++([105]:Bytes)),(r8.dU++[jL]),(r8.bY++[3]),r8.iK,r8.fJ,r8.eV,r8.fD,r8.fW⟩:gK) r9)) default).bind (fun r11=>((cF r11 (bV (F17 K (gU r3.1 r6) (Int.ofNat r3.1.bM.length) ([122]:Bytes))) default).bind (fun r12=>(bO (r11 && ((r12:Int) == (IntKind.i64.wrap ((Int.ofNat (r8.dU++[jL]).length) - 1)))) (fun (x13:Bool)=>((cF x13 (bV (F18 K (gU r3.1 r6) (Int.ofNat r3.1.bM.length) ([116]:Bytes))) default).bind (fun r14=>(bO (x13 && ((r14:Int) == (IntKind.i64.wrap ((Int.ofNat (r8.bY++[3]).length) - 1)))) (fun (x15:Bool)=>((cF x15 (bV (F19 K (gU r3.1 r6) (⟨(Int.ofNat r3.1.bM.length),(-1)⟩:dR))) default).bind (fun lZ=>(bO (x15 && ((lZ:Int) == (IntKind.i64.wrap ((Int.ofNat (r8.dQ++[gC]).length) - 1)))) (fun (x17:Bool)=>((cF x17 (bV (F17 K (gU r3.1 r6) (Int.ofNat r3.1.bM.length) ([116]:Bytes))) default).bind (fun r18=>((cF (x17 && ((r18:Int) == (-1))) (bV (F7 K)) default).bind (fun r19=>(some (.inl (((x17 && ((r18:Int) == (-1))) && r19)))))))))))))))))))))))))))))))))))))))))))))))
theorem a0F (K:Nat) (a0:Bytes) (a1:Int):bS Tryz.prog 5 [.c (.str a0),.c (.val (.int .i64 a1))] [] (bV (F5 K a0 a1)) (fun r=>.c (.val (.bool r))) (fun r=>[]):=by
 refine bS.it Tryz.f5 (fun r=>⟨[(4,.c (.val (.bool r)))],[],[],0⟩) ?_
 unfold F5
 exact Ref.pt (
  .lt _ fun x1 =>
  .ite _ (
   .call [] (aPq _) fun r2 =>
   .ret [] _) (
   .call [] (a0E _ _) fun r3 =>
   .lt _ fun x4 =>
   .ite _ (
    .call [] (aPq _) fun r5 =>
    .ret [] _) (
    .call [] (aO8 _ _ _) fun r6 =>
    .ob 7 3 2 (El.cB eX (gV r6) rfl rfl) <|
    .asm _ fun h1 =>
    .asm _ fun h2 =>
    .fz 1000000 0 2 <|
    .ok 7 0 3 3 (x:=.nil) (y:=E9.tree []) (El.cE E9) <|
    .ok 7 0 3 7 (x:=.nil) (y:=j3.tree []) (El.cE j3) <|
    .ok 7 0 3 8 (x:=.nil) (y:=dO.tree []) (El.cE dO) <|
    .ex [0] <|
    .all [1,5,8,9,41,42,43,44,45,46,47] (rg (cd (bd Tryz.f5) [1,1,1,1,1,1,0])) [true,false,false,false,false,false,false,false,false] (hl [(2,.ck _ h1 []),(4,.no [.bd 45 gT [gD r6]]),(5,.ck _ h2 [.ap 46 gT r3.1.bM [gD r6]])]) ⟨[(1,.c (.val (.int .i64 a1))),(5,.c (.ptr 0 0 0)),(9,.c (.ptr 1 0 0))],[.cells (dP.cs r3.1),.cells [.own 2 (r3.1.bM++[gD r6]).length],gT.row (r3.1.bM++[gD r6])],[],0⟩ [.s 5,.s 9,.o 1 0] <|
    .fz 1000000 0 2 <|
    .kn fun r8 e8 =>
    .kn fun r9 e9 =>
    .all [1,5,9,10,11,48,49,50,51] (rg (cd (bd Tryz.f5) [1,1,1,1,1,1,1,0])) [false,false,false,false,false,false,false,false] (hl [(1,.kc [] (bS.eq (aPo _ _) e8) []),(3,.kc [] (bS.eq (aPo _ _) e9) [])]) ⟨[(1,.c (.val (.int .i64 a1))),(5,.c (.ptr 0 0 0)),(9,.c (.ptr 1 0 0)),(10,.c (.ptr 2 0 0)),(11,.c (.ptr 3 0 0))],[.cells (dP.cs r3.1),.cells [gT.tree (r3.1.bM++[gD r6])],.cells (vC.cs r8),.cells (vC.cs r9)],[],0⟩ [.s 5,.s 9,.s 10,.s 11] <|
    .asm _ fun h1 =>
    .asm _ fun h2 =>
    .kn fun jL e10 =>
    .asm _ fun h3 =>
    .asm _ fun h4 =>
    .asm _ fun h5 =>
    .ex [0,3,6,10] <|
    .all [1,5,9,10,11,52,53,54,55,56,57,58,59,60,61,62,63,64,65,66,67,68,69] (rg (cd (bd Tryz.f5) [1,1,1,1,1,1,1,1,0])) [true,false,false,true,false,false,true,false,false,false,true,false,false,false,false,false,false,false,false,false,false] (hl [(2,.ck _ h1 []),(5,.ck _ h2 []),(7,.kc [] (bS.eq (aO8 _ _ _) e10) []),(8,.no [.bd 60 E3 [jL]]),(9,.ck _ h3 [.ap 61 E3 r8.dU [jL]]),(12,.ck _ h4 []),(13,.no [.bd 65 E3 [3]]),(14,.ck _ h5 [.ap 66 E3 r8.bY [3]])]) ⟨[(5,.c (.ptr 0 0 0)),(9,.c (.ptr 1 0 0)),(10,.c (.ptr 2 0 0)),(11,.c (.ptr 3 0 0))],[.cells (dP.cs r3.1),.cells [gT.tree (r3.1.bM++[gD r6])],.cells [E30.tree r8.cK,yA.tree r8.cS,zY.tree r8.dQ,E3.tree r8.eM,.str (r8.dS++([105]:Bytes)),.own 4 ((r8.dU++[jL]).length),.own 5 ((r8.bY++[3]).length),iZ.tree r8.iK,iZ.tree r8.fJ,E85.tree r8.eV,.val (.int .i64 r8.fD),.val (.int .i64 r8.fW)],.cells (vC.cs r9),E3.row (r8.dU++[jL]),E3.row (r8.bY++[3])],[],0⟩ [.s 5,.s 9,.s 10,.s 11,.o 2 5,.o 2 6] <|
    .ck _ <|
    .sk 11 4 73 5 (x:=.nil) (y:=zZ.tree []) (El.cE zZ) <|
     .ob 11 3 7 (El.cB zY [gC] rfl rfl) <|
     .ck _ <|
     .ap 11 2 8 75 zY r8.dQ [gC] <|
     .tx [] <|
     .ex [0,1] <|
     .fz 1000000 0 8 <|
     .fz 1000000 0 4 <|
     .fz 1000000 0 5 <|
     .eH 2 (default:Bool) _ [] (aWD K (⟨r8.cK,r8.cS,(r8.dQ++[gC]),r8.eM,(r8.dS++([105]:Bytes)),(r8.dU++[jL]),(r8.bY++[3]),r8.iK,r8.fJ,r8.eV,r8.fD,r8.fW⟩:gK) r9) (fun _=>rfl) fun r11 =>
     .ex [3,4,5,7,8,9,10] <|
     .eH 6 (default:Int) _ [] (aCF K (gU r3.1 r6) (Int.ofNat r3.1.bM.length) ([122]:Bytes)) (fun _=>rfl) fun r12 =>
     .ex [11,12,13,14,15,17,18,19,20] <|
     .lt _ fun x13 =>
     .eH 16 (default:Int) _ [] (aV3 K (gU r3.1 r6) (Int.ofNat r3.1.bM.length) ([116]:Bytes)) (fun _=>rfl) fun r14 =>
     .ex [21,22,23,24,25,26,28,29,30,31] <|
     .lt _ fun x15 =>
     .eH 27 (default:Int) _ [] (aFk K (gU r3.1 r6) (⟨(Int.ofNat r3.1.bM.length),(-1)⟩:dR)) (fun _=>rfl) fun lZ =>
     .ex [32,33,34,35,36] <|
     .lt _ fun x17 =>
     .eH 37 (default:Int) _ [] (aCF K (gU r3.1 r6) (Int.ofNat r3.1.bM.length) ([116]:Bytes)) (fun _=>rfl) fun r18 =>
     .ex [38,39,40] <|
     .eH 41 (default:Bool) _ [] (aPq K) (fun _=>rfl) fun r19 =>
     .ex [42,43] <|
     .ret [] _)))
end Go.Proofs.YtdbfbedholdjaaaGreat
