/- No conditions. -/
import Derived.Test.YtngjamedgphjiaaGreatDoorDD
import Derived.Test.YtngjamedgphjiaaGreatDoorCd
import Derived.Test.YtngjamedgphjiaaGreatDoorRows
set_option linter.unusedVariables false
set_option linter.unusedSimpArgs false
set_option linter.unusedSectionVars false
namespace Go.Proofs.YtngjamedgphjiaaGreatDoor
open Go Go.Proofs Go.Dl Go.RowKit
set_option maxRecDepth 1000000
theorem own:ownKnob Tryz.prog.godebug=none:=by kernel_rfl
theorem laidOut:laidOutB Tryz.prog=true:=by kernel_rfl
theorem aJs:(Tryz.prog.cutTypes.find? (·.1 == "internal/reflectlite.rtype")).map (·.2)=some 148:=by kernel_rfl
theorem aHk:((List.range Tryz.prog.types.size).filter fun t=>Tryz.prog.rowNamed t [101,114,114,111,114])=[32]:=by kernel_rfl
theorem aBU:typeHandle Tryz.prog 32 = .pointer (some ⟨4,32,none⟩):=by kernel_rfl
abbrev aDe:List (String × DataW Unit):=Rows.verifyBoundsRow.laid
theorem aJt:((begin Tryz.prog (fun _ _=>0) default).world.heap[3]?).bind Obj.row? = some (#[.int .i64 0],3):=by kernel_rfl
theorem aHl:Tryz.prog.cellTypes Tryz.prog.depth 3=some [3]:=by kernel_rfl
theorem aJu:(((begin Tryz.prog (fun _ _=>0) default).world.heap[3]?).bind Obj.row?).isSome=true:=by kernel_rfl
theorem wi {W:World} (h:laidMetH Tryz.prog aDe W) (hsh:W.ShapedOpen Tryz.prog):WI W:=by
 have hp:=uL h
 refine ⟨?_,?_,?_⟩
 ·obtain ⟨⟨z,t⟩,hz⟩:=aU.1 aJu
  obtain ⟨cs,hh,_⟩:=hsh.1 3 z t (of_decide_eq_true (by kernel_rfl)) hz
  have:=(Array.getElem?_eq_some_iff.1 hh).1
  omega
 ·exact uM hsh aJt Tryz.underlying3 aHl (by kernel_rfl) (of_decide_eq_true (by kernel_rfl))
 ·have:=s5 (x:=("errors.errorType",Rows.laid_errors_errorType)) (name:=[101,114,114,111,114]) (g:=0) (u:=148) (ty:=32) h
   (List.mem_filter.2 ⟨by simp [aDe,Rows.verifyBoundsRow],by kernel_rfl⟩) (by kernel_rfl) (by kernel_rfl) aJs aHk (by kernel_rfl)
  rw[aBU] at this
  exact this
def nmV (s:String):TypeId:=if s = "internal/reflectlite.rtype" then 148 else 32
noncomputable def aDf (os:Os):World:=aC3 Tryz.prog nmV aDe os
section
variable {H:Type} {enc:TypeId × Value→H} {w:World} {sp:Nat→Bool} {held:Bool}
theorem j7 {t:TypeId} {T:Type} {cs:T→List C} {ok:T→Prop}:pR enc Tryz.prog w sp held 0 t cs ok:=fun l x h=>by simp [DataW.trod] at h
end
end Go.Proofs.YtngjamedgphjiaaGreatDoor
namespace Go.Dl
open Go Go.Proofs Go.RowKit
set_option maxRecDepth 1000000
section
variable {H:Type} {enc:TypeId × Value→H} {w:World} {sp:Nat→Bool} {held:Bool}
theorem pR.any {P:Program} {n:Nat} {t:TypeId} {T:Type} {cs:T→List C} {ok:T→Prop} (h:pR enc P w sp held n t cs ok):pR enc P w sp held n t cs (fun _=>True):=fun l x hx=>by
 obtain ⟨y,_,h2⟩:=h l x hx
 exact ⟨y,trivial,h2⟩
end
end Go.Dl
namespace Go.Proofs.YtngjamedgphjiaaGreatDoor
open Go Go.Proofs Go.Dl Go.RowKit
set_option maxRecDepth 1000000
section
variable {H:Type} {enc:TypeId × Value→H} {w:World} {sp:Nat→Bool} {held:Bool}
theorem tH {P:Program} {b:Nat} {r:Reach} {t:TypeId} {k:IntKind} {v:Value} {d:DataW H} {ps:List MemPlace} (ht:P.underlying t=some (.int k)) (hv:Value.okWide P w r b t v) (ha:DataW.Trod enc P w 0 sp held t v d ps) :
 ∃ x:Int,(k.min≤x∧x≤k.max)∧dJ (pE w) kF (.c (.val (.int k x))) v:=by
 obtain ⟨s,rfl⟩:=Go.WideShapes.okWide_int ht hv
 exact aG7 (fun n=>iD ht) ha rfl
theorem c3:Tryz.prog.cellsOf 3=1:=by kernel_rfl
theorem c4:Tryz.prog.cellsOf 4=1:=by kernel_rfl
theorem c9:Tryz.prog.cellsOf 9=1:=by kernel_rfl
theorem c22:Tryz.prog.cellsOf 22=1:=by kernel_rfl
theorem c23:Tryz.prog.cellsOf 23=1:=by kernel_rfl
theorem c24:Tryz.prog.cellsOf 24=1:=by kernel_rfl
theorem c25:Tryz.prog.cellsOf 25=1:=by kernel_rfl
theorem c26:Tryz.prog.cellsOf 26=1:=by kernel_rfl
theorem c27:Tryz.prog.cellsOf 27=1:=by kernel_rfl
theorem c29:Tryz.prog.cellsOf 29=12:=by kernel_rfl
theorem c37:Tryz.prog.cellsOf 37=1:=by kernel_rfl
theorem c39:Tryz.prog.cellsOf 39=6:=by kernel_rfl
theorem c42:Tryz.prog.cellsOf 42=3:=by kernel_rfl
theorem c44:Tryz.prog.cellsOf 44=1:=by kernel_rfl
theorem c45:Tryz.prog.cellsOf 45=1:=by kernel_rfl
theorem c47:Tryz.prog.cellsOf 47=6:=by kernel_rfl
theorem c50:Tryz.prog.cellsOf 50=2:=by kernel_rfl
theorem c61:Tryz.prog.cellsOf 61=3:=by kernel_rfl
theorem c78:Tryz.prog.cellsOf 78=3:=by kernel_rfl
theorem aJv:∀ n,pR enc Tryz.prog w sp held n 44 (fun l:List Bytes=>[E9.tree l]) (fun _=>True)
 | 0=>j7
 | n+1=>(iY E9 Tryz.underlying44 c9 (by decide) (fun _=>rfl) (s4 Tryz.underlying9)).any
theorem aLu:∀ n,pR enc Tryz.prog w sp held n 22 (fun l:List (List Bytes)=>[dV.tree l]) (fun _=>True)
 | 0=>j7
 | n+1=>(iY dV Tryz.underlying22 c44 (by decide) (fun _=>rfl) (aJv n)).any
theorem aBV:∀ n,pR enc Tryz.prog w sp held n 25 (fun l:List Int=>[E3.tree l]) (fun _=>True)
 | 0=>j7
 | n+1=>(iY E3 Tryz.underlying25 c3 (by decide) (fun _=>rfl) (iD Tryz.underlying3)).any
theorem aLv (n:Nat):pR enc Tryz.prog w sp held n 50 iN.cs (fun _=>True):=by
 intro l x h
 obtain ⟨m,rfl,hl,hf⟩:=jJ Tryz.underlying50 h
 obtain ⟨x0,_,r0⟩:=dQ (i:=0) hf rfl rfl rfl c3 ((iD Tryz.underlying3).any)
 obtain ⟨x1,_,r1⟩:=dQ (i:=1) hf rfl rfl rfl c25 (aBV m)
 have:=mM r0 (mM r1 (lS (hl.trans c50)))
 exact ⟨⟨x0,x1⟩,trivial,this.1,this.2⟩
theorem aLw:∀ n,pR enc Tryz.prog w sp held n 45 (fun l:List yE=>[iN.tree l]) (fun _=>True)
 | 0=>j7
 | n+1=>(iY iN Tryz.underlying45 c50 (by decide) (fun _=>rfl) (aLv n)).any
theorem aLx (n:Nat):pR enc Tryz.prog w sp held n 47 cW.cs (fun _=>True):=by
 intro l x h
 obtain ⟨m,rfl,hl,hf⟩:=jJ Tryz.underlying47 h
 obtain ⟨x0,_,r0⟩:=dQ (i:=0) hf rfl rfl rfl c3 ((iD Tryz.underlying3).any)
 obtain ⟨x1,_,r1⟩:=dQ (i:=1) hf rfl rfl rfl c9 ((s4 Tryz.underlying9).any)
 obtain ⟨x2,_,r2⟩:=dQ (i:=2) hf rfl rfl rfl c25 (aBV m)
 obtain ⟨x3,_,r3⟩:=dQ (i:=3) hf rfl rfl rfl c25 (aBV m)
 obtain ⟨x4,_,r4⟩:=dQ (i:=4) hf rfl rfl rfl c44 (aJv m)
 obtain ⟨x5,_,r5⟩:=dQ (i:=5) hf rfl rfl rfl c45 (aLw m)
 have:=mM r0 (mM r1 (mM r2 (mM r3 (mM r4 (mM r5 (lS (hl.trans c47)))))))
 exact ⟨⟨x0,x1,x2,x3,x4,x5⟩,trivial,this.1,this.2⟩
theorem aLy:∀ n,pR enc Tryz.prog w sp held n 23 (fun l:List pK=>[cW.tree l]) (fun _=>True)
 | 0=>j7
 | n+1=>(iY cW Tryz.underlying23 c47 (by decide) (fun _=>rfl) (aLx n)).any
theorem aLz (n:Nat):pR enc Tryz.prog w sp held n 61 cV.cs (fun _=>True):=by
 intro l x h
 obtain ⟨m,rfl,hl,hf⟩:=jJ Tryz.underlying61 h
 obtain ⟨x0,_,r0⟩:=dQ (i:=0) hf rfl rfl rfl c3 ((iD Tryz.underlying3).any)
 obtain ⟨x1,_,r1⟩:=dQ (i:=1) hf rfl rfl rfl c3 ((iD Tryz.underlying3).any)
 obtain ⟨x2,_,r2⟩:=dQ (i:=2) hf rfl rfl rfl c3 ((iD Tryz.underlying3).any)
 have:=mM r0 (mM r1 (mM r2 (lS (hl.trans c61))))
 exact ⟨⟨x0,x1,x2⟩,trivial,this.1,this.2⟩
theorem aLA:∀ n,pR enc Tryz.prog w sp held n 37 (fun l:List jC=>[cV.tree l]) (fun _=>True)
 | 0=>j7
 | n+1=>(iY cV Tryz.underlying37 c61 (by decide) (fun _=>rfl) (aLz n)).any
theorem aLB (n:Nat):pR enc Tryz.prog w sp held n 39 dA.cs (fun _=>True):=by
 intro l x h
 obtain ⟨m,rfl,hl,hf⟩:=jJ Tryz.underlying39 h
 obtain ⟨x0,_,r0⟩:=dQ (i:=0) hf rfl rfl rfl c3 ((iD Tryz.underlying3).any)
 obtain ⟨x1,_,r1⟩:=dQ (i:=1) hf rfl rfl rfl c9 ((s4 Tryz.underlying9).any)
 obtain ⟨x2,_,r2⟩:=dQ (i:=2) hf rfl rfl rfl c9 ((s4 Tryz.underlying9).any)
 obtain ⟨x3,_,r3⟩:=dQ (i:=3) hf rfl rfl rfl c4 ((aA4 Tryz.underlying4).any)
 obtain ⟨x4,_,r4⟩:=dQ (i:=4) hf rfl rfl rfl c3 ((iD Tryz.underlying3).any)
 obtain ⟨x5,_,r5⟩:=dQ (i:=5) hf rfl rfl rfl c37 (aLA m)
 have:=mM r0 (mM r1 (mM r2 (mM r3 (mM r4 (mM r5 (lS (hl.trans c39)))))))
 exact ⟨⟨x0,x1,x2,x3,x4,x5⟩,trivial,this.1,this.2⟩
theorem aLC:∀ n,pR enc Tryz.prog w sp held n 24 (fun l:List gY=>[dA.tree l]) (fun _=>True)
 | 0=>j7
 | n+1=>(iY dA Tryz.underlying24 c39 (by decide) (fun _=>rfl) (aLB n)).any
theorem aLD (n:Nat):pR enc Tryz.prog w sp held n 78 cQ.cs (fun _=>True):=by
 intro l x h
 obtain ⟨m,rfl,hl,hf⟩:=jJ Tryz.underlying78 h
 obtain ⟨x0,_,r0⟩:=dQ (i:=0) hf rfl rfl rfl c3 ((iD Tryz.underlying3).any)
 obtain ⟨x1,_,r1⟩:=dQ (i:=1) hf rfl rfl rfl c3 ((iD Tryz.underlying3).any)
 obtain ⟨x2,_,r2⟩:=dQ (i:=2) hf rfl rfl rfl c4 ((aA4 Tryz.underlying4).any)
 have:=mM r0 (mM r1 (mM r2 (lS (hl.trans c78))))
 exact ⟨⟨x0,x1,x2⟩,trivial,this.1,this.2⟩
theorem aJw:∀ n,pR enc Tryz.prog w sp held n 26 (fun l:List nI=>[cQ.tree l]) (fun _=>True)
 | 0=>j7
 | n+1=>(iY cQ Tryz.underlying26 c78 (by decide) (fun _=>rfl) (aLD n)).any
theorem aLE (n:Nat):pR enc Tryz.prog w sp held n 42 dO.cs (fun _=>True):=by
 intro l x h
 obtain ⟨m,rfl,hl,hf⟩:=jJ Tryz.underlying42 h
 obtain ⟨x0,_,r0⟩:=dQ (i:=0) hf rfl rfl rfl c3 ((iD Tryz.underlying3).any)
 obtain ⟨x1,_,r1⟩:=dQ (i:=1) hf rfl rfl rfl c3 ((iD Tryz.underlying3).any)
 obtain ⟨x2,_,r2⟩:=dQ (i:=2) hf rfl rfl rfl c3 ((iD Tryz.underlying3).any)
 have:=mM r0 (mM r1 (mM r2 (lS (hl.trans c42))))
 exact ⟨⟨x0,x1,x2⟩,trivial,this.1,this.2⟩
theorem aLF:∀ n,pR enc Tryz.prog w sp held n 27 (fun l:List oN=>[dO.tree l]) (fun _=>True)
 | 0=>j7
 | n+1=>(iY dO Tryz.underlying27 c42 (by decide) (fun _=>rfl) (aLE n)).any
theorem aLG (n:Nat):pR enc Tryz.prog w sp held n 29 cE.cs (fun _=>True):=by
 intro l x h
 obtain ⟨m,rfl,hl,hf⟩:=jJ Tryz.underlying29 h
 obtain ⟨x0,_,r0⟩:=dQ (i:=0) hf rfl rfl rfl c22 (aLu m)
 obtain ⟨x1,_,r1⟩:=dQ (i:=1) hf rfl rfl rfl c23 (aLy m)
 obtain ⟨x2,_,r2⟩:=dQ (i:=2) hf rfl rfl rfl c24 (aLC m)
 obtain ⟨x3,_,r3⟩:=dQ (i:=3) hf rfl rfl rfl c25 (aBV m)
 obtain ⟨x4,_,r4⟩:=dQ (i:=4) hf rfl rfl rfl c9 ((s4 Tryz.underlying9).any)
 obtain ⟨x5,_,r5⟩:=dQ (i:=5) hf rfl rfl rfl c25 (aBV m)
 obtain ⟨x6,_,r6⟩:=dQ (i:=6) hf rfl rfl rfl c25 (aBV m)
 obtain ⟨x7,_,r7⟩:=dQ (i:=7) hf rfl rfl rfl c26 (aJw m)
 obtain ⟨x8,_,r8⟩:=dQ (i:=8) hf rfl rfl rfl c26 (aJw m)
 obtain ⟨x9,_,r9⟩:=dQ (i:=9) hf rfl rfl rfl c27 (aLF m)
 obtain ⟨kN,_,r10⟩:=dQ (i:=10) hf rfl rfl rfl c3 ((iD Tryz.underlying3).any)
 obtain ⟨x11,_,r11⟩:=dQ (i:=11) hf rfl rfl rfl c3 ((iD Tryz.underlying3).any)
 have:=mM r0 (mM r1 (mM r2 (mM r3 (mM r4 (mM r5 (mM r6 (mM r7 (mM r8 (mM r9 (mM r10 (mM r11 (lS (hl.trans c29)))))))))))))
 exact ⟨⟨x0,x1,x2,x3,x4,x5,x6,x7,x8,x9,kN,x11⟩,trivial,this.1,this.2⟩
end
end Go.Proofs.YtngjamedgphjiaaGreatDoor
