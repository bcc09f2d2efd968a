/- Of a text that has a tree what is written is read as the same tree, and written again it is the same text: the card of 'PrintBack'. No conditions. -/
import Derived.Test.YtidjangjfekfjaaGreatDoorSK1
import Derived.Test.YtidjangjfekfjaaGreatDoorZc
import Derived.Test.YtidjangjfekfjaaGreatDoorCards
import Derived.Test.YtidjangjfekfjaaGreatDoorTie
import Derived.WalkKit
import Derived.ProofKit
import Derived.OpenShut
import Derived.Deep.DeepHandedRow
import Derived.Deep.DeepWitnessRowRef
import Derived.Lib.LaidTab
set_option linter.unusedVariables false
set_option linter.unusedSimpArgs false
set_option linter.unusedSectionVars false
namespace Go.Proofs.YtidjangjfekfjaaGreatDoor.sx
open Go.ChangeShapes Go.WideShapes Go.ChangeAt Go.RowKit Go.Dl
set_option maxRecDepth 1000000
theorem contract (H:Type) (enc:TypeId × Value→H) (W:World) (base:Nat) (args:Array Value) (ds gs:List (DataW H)) (before:List MemPlace) (hL:laidMetH Tryz.prog Rows.printBackRow.laid W) (hsh:W.ShapedOpen Tryz.prog)
 (hval:∀ (j:Nat) t v,Tryz.f4.params[j]? = some t→args[j]? = some v→Value.okWide Tryz.prog W .any base t v)
 (hW:DataW.Whole enc Tryz.prog Tryz.f4.params.toList Rows.printBackSpec.vars false W args.toList ds gs before) :
 Calls Tryz.prog 4 args W fun e W'=>∃ v,e = .returned v∧Rows.printBackSpec.post enc Tryz.prog Tryz.f4 false true false false W args v W':=by
 have hW':=hW
 obtain ⟨p,q,hA0,hV,rfl,hfz,hnd⟩:=hW
 have hA:DataW.TrodAll enc Tryz.prog W 0 (fun _=>true) true Tryz.f4.params.toList args.toList ds p:=hA0
 rw[Tryz.params4] at hA hval
 obtain ⟨v0,vs0,d0,ds0,p0,q0,hargs,rfl,rfl,h0,r0⟩:=trodAll_cons hA
 obtain ⟨rfl,rfl,rfl⟩:=trodAll_nil r0
 obtain rfl:args = #[v0]:=by cases args;simp_all
 obtain ⟨rfl,rfl⟩:=trodVars_none hV
 obtain ⟨x0,ok0,c0⟩:=aIH Tryz.underlying9 (hval 0 9 v0 rfl rfl) h0
 have hc:=cQ.aMU (aXi 20000001 x0) (aPb 20000001 (by omega) (by omega) x0) (wi hL hsh) (vs:=[v0]) ⟨_,_,rfl,c0,rfl⟩
 have hlt:=hW'.lt
 refine hc.mono fun e W' ⟨he,hu⟩=>?_
 subst he
 exact ⟨_,rfl,aDO (pv:=[]) hW' (fun _ _ _=>trodAll_cons_mk (shut_bool Tryz.underlying4 _) trodAll_mk0) (fun sp hs=>trodAll_cons_mk (WideElems.Trod_stays laidOut (t:=9) (by kernel_rfl) (of_decide_eq_true (by kernel_rfl)) h0 (fun x hx=>hu.same (hlt x (bO _ (bO _ hx)))) (fun x hx=>hs x (bO _ (bO _ hx)))) (trodAll_mk0))
  (fun _ _=>rfl) rfl hu (ok_one (by kernel_rfl) rfl (okWide_bool_mk Tryz.underlying4 _))⟩
theorem aPc (os:Os):laidMetH Tryz.prog Rows.printBackRow.laid ((aPa os).forCall (fun _ _=>0) ⟨#[],#[.string ⟨#[]⟩],[]⟩).memory :=
 laidMetH_of_parts (laidMet_of_run' 12 (by kernel_rfl) (by kernel_rfl)) (by kernel_rfl)
theorem reads (os:Os) {H:Type} (enc:TypeId × Value→H):∃ places,DataW.whole enc Tryz.prog ((aPa os).forCall (fun _ _=>0) ⟨#[],#[.string ⟨#[]⟩],[]⟩).memory Tryz.f4.params.toList Rows.printBackSpec.vars false #[.string ⟨#[]⟩].toList 8=some ([.lit (.string [])],[],places) :=
 ⟨[],by kernel_rfl⟩
theorem lifted (os:Os) (started:os.Started) (H:Type) (enc:TypeId × Value→H) (F:Stop.Interp) :
 ReturnsInHanded {} Tryz.checked os 4 .any ((OpenSpec.ofChange Rows.printBackSpec).preRow enc Tryz.prog Tryz.f4 Rows.printBackRow.domain false Rows.printBackRow.laid) (((OpenSpec.ofChange Rows.printBackSpec).at F).post enc Tryz.prog Tryz.f4 false true false false):=by
 obtain ⟨places,hx⟩:=reads os enc
 refine returnsInHanded_of_row (C:=Tryz.checked) (s:=OpenSpec.ofChange Rows.printBackSpec) own started (by kernel_rfl) Tryz.func4
  (witness_row_atRef (enc:=enc) (C:=Tryz.checked) false (aPa os) #[.string ⟨#[]⟩] rfl (by kernel_rfl) (by kernel_rfl) (by kernel_rfl)
   (OpenSpec.preRow_of_cond 8 hx (by kernel_rfl) (fun k hk=>by cases hk) (by kernel_rfl) (aPc os))) ?_
 intro W base args ds gs before hval hW g1 g2 g3 g4 g5 g6
 exact contract H enc W base args ds gs before g4 g5 hval hW
theorem said:Rows.PrintBackSaid :=
 OpenClaim.holds_of_cond 4 Tryz.f4 rfl rfl rfl rfl rfl rfl rfl ⟨rfl,rfl,rfl,rfl,rfl⟩ rfl rfl rfl rfl rfl (by kernel_rfl) Tryz.func4 (by kernel_rfl)
  (of_decide_eq_true (by kernel_rfl)) (by unfold Func.isWrapper;first | (rw[aJ (by decide +kernel)];kernel_rfl) | (rw[aG (by decide +kernel)];exact ⟨rfl,rfl⟩))
  (fun os started H enc _ F=>by rw[OpenClaim.pre_eq_preRow];exact lifted os started H enc F)
theorem plain (f:FuncId) (fn:Func) (hf:Tryz.pinned.checked.prog.funcNamed "governor/governorlaw5.PrintBack" = some f) (hfn:Tryz.pinned.checked.prog.funcs[f]? = some fn) :
 true=Tryz.pinned.checked.prog.looks []∧∀ (j:Nat) t,fn.params[j]? = some t→Tryz.pinned.checked.prog.wantsStandIn t=false:=by
 obtain rfl:f=4:=Option.some.inj ((show Tryz.prog.funcNamed "governor/governorlaw5.PrintBack" = some 4 by kernel_rfl).symm.trans hf) |>.symm
 obtain rfl:fn=Tryz.f4:=(Option.some.inj (Tryz.func4.symm.trans hfn)).symm
 refine ⟨by kernel_rfl,fun j t ht=>?_⟩
 rw[Tryz.params4] at ht
 have hm:t=9:=by simpa using Array.mem_of_getElem? ht
 rcases hm with rfl
 ·exact (show Tryz.prog.wantsStandIn 9=false by kernel_rfl)
end Go.Proofs.YtidjangjfekfjaaGreatDoor.sx
namespace Go.Proofs.YtidjangjfekfjaaGreatDoor
theorem printBack_holds:Rows.PrintBackCardSaid :=
 Claim7.holds_tied_plain_at .later [] _ _ _ _ sx.said (fun _ h=>by cases h) (by kernel_rfl) (fun _ h=>by cases h) printBack_row_tie rfl ⟨rfl,rfl⟩ (by kernel_rfl) rfl sx.plain (by kernel_rfl)
end Go.Proofs.YtidjangjfekfjaaGreatDoor
