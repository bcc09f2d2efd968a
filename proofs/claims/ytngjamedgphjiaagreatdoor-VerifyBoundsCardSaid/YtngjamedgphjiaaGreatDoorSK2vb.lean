/- Of an accepted image another D, or W, another Stack of any code, is refused: the card of 'VerifyBounds'. No conditions. -/
import Derived.Test.YtngjamedgphjiaaGreatDoorSK1
import Derived.Test.YtngjamedgphjiaaGreatDoorTD
import Derived.Test.YtngjamedgphjiaaGreatDoorCards
import Derived.Test.YtngjamedgphjiaaGreatDoorTie
import Derived.WalkKit
import Derived.ProofKit
import Derived.OpenShut
import Derived.Deep.DeepHandedRow
import Derived.Deep.DeepWitnessRowRef
import Derived.Lib.LaidTab
set_option linter.unusedVariables false
set_option linter.unusedSimpArgs false
set_option linter.unusedSectionVars false
namespace Go.Proofs.YtngjamedgphjiaaGreatDoor.vb
open Go.ChangeShapes Go.WideShapes Go.ChangeAt Go.RowKit Go.Dl
set_option maxRecDepth 1000000
theorem contract (H:Type) (enc:TypeId × Value→H) (W:World) (base:Nat) (args:Array Value) (ds gs:List (DataW H)) (before:List MemPlace) (hL:laidMetH Tryz.prog Rows.verifyBoundsRow.laid W) (hsh:W.ShapedOpen Tryz.prog)
 (hval:∀ (j:Nat) t v,Tryz.f3.params[j]? = some t→args[j]? = some v→Value.okWide Tryz.prog W .any base t v)
 (hW:DataW.Whole enc Tryz.prog Tryz.f3.params.toList Rows.verifyBoundsSpec.vars false W args.toList ds gs before) :
 Calls Tryz.prog 3 args W fun e W'=>∃ v,e = .returned v∧Rows.verifyBoundsSpec.post enc Tryz.prog Tryz.f3 false true false false W args v W':=by
 have hW':=hW
 obtain ⟨p,q,hA0,hV,rfl,hfz,hnd⟩:=hW
 have hA:DataW.TrodAll enc Tryz.prog W 0 (fun _=>true) true Tryz.f3.params.toList args.toList ds p:=hA0
 rw[Tryz.params3] at hA hval
 obtain ⟨v0,vs0,d0,ds0,p0,q0,hargs,rfl,rfl,h0,r0⟩:=trodAll_cons hA
 obtain ⟨v1,vs1,d1,ds1,p1,q1,rfl,rfl,rfl,h1,r1⟩:=trodAll_cons r0
 obtain ⟨v2,vs2,d2,ds2,p2,q2,rfl,rfl,rfl,h2,r2⟩:=trodAll_cons r1
 obtain ⟨rfl,rfl,rfl⟩:=trodAll_nil r2
 obtain rfl:args = #[v0,v1,v2]:=by cases args;simp_all
 obtain ⟨rfl,rfl⟩:=trodVars_none hV
 obtain ⟨x0,ok0,c0⟩:=uJ Tryz.underlying29 (hval 0 29 v0 rfl rfl) aLG h0
 obtain ⟨x1,ok1,c1⟩:=tH Tryz.underlying3 (hval 1 3 v1 rfl rfl) h1
 obtain ⟨x2,ok2,c2⟩:=tH Tryz.underlying3 (hval 2 3 v2 rfl rfl) h2
 have hc:=cM.aC2 (aJx 2000001 x0 x1 x2) (aAg x0 x1 x2) (wi hL hsh) (vs:=[v0,v1,v2]) ⟨_,_,rfl,c0,⟨_,_,rfl,c1,⟨_,_,rfl,c2,rfl⟩⟩⟩
 have hlt:=hW'.lt
 refine hc.mono fun e W' ⟨he,hu⟩=>?_
 subst he
 exact ⟨_,rfl,uK (pv:=[]) hW' (fun _ _ _=>trodAll_cons_mk (shut_bool Tryz.underlying4 _) trodAll_mk0) (fun sp hs=>trodAll_cons_mk (WideElems.Trod_stays laidOut (t:=29) (by kernel_rfl) (of_decide_eq_true (by kernel_rfl)) h0 (fun x hx=>hu.same (hlt x (aX _ (aX _ hx)))) (fun x hx=>hs x (aX _ (aX _ hx)))) (trodAll_cons_mk (WideElems.Trod_stays laidOut (t:=3) (by kernel_rfl) (of_decide_eq_true (by kernel_rfl)) h1 (fun x hx=>hu.same (hlt x (aX _ (List.mem_append_right _ (aX _ hx))))) (fun x hx=>hs x (aX _ (List.mem_append_right _ (aX _ hx))))) (trodAll_cons_mk (WideElems.Trod_stays laidOut (t:=3) (by kernel_rfl) (of_decide_eq_true (by kernel_rfl)) h2 (fun x hx=>hu.same (hlt x (aX _ (List.mem_append_right _ (List.mem_append_right _ (aX _ hx)))))) (fun x hx=>hs x (aX _ (List.mem_append_right _ (List.mem_append_right _ (aX _ hx)))))) (trodAll_mk0))))
  (fun _ _=>rfl) rfl hu (ok_one (by kernel_rfl) rfl (okWide_bool_mk Tryz.underlying4 _))⟩
theorem aDg (os:Os):laidMetH Tryz.prog Rows.verifyBoundsRow.laid ((aDf os).forCall (fun _ _=>0) ⟨#[],#[.agg #[.slice none 0 0,.slice none 0 0,.slice none 0 0,.slice none 0 0,.string ⟨#[]⟩,.slice none 0 0,.slice none 0 0,.slice none 0 0,.slice none 0 0,.slice none 0 0,.int .i64 0,.int .i64 0],.int .i64 0,.int .i64 0],[]⟩).memory :=
 laidMetH_of_parts (laidMet_of_run' 12 (by kernel_rfl) (by kernel_rfl)) (by kernel_rfl)
theorem reads (os:Os) {H:Type} (enc:TypeId × Value→H):∃ places,DataW.whole enc Tryz.prog ((aDf os).forCall (fun _ _=>0) ⟨#[],#[.agg #[.slice none 0 0,.slice none 0 0,.slice none 0 0,.slice none 0 0,.string ⟨#[]⟩,.slice none 0 0,.slice none 0 0,.slice none 0 0,.slice none 0 0,.slice none 0 0,.int .i64 0,.int .i64 0],.int .i64 0,.int .i64 0],[]⟩).memory Tryz.f3.params.toList Rows.verifyBoundsSpec.vars false #[.agg #[.slice none 0 0,.slice none 0 0,.slice none 0 0,.slice none 0 0,.string ⟨#[]⟩,.slice none 0 0,.slice none 0 0,.slice none 0 0,.slice none 0 0,.slice none 0 0,.int .i64 0,.int .i64 0],.int .i64 0,.int .i64 0].toList 8=some ([.agg [.nil,.nil,.nil,.nil,.lit (.string []),.nil,.nil,.nil,.nil,.nil,.lit (.int .i64 0),.lit (.int .i64 0)],.lit (.int .i64 0),.lit (.int .i64 0)],[],places) :=
 ⟨[],by kernel_rfl⟩
theorem lifted (os:Os) (started:os.Started) (H:Type) (enc:TypeId × Value→H) (F:Stop.Interp) :
 ReturnsInHanded {} Tryz.checked os 3 .any ((OpenSpec.ofChange Rows.verifyBoundsSpec).preRow enc Tryz.prog Tryz.f3 Rows.verifyBoundsRow.domain false Rows.verifyBoundsRow.laid) (((OpenSpec.ofChange Rows.verifyBoundsSpec).at F).post enc Tryz.prog Tryz.f3 false true false false):=by
 obtain ⟨places,hx⟩:=reads os enc
 refine returnsInHanded_of_row (C:=Tryz.checked) (s:=OpenSpec.ofChange Rows.verifyBoundsSpec) own started (by kernel_rfl) Tryz.func3
  (witness_row_atRef (enc:=enc) (C:=Tryz.checked) false (aDf os) #[.agg #[.slice none 0 0,.slice none 0 0,.slice none 0 0,.slice none 0 0,.string ⟨#[]⟩,.slice none 0 0,.slice none 0 0,.slice none 0 0,.slice none 0 0,.slice none 0 0,.int .i64 0,.int .i64 0],.int .i64 0,.int .i64 0] rfl (by kernel_rfl) (by kernel_rfl) (by kernel_rfl)
   (OpenSpec.preRow_of_cond 8 hx (by kernel_rfl) (fun k hk=>by cases hk) (by kernel_rfl) (aDg os))) ?_
 intro W base args ds gs before hval hW g1 g2 g3 g4 g5 g6
 exact contract H enc W base args ds gs before g4 g5 hval hW
theorem said:Rows.VerifyBoundsSaid :=
 OpenClaim.holds_of_cond 3 Tryz.f3 rfl rfl rfl rfl rfl rfl rfl ⟨rfl,rfl,rfl,rfl,rfl⟩ rfl rfl rfl rfl rfl (by kernel_rfl) Tryz.func3 (by kernel_rfl)
  (of_decide_eq_true (by kernel_rfl)) (by unfold Func.isWrapper;first | (rw[aO (by decide +kernel)];kernel_rfl) | (rw[aH (by decide +kernel)];exact ⟨rfl,rfl⟩))
  (fun os started H enc _ F=>by rw[OpenClaim.pre_eq_preRow];exact lifted os started H enc F)
theorem plain (f:FuncId) (fn:Func) (hf:Tryz.pinned.checked.prog.funcNamed "governor/governorlaw20.VerifyBounds" = some f) (hfn:Tryz.pinned.checked.prog.funcs[f]? = some fn) :
 true=Tryz.pinned.checked.prog.looks []∧∀ (j:Nat) t,fn.params[j]? = some t→Tryz.pinned.checked.prog.wantsStandIn t=false:=by
 obtain rfl:f=3:=Option.some.inj ((show Tryz.prog.funcNamed "governor/governorlaw20.VerifyBounds" = some 3 by kernel_rfl).symm.trans hf) |>.symm
 obtain rfl:fn=Tryz.f3:=(Option.some.inj (Tryz.func3.symm.trans hfn)).symm
 refine ⟨by kernel_rfl,fun j t ht=>?_⟩
 rw[Tryz.params3] at ht
 have hm:t=29∨t=3∨t=3:=by simpa using Array.mem_of_getElem? ht
 rcases hm with rfl | rfl | rfl
 ·exact (show Tryz.prog.wantsStandIn 29=false by kernel_rfl)
 ·exact (show Tryz.prog.wantsStandIn 3=false by kernel_rfl)
 ·exact (show Tryz.prog.wantsStandIn 3=false by kernel_rfl)
end Go.Proofs.YtngjamedgphjiaaGreatDoor.vb
namespace Go.Proofs.YtngjamedgphjiaaGreatDoor
theorem verifyBounds_holds:Rows.VerifyBoundsCardSaid :=
 Claim7.holds_tied_plain_at .later [] _ _ _ _ vb.said (fun _ h=>by cases h) (by kernel_rfl) (fun _ h=>by cases h) verifyBounds_row_tie rfl ⟨rfl,rfl⟩ (by kernel_rfl) rfl vb.plain (by kernel_rfl)
end Go.Proofs.YtngjamedgphjiaaGreatDoor
