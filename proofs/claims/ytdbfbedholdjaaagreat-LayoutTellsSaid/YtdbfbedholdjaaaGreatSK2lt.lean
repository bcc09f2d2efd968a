/- Where all things of a source stand is as it is told: LayoutTells. No conditions. -/
import Derived.Test.YtdbfbedholdjaaaGreatHTB
import Derived.Test.YtdbfbedholdjaaaGreatHDD
import Derived.Test.YtdbfbedholdjaaaGreatRows
import Derived.WalkKit
import Derived.ProofKit
import Derived.OpenShut
import Derived.Deep.DeepHandedRow
set_option linter.unusedVariables false
set_option linter.unusedSimpArgs false
set_option linter.unusedSectionVars false
namespace Go.Proofs.YtdbfbedholdjaaaGreat.lt
open Go.ChangeShapes Go.WideShapes Go.ChangeAt Go.RowKit Go.Dl
set_option maxRecDepth 1000000
theorem own:ownKnob Tryz.prog.godebug=none:=by kernel_rfl
theorem laidOut:laidOutB Tryz.prog=true:=by kernel_rfl
instance a8C:dO where
 N:=0
 I:=fun _=>True
 size:=fun _ _=>Nat.zero_le _
 keep:=fun _ _ _ _ _=>trivial
theorem contract (H:Type) (enc:TypeId × Value→H) (W:World) (base:Nat) (args:Array Value) (ds gs:List (DataW H)) (before:List MemPlace)
 (hval:∀ (j:Nat) t v,Tryz.f6.params[j]? = some t→args[j]? = some v→Value.okWide Tryz.prog W .any base t v)
 (hW:DataW.Whole enc Tryz.prog Tryz.f6.params.toList Rows.layoutTellsSpec.vars false W args.toList ds gs before) :
 Calls Tryz.prog 6 args W fun e W'=>∃ v,e = .returned v∧Rows.layoutTellsSpec.post enc Tryz.prog Tryz.f6 false true false false W args v W':=by
 have hW':=hW
 obtain ⟨p,q,hA0,hV,rfl,hfz,hnd⟩:=hW
 have hA:DataW.TrodAll enc Tryz.prog W 0 (fun _=>true) true Tryz.f6.params.toList args.toList ds p:=hA0
 rw[Tryz.params6] at hA hval
 obtain ⟨v0,vs0,d0,ds0,p0,q0,hargs,rfl,rfl,h0,r0⟩:=trodAll_cons hA
 obtain ⟨rfl,rfl,rfl⟩:=trodAll_nil r0
 obtain rfl:args = #[v0]:=by cases args;simp_all
 obtain ⟨rfl,rfl⟩:=trodVars_none hV
 obtain ⟨x0,ok0,c0⟩:=aIK Tryz.underlying9 (hval 0 9 v0 rfl rfl) h0
 have hc:=bV.aNK (a3P 200000000 x0) (aUk x0) (w:=W) trivial (vs:=[v0]) ⟨_,_,rfl,c0,rfl⟩
 have hlt:=hW'.lt
 refine hc.mono fun e W' ⟨he,hu⟩=>?_
 subst he
 exact ⟨_,rfl,aD5 (pv:=[]) hW' (fun _ _ _=>trodAll_cons_mk (shut_bool Tryz.underlying4 _) trodAll_mk0) (fun sp hs=>trodAll_cons_mk (WideElems.Trod_stays laidOut (t:=9) (by kernel_rfl) (of_decide_eq_true (by kernel_rfl)) h0 (fun x hx=>hu.same (hlt x (List.mem_append_left _ (List.mem_append_left _ hx)))) (fun x hx=>hs x (List.mem_append_left _ (List.mem_append_left _ hx)))) (trodAll_mk0))
  (fun _ _=>rfl) rfl hu (ok_one (by kernel_rfl) rfl (okWide_bool_mk Tryz.underlying4 _))⟩
theorem reads (os:Os) {H:Type} (enc:TypeId × Value→H):∃ places,DataW.whole enc Tryz.prog ((World.holding Tryz.prog os ⟨#[],#[],[]⟩).forCall (fun _ _=>0) ⟨#[],#[.string ⟨#[]⟩],[]⟩).memory Tryz.f6.params.toList Rows.layoutTellsSpec.vars false #[Value.string ⟨#[]⟩].toList 8=some ([.lit (.string [])],[],places) :=
 ⟨[],by kernel_rfl⟩
theorem lifted (os:Os) (started:os.Started) (H:Type) (enc:TypeId × Value→H) (F:Stop.Interp) :
 ReturnsInHanded {} Tryz.checked os 6 .any ((OpenSpec.ofChange Rows.layoutTellsSpec).preRow enc Tryz.prog Tryz.f6 Rows.layoutTellsRow.domain false Rows.layoutTellsRow.laid) (((OpenSpec.ofChange Rows.layoutTellsSpec).at F).post enc Tryz.prog Tryz.f6 false true false false):=by
 obtain ⟨places,hx⟩:=reads os enc
 refine returnsInHanded_of_row (C:=Tryz.checked) (s:=OpenSpec.ofChange Rows.layoutTellsSpec) own started (by kernel_rfl) Tryz.func6
  (witness_row_at (enc:=enc) (C:=Tryz.checked) false (World.holding Tryz.prog os ⟨#[],#[],[]⟩) #[.string ⟨#[]⟩] rfl (by kernel_rfl) (by kernel_rfl) (by kernel_rfl)
   (OpenSpec.preRow_of_cond 8 hx (by kernel_rfl) (fun k hk=>by cases hk) (by kernel_rfl) (laidMet_nil _ _))) ?_
 intro W base args ds gs before hval hW _ _ _ _ _ _
 exact contract H enc W base args ds gs before hval hW
end Go.Proofs.YtdbfbedholdjaaaGreat.lt
namespace Go.Proofs.YtdbfbedholdjaaaGreat
theorem layoutTells_holds:Rows.LayoutTellsSaid :=
 OpenClaim.holds_of_cond 6 Tryz.f6 rfl rfl rfl rfl rfl rfl rfl ⟨rfl,rfl,rfl,rfl,rfl⟩ rfl rfl rfl rfl rfl (by kernel_rfl) Tryz.func6 (by kernel_rfl)
  (of_decide_eq_true (by kernel_rfl)) (by unfold Func.isWrapper;first | (rw[aE (by decide +kernel)];kernel_rfl) | (rw[aD (by decide +kernel)];exact ⟨rfl,rfl⟩))
  (fun os started H enc _ F=>by rw[OpenClaim.pre_eq_preRow];exact lt.lifted os started H enc F)
end Go.Proofs.YtdbfbedholdjaaaGreat
