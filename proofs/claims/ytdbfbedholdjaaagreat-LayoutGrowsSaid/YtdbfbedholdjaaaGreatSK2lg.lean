/- Of a unit with one program more the image is the image with one more: 'LayoutGrows'. No conditions. -/
import Derived.Test.YtdbfbedholdjaaaGreatGEB
import Derived.Test.YtdbfbedholdjaaaGreatGDD
import Derived.Test.YtdbfbedholdjaaaGreatRows
import Derived.WalkKit
import Derived.ProofKit
import Derived.OpenShut
import Derived.Deep.DeepHandedRow
set_option linter.unusedVariables false
set_option linter.unusedSimpArgs false
set_option linter.unusedSectionVars false
namespace Go.Proofs.YtdbfbedholdjaaaGreat.lg
open Go.ChangeShapes Go.WideShapes Go.ChangeAt Go.RowKit Go.Dl
set_option maxRecDepth 1000000
theorem own:ownKnob Tryz.prog.godebug=none:=by kernel_rfl
theorem laidOut:laidOutB Tryz.prog=true:=by kernel_rfl
instance a5u:dK where
 N:=0
 I:=fun _=>True
 size:=fun _ _=>Nat.zero_le _
 keep:=fun _ _ _ _ _=>trivial
theorem aIX {H:Type} {enc:TypeId × Value→H} {w:World} {sp:Nat→Bool} {held:Bool} {P:Program} {b:Nat} {r:Reach} {t:TypeId} {k:IntKind} {v:Value} {d:DataW H} {ps:List MemPlace} (ht:P.underlying t=some (.int k)) (hv:Value.okWide P w r b t v) (ha:DataW.Trod enc P w 0 sp held t v d ps) :
 ∃ x:Int,(k.min≤x∧x≤k.max)∧dL (aDu w) oX (.c (.val (.int k x))) v:=by
 obtain ⟨s,rfl⟩:=Go.WideShapes.okWide_int ht hv
 exact aMH (fun n=>aUI ht) ha rfl
theorem contract (H:Type) (enc:TypeId × Value→H) (W:World) (base:Nat) (args:Array Value) (ds gs:List (DataW H)) (before:List MemPlace)
 (hval:∀ (j:Nat) t v,Tryz.f5.params[j]? = some t→args[j]? = some v→Value.okWide Tryz.prog W .any base t v)
 (hW:DataW.Whole enc Tryz.prog Tryz.f5.params.toList Rows.layoutGrowsSpec.vars false W args.toList ds gs before) :
 Calls Tryz.prog 5 args W fun e W'=>∃ v,e = .returned v∧Rows.layoutGrowsSpec.post enc Tryz.prog Tryz.f5 false true false false W args v W':=by
 have hW':=hW
 obtain ⟨p,q,hA0,hV,rfl,hfz,hnd⟩:=hW
 have hA:DataW.TrodAll enc Tryz.prog W 0 (fun _=>true) true Tryz.f5.params.toList args.toList ds p:=hA0
 rw[Tryz.params5] at hA hval
 obtain ⟨v0,vs0,d0,ds0,p0,q0,hargs,rfl,rfl,h0,r0⟩:=trodAll_cons hA
 obtain ⟨v1,vs1,d1,ds1,p1,q1,rfl,rfl,rfl,h1,r1⟩:=trodAll_cons r0
 obtain ⟨rfl,rfl,rfl⟩:=trodAll_nil r1
 obtain rfl:args = #[v0,v1]:=by cases args;simp_all
 obtain ⟨rfl,rfl⟩:=trodVars_none hV
 obtain ⟨x0,ok0,c0⟩:=aH4 Tryz.underlying9 (hval 0 9 v0 rfl rfl) h0
 obtain ⟨x1,ok1,c1⟩:=aIX Tryz.underlying3 (hval 1 3 v1 rfl rfl) h1
 have hc:=bS.aMG (a0F 200000000 x0 x1) (aRp x0 x1) (w:=W) trivial (vs:=[v0,v1]) ⟨_,_,rfl,c0,⟨_,_,rfl,c1,rfl⟩⟩
 have hlt:=hW'.lt
 refine hc.mono fun e W' ⟨he,hu⟩=>?_
 subst he
 exact ⟨_,rfl,aDv (pv:=[]) hW' (fun _ _ _=>trodAll_cons_mk (shut_bool Tryz.underlying4 _) trodAll_mk0) (fun sp hs=>trodAll_cons_mk (WideElems.Trod_stays laidOut (t:=9) (by kernel_rfl) (of_decide_eq_true (by kernel_rfl)) h0 (fun x hx=>hu.same (hlt x (bJ _ (bJ _ hx)))) (fun x hx=>hs x (bJ _ (bJ _ hx)))) (trodAll_cons_mk (WideElems.Trod_stays laidOut (t:=3) (by kernel_rfl) (of_decide_eq_true (by kernel_rfl)) h1 (fun x hx=>hu.same (hlt x (bJ _ (List.mem_append_right _ (bJ _ hx))))) (fun x hx=>hs x (bJ _ (List.mem_append_right _ (bJ _ hx))))) (trodAll_mk0)))
  (fun _ _=>rfl) rfl hu (ok_one (by kernel_rfl) rfl (okWide_bool_mk Tryz.underlying4 _))⟩
theorem reads (os:Os) {H:Type} (enc:TypeId × Value→H):∃ places,DataW.whole enc Tryz.prog ((World.holding Tryz.prog os ⟨#[],#[],[]⟩).forCall (fun _ _=>0) ⟨#[],#[.string ⟨#[]⟩,.int .i64 0],[]⟩).memory Tryz.f5.params.toList Rows.layoutGrowsSpec.vars false #[Value.string ⟨#[]⟩,.int .i64 0].toList 8=some ([.lit (.string []),.lit (.int .i64 0)],[],places) :=
 ⟨[],by kernel_rfl⟩
theorem lifted (os:Os) (started:os.Started) (H:Type) (enc:TypeId × Value→H) (F:Stop.Interp) :
 ReturnsInHanded {} Tryz.checked os 5 .any ((OpenSpec.ofChange Rows.layoutGrowsSpec).preRow enc Tryz.prog Tryz.f5 Rows.layoutGrowsRow.domain false Rows.layoutGrowsRow.laid) (((OpenSpec.ofChange Rows.layoutGrowsSpec).at F).post enc Tryz.prog Tryz.f5 false true false false):=by
 obtain ⟨places,hx⟩:=reads os enc
 refine returnsInHanded_of_row (C:=Tryz.checked) (s:=OpenSpec.ofChange Rows.layoutGrowsSpec) own started (by kernel_rfl) Tryz.func5
  (witness_row_at (enc:=enc) (C:=Tryz.checked) false (World.holding Tryz.prog os ⟨#[],#[],[]⟩) #[.string ⟨#[]⟩,.int .i64 0] rfl (by kernel_rfl) (by kernel_rfl) (by kernel_rfl)
   (OpenSpec.preRow_of_cond 8 hx (by kernel_rfl) (fun k hk=>by cases hk) (by kernel_rfl) (laidMet_nil _ _))) ?_
 intro W base args ds gs before hval hW _ _ _ _ _ _
 exact contract H enc W base args ds gs before hval hW
end Go.Proofs.YtdbfbedholdjaaaGreat.lg
namespace Go.Proofs.YtdbfbedholdjaaaGreat
theorem layoutGrows_holds:Rows.LayoutGrowsSaid :=
 OpenClaim.holds_of_cond 5 Tryz.f5 rfl rfl rfl rfl rfl rfl rfl ⟨rfl,rfl,rfl,rfl,rfl⟩ rfl rfl rfl rfl rfl (by kernel_rfl) Tryz.func5 (by kernel_rfl)
  (of_decide_eq_true (by kernel_rfl)) (by unfold Func.isWrapper;first | (rw[aH (by decide +kernel)];kernel_rfl) | (rw[aF (by decide +kernel)];exact ⟨rfl,rfl⟩))
  (fun os started H enc _ F=>by rw[OpenClaim.pre_eq_preRow];exact lg.lifted os started H enc F)
end Go.Proofs.YtdbfbedholdjaaaGreat
