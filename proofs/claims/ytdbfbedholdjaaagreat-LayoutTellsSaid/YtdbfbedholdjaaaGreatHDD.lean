/- No conditions. -/
import Derived.Test.YtdbfbedholdjaaaGreatHDC
import Derived.ChangeArms
import Derived.ChangeFn
import Derived.ChangeShapes
import Derived.RowKitTokens
import Derived.WalkKit
import Derived.ProofKit
import Derived.LaidHandle
import Derived.LaidLaws
import Derived.Lib.LaidTab
set_option linter.unusedVariables false
set_option linter.unusedSimpArgs false
set_option linter.unusedSectionVars false
set_option linter.constructorNameAsVariable false
namespace Go.Dl
open Go.ChangeShapes Go.RowKit
variable [dO]
def aFl (w:World):Mem:=fun b i =>
 match w.cell? ⟨b,i,none⟩ with
 | some v=>if v.oneCell'=true then some v else none
 | none=>none
theorem aLT {w:World} {b i:Nat} {v:Value}:aFl w b i=some v↔w.cell? ⟨b,i,none⟩=some v∧v.oneCell'=true:=by
 unfold aFl
 cases w.cell? ⟨b,i,none⟩ with
 | none=>simp
 | some u =>
   simp only[aA]
   split
   ·rename_i h
    simp only[aA]
    exact ⟨fun e=>by subst e;exact ⟨rfl,h⟩,fun e=>e.1⟩
   ·rename_i h
    simp only[reduceCtorEq,false_iff,not_and]
    rintro rfl h2
    exact h h2
theorem aIJ (w:World):Holds (aFl w) w:=fun b i v h=>aLT.1 h
theorem aNJ {w:World} (hI:dO.I w):Core ⟨aFl w,w,uG pQ [],pQ⟩ (aFl w) pQ w [] :=
 ⟨⟨rfl,rfl,rfl,aM _,fun _ _ _=>rfl,fun _ _ _ _=>rfl,fun _ _ _ h=>h,fun b hb=>by
  obtain ⟨o,k,x,h1,h2⟩:=hb
  simp at h1,hI⟩,
  aIJ w,fun o x h=>by simp at h,fun _ _=>rfl,fun o o' k k' x x' h=>by simp at h,fun o k x h=>by simp at h,fun o k x h=>by simp at h⟩
theorem bV.aNK {P:Program} {f:FuncId} {args:List D} {m:Option Bool} (h:bV P f args [] m (fun r=>.c (.val (.bool r))) (fun _=>[])) (hm:m=some true) {w:World} {vs:List Value} (hI:dO.I w) (hv:fT (aFl w) pQ args vs) :
 Calls P f vs.toArray w fun e w'=>e = .returned (.bool true)∧Below w.heap.size w w':=by
 refine (h _ _ w vs (aNJ hI) hv true hm).mono fun e w' ⟨v,S',β',he,hd,_,hc⟩=>?_
 obtain rfl:v = .bool true:=hd
 refine ⟨he,hc.frame.os,hc.frame.tape,hc.frame.output,hc.frame.size,fun b hb=>hc.frame.block b hb ?_⟩
 rintro ⟨o,k,x,h1,h2⟩
 simp at h1
section
variable {H:Type} {enc:TypeId × Value→H} {P:Program} {w:World} {sp:Nat→Bool} {held:Bool}
def OpF (enc:TypeId × Value→H) (P:Program) (w:World) (sp:Nat→Bool) (held:Bool) (fuel:Nat) (t:TypeId) {T:Type} (cs:T→List C) (ok:T→Prop):Prop :=
 ∀ l x,DataW.trod enc P w 0 sp held fuel t l=some x→∃ y,ok y∧eM (aFl w) pQ (cs y) l∧∀ v∈l,v.oneCell'=true
theorem aWO {fuel:Nat} {t:TypeId} (ht:P.underlying t=some .string):OpF enc P w sp held fuel t (fun s:Bytes=>[.str s]) (fun s=>s.length≤maxLen):=by
 intro l x h
 obtain ⟨s,rfl,rfl,hs⟩:=DataW.trod_string ht h
 have hl:s.data.toList.length≤maxLen:=by
  have:s.data.toList.length=s.size:=by rw[Array.length_toList];rfl
  omega
 refine ⟨s.data.toList,hl,⟨_,_,rfl,⟨by cases s;simp,hl⟩,rfl⟩,fun v hv=>?_⟩
 simp only[aJ] at hv;subst hv;rfl
theorem aWP {t:TypeId} {T:Type} {c:T→C} {ok:T→Prop} {v:Value} {d:DataW H} {ps:List MemPlace} (h:∀ n,OpF enc P w sp held n t (fun x=>[c x]) ok) (ha:DataW.Trod enc P w 0 sp held t v d ps) (h1:v.cells.toList=[v]) :
 ∃ x,ok x∧dR (aFl w) pQ (.c (c x)) v:=by
 obtain ⟨fuel,hf⟩:=ha
 obtain ⟨x,h2,⟨u,r,e,h4,_⟩,_⟩:=h fuel _ _ hf
 rw[h1] at e
 obtain ⟨rfl,_⟩:=List.cons.inj e
 exact ⟨x,h2,h4⟩
theorem aIK {b:Nat} {r:Reach} {t:TypeId} {v:Value} {d:DataW H} {ps:List MemPlace} (ht:P.underlying t=some .string) (hv:Value.okWide P w r b t v) (ha:DataW.Trod enc P w 0 sp held t v d ps) :
 ∃ s:Bytes,s.length≤maxLen∧dR (aFl w) pQ (.c (.str s)) v:=by
 obtain ⟨s,rfl⟩:=Go.WideShapes.okWide_string ht hv
 exact aWP (fun n=>aWO ht) ha rfl
end
open Go.WideShapes Go.ChangeAt in
theorem aD5 {P:Program} {H:Type} {enc:TypeId × Value→H} {f:Func} {s:ChangeSpec} {apart fresh handsOn again:Bool} {W W':World} {args:Array Value} {v:Value} {ds gs:List (DataW H)} {before pa pv:List MemPlace}
 (hW:DataW.Whole enc P f.params.toList s.vars apart W args.toList ds gs before)
 (hres:∀ (b:Nat) (sp:Nat→Bool) (hd:Bool),DataW.TrodAll enc P W' b sp hd f.resultTypes.toList (v.resultList f.resultTypes.size) (s.fn H (ds++gs)).results [])
 (hargs:∀ sp:Nat→Bool,(∀ p∈before,sp p.block=true)→DataW.TrodAll enc P W' 0 sp true f.params.toList args.toList (s.fn H (ds++gs)).args pa)
 (hvars:∀ sp:Nat→Bool,(∀ p∈before,sp p.block=true)→DataW.TrodVars enc P W' sp s.vars (s.fn H (ds++gs)).vars pv)
 (hps:before=pa++pv) (hb:Below W.heap.size W W')
 (hok:∀ (j:Nat) (t:TypeId) (r:Value),f.resultTypes[j]? = some t→(v.resultList f.resultTypes.size)[j]? = some r→Value.okWide P W' .any 0 t r) :
 s.post enc P f apart fresh handsOn again W args v W':=by
 have hold:∀ p∈before,(fun b=>decide (b<W.heap.size)) p.block=true:=fun p hp=>by simpa using hW.lt p hp
 have hlt:=hW.lt
 refine ⟨ds,gs,before,[],pa,pv,hW,hres _ _ _,hargs _ hold,hvars _ hold,World.keptBut_mono (fun p hp=>⟨hp,?_⟩) (hb.frame (·∈before)),fun _=>?_⟩
 ·rw[hps,aZ] at hp
  exact Or.inr hp
 ·obtain ⟨_,_,_,_,_,hz,hn⟩:=hW
  refine ⟨hok,_,_,([]++pa)++pv,⟨[]++pa,pv,trodAll_append (hargs _ (fun _ _=>rfl)) (hres _ _ _),hvars _ (fun _ _=>rfl),rfl,?_,?_⟩,?_⟩
  ·intro b off hp
   have hp':MemPlace.cell b off∈before:=by rw[hps];simpa using hp
   rw[hb.frozen (p:=⟨b,off,none⟩) (hlt _ hp')]
   exact hz b off hp'
  ·intro ha
   have:=hn ha
   rw[hps] at this
   simpa using this
  ·intro p hp _
   rw[hps]
   simpa using hp
end Go.Dl

namespace Go.Dl
open Go.RowKit
end Go.Dl

namespace Go.Dl
open Go.ChangeShapes Go.RowKit
variable [dO]
structure a8c {H:Type} (b:DataW H→Nat):Prop where
 one:∀ d,1≤b d
 str:∀ s:List UInt8,s.length+1≤b (.lit (.string s))
 agg:∀ l,(l.map b).sum+1≤b (.agg l)
 slice:∀ l r,(l.map b).sum+1≤b (.slice l r)
section
variable {H:Type} {b:DataW H→Nat} {enc:TypeId × Value→H} {P:Program} {w:World} {sp:Nat→Bool} {held:Bool}
end
end Go.Dl
