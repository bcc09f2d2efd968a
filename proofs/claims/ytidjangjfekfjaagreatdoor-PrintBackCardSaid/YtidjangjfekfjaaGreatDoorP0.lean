/- No conditions. -/
import Derived.Test.YtidjangjfekfjaaGreatDoorDC
import Derived.IntWalk
set_option linter.unusedVariables false
set_option linter.unusedSimpArgs false
namespace Go.Dl
theorem cQ.none [fT] {P:Program} {f:FuncId} {R:Type} {args:List D} {xs:List Obj} {m:Option R} {res:R→D} {out:R→List Obj} (h:m=Option.none):cQ P f args xs m res out:=fun S β w vs hc hv r hr=>by rw[h] at hr;cases hr
theorem aC8 {A T:Type} {f:T→Option (A ⊕ T)} (μ:T→Nat) (G:T→A) (Inv:T→Prop)
 (h:∀ t,Inv t→(∃ t',f t=some (.inr t')∧Inv t'∧μ t'<μ t∧G t'=G t)∨f t=some (.inl (G t))):∀ (K:Nat) (t:T),Inv t→μ t<K→iter K f t=some (G t)
 | 0,t,_,hk=>absurd hk (by omega)
 | K+1,t,hi,hk=>by
   unfold iter
   rcases h t hi with ⟨t',h1,h2,h3,h4⟩ | h1
   ·rw[h1]
    simp only
    rw[aC8 μ G Inv h K t' h2 (by omega),h4]
   ·rw[h1]
theorem cB {α:Type} {m:Option α}:fI [] m=m:=rfl
theorem dZ {α:Type} {v:Bool} {vs:List Bool} {m:Option α} (h:v=true):fI (v::vs) m=fI vs m:=by show (if v=true then fI vs m else none)=_;rw[aJ h]
theorem cD {A T U:Type} {t:T} {f:T→Option (A ⊕ U)}:cO (some (.inr t)) f=f t:=rfl
theorem cS {A T U:Type} {a:A} {f:T→Option (A ⊕ U)}:cO (some (.inl a)) f=some (.inl a):=rfl
theorem cC {A T:Type} {t:T}:cN (some (.inl (.inl t)):Option ((T ⊕ A) ⊕ T))=some (.inr t):=rfl
theorem cG {A T:Type} {a:A}:cN (some (.inl (.inr a)):Option ((T ⊕ A) ⊕ T))=some (.inl a):=rfl
theorem cH {A T:Type} {t:T}:cN (some (.inr t):Option ((T ⊕ A) ⊕ T))=some (.inr t):=rfl
theorem dS {R:Type} {r:R}:b5 (some (.inl r):Option (R ⊕ R))=some r:=rfl
theorem eE {R:Type} {r:R}:b5 (some (.inr r):Option (R ⊕ R))=some r:=rfl
theorem cE {R:Type} {m:Option R} {r:R}:cX true m r=m:=rfl
theorem aBN {R:Type} {m:Option R} {r:R}:cX false m r=some r:=rfl
theorem eW {i n:Nat} (h:i<n):jL (i:Int) n=true:=by simp [jL];omega
theorem room_le {n:Nat} (h:n≤140737488355328):room n=true:=by simp [room,h]
theorem wrap64 {x:Int} (h1 : -9223372036854775808≤x) (h2:x≤9223372036854775807):IntKind.i64.wrap x=x:=by
 rw[IntKind.wrap_i64];omega
end Go.Dl
