/- No conditions. -/
import Derived.Test.YtdbfbedholdjaaaGreatTy
import Derived.Test.YtdbfbedholdjaaaGreatDC
import Derived.Test.YtdbfbedholdjaaaGreatLx
import Derived.Test.YtdbfbedholdjaaaGreatLp
set_option linter.unusedVariables false
set_option linter.unusedSimpArgs false
set_option linter.unusedSectionVars false
namespace Go.Proofs.YtdbfbedholdjaaaGreat
open Go Go.Dl
variable [eC]
set_option maxRecDepth 100000
def bJ {α:Type} (m:Option α) (Q:α→Prop):Prop:=∃ z,m=some z∧Q z
def sE {A T:Type} (p:A→Prop) (q:T→Prop):A ⊕ T→Prop
 | .inl a=>p a
 | .inr t=>q t
def dG {R:Type} (m:Option (R ⊕ R)) (Q:R→Prop):Prop:=∃ v,bU m=some v∧Q v
section
variable {A T U R X Y:Type}
theorem sE.l {p:A→Prop} {q:T→Prop} {a:A} (h:p a):sE p q (.inl a):=h
theorem sE.r {p:A→Prop} {q:T→Prop} {t:T} (h:q t):sE p q (.inr t):=h
theorem bJ.ret {α:Type} {Q:α→Prop} {z:α} (h:Q z):bJ (some z) Q:=⟨z,rfl,h⟩
theorem bJ.aAH {α:Type} {m:Option α} {Q Q':α→Prop} (h:bJ m Q) (hq:∀ z,Q z→Q' z):bJ m Q':=by
 obtain ⟨z,h1,h2⟩:=h;exact ⟨z,h1,hq z h2⟩
theorem dG.aAH {m:Option (R ⊕ R)} {Q Q':R→Prop} (h:dG m Q) (hq:∀ z,Q z→Q' z):dG m Q':=by
 obtain ⟨z,h1,h2⟩:=h;exact ⟨z,h1,hq z h2⟩
theorem bJ.bO {α:Type} {v:X} {f:X→Option α} {Q:α→Prop} (h:bJ (f v) Q):bJ (bO v f) Q:=h
theorem bJ.ite {α:Type} {c:Prop} [Decidable c] {a b:Option α} {Q:α→Prop} (h1:c→bJ a Q) (h2:¬ c→bJ b Q):bJ (if c then a else b) Q:=by
 split
 ·exact h1 ‹_›
 ·exact h2 ‹_›
theorem bJ.eX {α:Type} {c:Prop} [Decidable c] {a b:Option α} {Q:α→Prop} (h:c) (h1:bJ a Q):bJ (if c then a else b) Q:=by rw[aH h];exact h1
theorem bJ.fC {α:Type} {c:Prop} [Decidable c] {a b:Option α} {Q:α→Prop} (h:¬ c) (h1:bJ b Q):bJ (if c then a else b) Q:=by rw[aG h];exact h1
theorem bJ.cC {α:Type} {m:Option α} {Q:α→Prop} (h:bJ m Q):bJ (bW [] m) Q:=h
theorem bJ.bW {α:Type} {v:Bool} {vs:List Bool} {m:Option α} {Q:α→Prop} (hv:v=true) (h:bJ (bW vs m) Q):bJ (bW (v::vs) m) Q:=by
 unfold Go.Dl.bW;rw[aH hv];exact h
theorem bJ.bM {m:Option (A ⊕ T)} {f:T→Option (A ⊕ U)} {p:A→Prop} {q:U→Prop} (h:bJ m (sE p (fun t=>bJ (f t) (sE p q)))):bJ (bM m f) (sE p q):=by
 obtain ⟨z,rfl,h⟩:=h
 match z,h with
 | .inl a,h=>exact ⟨_,rfl,h⟩
 | .inr t,h=>exact h
theorem bJ.bL {m:Option ((T ⊕ A) ⊕ T)} {p:A→Prop} {q:T→Prop} (h:bJ m (sE (sE q p) q)):bJ (bL m) (sE p q):=by
 obtain ⟨z,rfl,h⟩:=h
 match z,h with
 | .inl (.inl t),h=>exact ⟨_,rfl,h⟩
 | .inl (.inr a),h=>exact ⟨_,rfl,h⟩
 | .inr t,h=>exact ⟨_,rfl,h⟩
theorem bJ.dN {m:Option A} {p:A→Prop} {q:T→Prop} (h:bJ m p):bJ (m.map (Sum.inl:A→A ⊕ T)) (sE p q):=by
 obtain ⟨z,rfl,h⟩:=h;exact ⟨_,rfl,h⟩
theorem bJ.cN {m:Option (A ⊕ T)} {f:T→Option (A ⊕ U)} {p:A→Prop} {q:U→Prop} (I:T→Prop) (h:bJ m (sE p I)) (hf:∀ t,I t→bJ (f t) (sE p q)):bJ (Go.Dl.bM m f) (sE p q):=by
 refine bJ.bM (h.aAH ?_)
 rintro (a | t) h
 ·exact h
 ·exact hf t h
theorem bJ.eE {m:Option (A ⊕ T)} {f:T→Option (A ⊕ U)} {p:A→Prop} {q:U→Prop} (h:bJ m (sE p (fun _=>True))) (hf:∀ t,bJ (f t) (sE p q)):bJ (Go.Dl.bM m f) (sE p q):=by
 refine bJ.bM (h.aAH ?_)
 rintro (a | t) h
 ·exact h
 ·exact hf t
theorem bJ.call {α:Type} {m:Option (R ⊕ R)} {f:R→Option α} {Q:α→Prop} {P:R→Prop} (h:dG m P) (hf:∀ v,P v→bJ (f v) Q):bJ ((bU m).bind f) Q:=by
 obtain ⟨v,h1,h2⟩:=h
 rw[h1];exact hf v h2
theorem bJ.cF {α:Type} {b:Bool} {d:R} {m:Option (R ⊕ R)} {f:R→Option α} {Q:α→Prop} {P:R→Prop} (h:b=true→dG m P) (hf:∀ v,(b=true→P v)→bJ (f v) Q):bJ ((cK b (bU m) d).bind f) Q:=by
 unfold cK
 by_cases hb:b=true
 ·rw[aH hb];exact bJ.call (h hb) (fun v hv=>hf v fun _=>hv)
 ·rw[aG hb];exact hf d (fun h=>absurd h hb)
theorem dG.of {m:Option (R ⊕ R)} {Q:R→Prop} (h:bJ m (sE Q Q)):dG m Q:=by
 obtain ⟨z,rfl,h⟩:=h
 match z,h with
 | .inl a,h=>exact ⟨_,rfl,h⟩
 | .inr a,h=>exact ⟨_,rfl,h⟩
theorem bJ.loop {K:Nat} {f:T→Option (A ⊕ T)} {t0:T} {p:A→Prop} (I:T→Prop) (μ:T→Nat) (h0:I t0) (hK:μ t0<K) (hs:∀ t,I t→bJ (f t) (sE p (fun t'=>I t'∧μ t'<μ t))):bJ (iter K f t0) p:=by
 induction K generalizing t0 with
 | zero=>omega
 | succ K ih =>
   unfold iter
   obtain ⟨z,hz,h⟩:=hs t0 h0
   rw[hz]
   match z,h with
   | .inl a,h=>exact ⟨_,rfl,h⟩
   | .inr t,h=>exact ih h.1 (by have:=h.2;omega)
theorem bJ.upP {K:Nat} {f:Int→Option (A ⊕ Int)} {p:A→Prop} (n:Nat) (P:Nat→Prop) (hK:n<K) (hs:∀ i:Nat,i<n→bJ (f i) (sE p (fun t=>t=(i:Int)+1∧P i))) (he:(∀ i,i<n→P i)→bJ (f n) (sE p (fun _=>False))):bJ (iter K f 0) p:=by
 refine bJ.loop (fun t=>∃ i:Nat,t=i∧i≤n∧∀ j,j<i→P j) (fun t=>n - t.toNat) ⟨0,rfl,by omega,by simp⟩ (by simpa using hK) ?_
 rintro t ⟨i,rfl,hi,hP⟩
 by_cases h:i=n
 ·subst h
  refine (he hP).aAH ?_
  rintro (a | t) h
  ·exact h
  ·exact h.elim
 ·refine (hs i (by omega)).aAH ?_
  rintro (a | t) h
  ·exact h
  ·obtain ⟨h1,h2⟩:=h
   subst h1
   refine ⟨⟨i+1,by omega,by omega,fun j hj=>?_⟩,?_⟩
   ·by_cases h:j=i
    ·subst h;exact h2
    ·exact hP j (by omega)
   ·omega
theorem bJ.up {K:Nat} {f:Int→Option (A ⊕ Int)} {p:A→Prop} (n:Nat) (hK:n<K) (hs:∀ i:Nat,i<n→bJ (f i) (sE p (fun t=>t=(i:Int)+1∧True))) (he:bJ (f n) (sE p (fun _=>False))):bJ (iter K f 0) p :=
 bJ.upP n (fun _=>True) hK hs (fun _=>he)
theorem wX {l:List X} {d:X} {P:X→Prop} (h:∀ i,i<l.length→P (l.getD i d)):∀ x∈l,P x:=by
 intro x hx
 obtain ⟨i,hi,rfl⟩:=List.getElem_of_mem hx
 have:=h i hi
 rwa [List.getD,aD hi] at this
end
theorem wr {x:Int} (h1 : -1000000000000000000≤x) (h2:x≤1000000000000000000):IntKind.i64.wrap x=x:=wrap64 (by omega) (by omega)
end Go.Proofs.YtdbfbedholdjaaaGreat

namespace Go.Proofs.YtdbfbedholdjaaaGreat
open Go Go.Dl
variable [eC]
set_option maxRecDepth 100000
theorem aHV {K:Nat} {a0 a1:Bytes} (hK:100000<K) (h0:a0.length≤10000) (h1:a1.length≤10000):dG (aMw K a0 a1) (fun _=>True):=by
 refine dG.of ?_
 unfold aMw
 (repeat' (first | (with_reducible first | refine bJ.bO ?_ | refine bJ.bM ?_ | refine bJ.bL ?_ | refine bJ.dN ?_ | refine bJ.ite (fun _=>?_) (fun _=>?_) | refine bJ.cC ?_) | with_reducible refine bJ.bW (by (first | rfl | assumption | omega | (simp [cS,room,c9,eY] at *;omega))) ?_ | (with_reducible first | refine bJ.ret ?_ | refine sE.l ?_ | refine sE.r ?_) | (refine (And.intro (a:=IntKind.i64.wrap _=_) (wrap64 (by omega) (by omega)) ?_))))
 refine bJ.loop (fun t:Int=>0≤t∧t≤a0.length+1) (fun t=>(a0.length+1 - t).toNat) ⟨by omega,by omega⟩ (by omega) (fun t ⟨h0,h1⟩=>?_)
 (simp (disch:=omega) only[wr,Int.ofNat_eq_natCast])
 (repeat' (first | (with_reducible first | refine bJ.bO ?_ | refine bJ.bM ?_ | refine bJ.bL ?_ | refine bJ.dN ?_ | refine bJ.ite (fun _=>?_) (fun _=>?_) | refine bJ.cC ?_) | with_reducible refine bJ.bW (by (first | rfl | assumption | omega | (simp [cS,room,c9,eY] at *;omega))) ?_ | (with_reducible first | refine bJ.ret ?_ | refine sE.l ?_ | refine sE.r ?_) | (refine (And.intro (a:=IntKind.i64.wrap _=_) (wrap64 (by omega) (by omega)) ?_))))
 (all_goals (try (first | trivial | (intro h;cases h;done) | (first | rfl | assumption | omega | (simp [cS,room,c9,eY] at *;omega)))))
theorem aEc {K:Nat} {a0:Bytes} {a1:Int} (hK:100000<K) (h0:a0.length≤10000) (h1:0≤a1) (h2:a1<a0.length):dG (aO4 K a0 a1) (fun v=>v<0∨(a1<v∧v≤a0.length)):=by
 refine dG.of ?_
 unfold aO4
 (repeat' (first | (with_reducible first | refine bJ.bO ?_ | refine bJ.bM ?_ | refine bJ.bL ?_ | refine bJ.dN ?_ | refine bJ.ite (fun _=>?_) (fun _=>?_) | refine bJ.cC ?_) | with_reducible refine bJ.bW (by (first | rfl | assumption | omega | (simp [cS,room,c9,eY] at *;omega))) ?_ | (with_reducible first | refine bJ.ret ?_ | refine sE.l ?_ | refine sE.r ?_) | (refine (And.intro (a:=IntKind.i64.wrap _=_) (wrap64 (by omega) (by omega)) ?_))))
 (simp (disch:=omega) only[wr,Int.ofNat_eq_natCast])
 refine bJ.loop (fun t:Int=>a1+2≤t∧t≤a0.length+2) (fun t=>(a0.length+2 - t).toNat) ⟨by omega,by omega⟩ (by omega) (fun t ⟨h3,h4⟩=>?_)
 (simp (disch:=omega) only[wr,Int.ofNat_eq_natCast])
 (repeat' (first | (with_reducible first | refine bJ.bO ?_ | refine bJ.bM ?_ | refine bJ.bL ?_ | refine bJ.dN ?_ | refine bJ.ite (fun _=>?_) (fun _=>?_) | refine bJ.cC ?_) | with_reducible refine bJ.bW (by (first | rfl | assumption | omega | (simp [cS,room,c9,eY] at *;omega))) ?_ | (with_reducible first | refine bJ.ret ?_ | refine sE.l ?_ | refine sE.r ?_) | (refine (And.intro (a:=IntKind.i64.wrap _=_) (wrap64 (by omega) (by omega)) ?_))))
 (all_goals (try (first | trivial | (intro h;cases h;done) | (first | rfl | assumption | omega | (simp [cS,room,c9,eY] at *;omega)))))
def lx.f (c:UInt8):Bool:=(decide ((c.toNat:Int) ≥ 65) && decide ((c.toNat:Int)≤90)) || (decide ((c.toNat:Int) ≥ 97) && decide ((c.toNat:Int)≤122))
def lx.d (c:UInt8):Bool:=decide ((c.toNat:Int) ≥ 48) && decide ((c.toNat:Int)≤57)
theorem w6 {K:Nat} {a0:UInt8}:dG (aO5 K a0) (fun v=>v=lx.f a0):=⟨_,rfl,rfl⟩
theorem mB {K:Nat} {a0:UInt8}:dG (aMx K a0) (fun v=>v=lx.d a0):=⟨_,rfl,rfl⟩
theorem kR {K:Nat} {a0:UInt8}:dG (aMy K a0) (fun v=>lx.f a0=true→v=true):=by
 refine dG.of ?_
 unfold aMy
 (repeat' (first | (with_reducible first | refine bJ.bO ?_ | refine bJ.ret ?_ | refine sE.l ?_ | refine sE.r ?_ | refine bJ.cF (fun _=>mB) (fun _ _=>?_) | refine bJ.call mB (fun _ _=>?_) | refine bJ.call w6 (fun _ _=>?_))))
 intro h
 simp_all
theorem aHW {K:Nat} {a0:Bytes} (hK:100000<K) (h0:a0.length≤10000):dG (aO6 K a0) (fun _=>True):=by
 refine dG.of ?_
 unfold aO6
 (repeat' (first | (with_reducible first | refine bJ.bO ?_ | refine bJ.bM ?_ | refine bJ.bL ?_ | refine bJ.dN ?_ | refine bJ.ite (fun _=>?_) (fun _=>?_) | refine bJ.cC ?_) | with_reducible refine bJ.bW (by (first | rfl | assumption | omega | (simp [cS,room,c9,eY] at *;omega))) ?_ | (with_reducible first | refine bJ.ret ?_ | refine sE.l ?_ | refine sE.r ?_ | refine bJ.cF (fun _=>kR) (fun _ _=>?_) | refine bJ.call kR (fun _ _=>?_)) | (refine (And.intro (a:=IntKind.i64.wrap _=_) (wrap64 (by omega) (by omega)) ?_))))
 refine bJ.loop (fun t:Int=>0≤t∧t≤a0.length) (fun t=>(a0.length - t).toNat) ⟨by omega,by omega⟩ (by omega) (fun t ⟨h1,h2⟩=>?_)
 (simp (disch:=omega) only[wr,Int.ofNat_eq_natCast])
 (repeat' (first | (with_reducible first | refine bJ.bO ?_ | refine bJ.bM ?_ | refine bJ.bL ?_ | refine bJ.dN ?_ | refine bJ.ite (fun _=>?_) (fun _=>?_) | refine bJ.cC ?_) | with_reducible refine bJ.bW (by (first | rfl | assumption | omega | (simp [cS,room,c9,eY] at *;omega))) ?_ | (with_reducible first | refine bJ.ret ?_ | refine sE.l ?_ | refine sE.r ?_ | refine bJ.cF (fun _=>kR) (fun _ _=>?_) | refine bJ.call kR (fun _ _=>?_)) | (refine (And.intro (a:=IntKind.i64.wrap _=_) (wrap64 (by omega) (by omega)) ?_))))
 (all_goals (try (first | trivial | (intro h;cases h;done) | (first | rfl | assumption | omega | (simp [cS,room,c9,eY] at *;omega)))))
theorem aAP {K:Nat} {a0:Bytes} (hK:100000<K) (h0:a0.length≤6000):dG (aO7 K a0) (fun _=>True):=by
 refine dG.of ?_
 unfold aO7
 (repeat' (first | (with_reducible first | refine bJ.bO ?_ | refine bJ.bM ?_ | refine bJ.bL ?_ | refine bJ.dN ?_ | refine bJ.ite (fun _=>?_) (fun _=>?_) | refine bJ.cC ?_) | with_reducible refine bJ.bW (by (first | rfl | assumption | omega | (simp [cS,room,c9,eY] at *;omega))) ?_ | (with_reducible first | refine bJ.ret ?_ | refine sE.l ?_ | refine sE.r ?_) | with_reducible refine bJ.cF (fun _=>aHW (by omega) (by omega)) (fun _ _=>?_) | (refine (And.intro (a:=IntKind.i64.wrap _=_) (wrap64 (by omega) (by omega)) ?_))))
 (all_goals (try (first | trivial | (intro h;cases h;done) | (first | rfl | assumption | omega | (simp [cS,room,c9,eY] at *;omega)))))
 refine bJ.loop (fun t:Int=>0≤t∧t≤400) (fun t=>(400 - t).toNat) ⟨by omega,by omega⟩ (by omega) (fun t ⟨h1,h2⟩=>?_)
 have hl:((([32]:Bytes)++a0)++([32]:Bytes)).length=a0.length+2:=by simp <;> omega
 rw[hl]
 (simp (disch:=omega) only[wr,Int.ofNat_eq_natCast])
 (repeat' (first | (with_reducible first | refine bJ.bO ?_ | refine bJ.bM ?_ | refine bJ.bL ?_ | refine bJ.dN ?_ | refine bJ.ite (fun _=>?_) (fun _=>?_) | refine bJ.cC ?_) | with_reducible refine bJ.bW (by (first | rfl | assumption | omega | (simp [cS,room,c9,eY] at *;omega))) ?_ | (with_reducible first | refine bJ.ret ?_ | refine sE.l ?_ | refine sE.r ?_) | with_reducible refine bJ.cF (fun _=>aHW (by omega) (by omega)) (fun _ _=>?_) | (refine (And.intro (a:=IntKind.i64.wrap _=_) (wrap64 (by omega) (by omega)) ?_))))
 (all_goals (try (first | trivial | (intro h;cases h;done) | (first | rfl | assumption | omega | (simp [cS,room,c9,eY] at *;omega)))))
theorem aAQ {K:Nat} {a0:Bytes} {a1:Int} (hK:100000<K) (h0:a0.length≤6000) (h1:0≤a1) (h2:a1<a0.length):dG (aO8 K a0 a1) (fun v=>0≤v∧a1+v≤a0.length):=by
 refine dG.of ?_
 unfold aO8
 (simp (disch:=omega) only[wr,Int.ofNat_eq_natCast])
 (repeat' (first | (with_reducible first | refine bJ.bO ?_ | refine bJ.ite (fun _=>?_) (fun _=>?_) | refine bJ.cC ?_) | with_reducible refine bJ.bW (by (first | rfl | assumption | omega | (simp [cS,room,c9,eY] at *;omega))) ?_ | (with_reducible first | refine bJ.ret ?_ | refine sE.l ?_ | refine sE.r ?_) | with_reducible refine bJ.cF (fun _=>aHV (by omega) (by simp) (by simp <;> omega)) (fun _ _=>?_) | with_reducible refine bJ.call (aHV (by omega) (by simp) (by simp <;> omega)) (fun _ _=>?_) | (refine (And.intro (a:=IntKind.i64.wrap _=_) (wrap64 (by omega) (by omega)) ?_))))
 (all_goals (try (first | trivial | (intro h;cases h;done) | (first | rfl | assumption | omega | (simp [cS,room,c9,eY] at *;omega)))))
theorem aEd {K:Nat} {a0:Bytes} {a1:Int} (hK:100000<K) (h0:a0.length≤6000) (h1:0≤a1) (h2:a1<a0.length):dG (aO9 K a0 a1) (fun v=>v.2.2=0→a1<v.2.1∧v.2.1≤a0.length∧v.1.aBP=(a0.drop a1.toNat).take (v.2.1.toNat - a1.toNat)):=by
 refine dG.of ?_
 unfold aO9
 (repeat' (first | (with_reducible first | refine bJ.bO ?_ | refine bJ.bM ?_ | refine bJ.bL ?_ | refine bJ.dN ?_ | refine bJ.ite (fun _=>?_) (fun _=>?_) | refine bJ.cC ?_) | with_reducible refine bJ.bW (by (first | rfl | assumption | omega | (simp [cS,room,c9,eY] at *;omega))) ?_ | (with_reducible first | refine bJ.ret ?_ | refine sE.l ?_ | refine sE.r ?_) | with_reducible refine bJ.call (aAQ (by omega) (by assumption) (by omega) (by omega)) (fun _ _=>?_) | with_reducible refine bJ.call (aAP (by omega) (by simp <;> omega)) (fun _ _=>?_) | (with_reducible first | refine bJ.cF (fun _=>kR) (fun _ _=>?_) | refine bJ.call kR (fun _ _=>?_) | refine bJ.cF (fun _=>mB) (fun _ _=>?_) | refine bJ.call mB (fun _ _=>?_) | refine bJ.call w6 (fun _ _=>?_)) | (refine (And.intro (a:=IntKind.i64.wrap _=_) (wrap64 (by omega) (by omega)) ?_))))
 ·rename_i v1 hv1 hw
  rw[hw] at hv1
  refine bJ.loop (fun t:Int=>a1≤t∧t≤a0.length) (fun t=>(a0.length - t).toNat) ⟨by omega,by omega⟩ (by omega) (fun t ⟨h3,h4⟩=>?_)
  (simp (disch:=omega) only[wr,Int.ofNat_eq_natCast])
  (repeat' (first | (with_reducible first | refine bJ.bO ?_ | refine bJ.bM ?_ | refine bJ.bL ?_ | refine bJ.dN ?_ | refine bJ.ite (fun _=>?_) (fun _=>?_) | refine bJ.cC ?_) | with_reducible refine bJ.bW (by (first | rfl | assumption | omega | (simp [cS,room,c9,eY] at *;omega))) ?_ | (with_reducible first | refine bJ.ret ?_ | refine sE.l ?_ | refine sE.r ?_) | with_reducible refine bJ.call (aAQ (by omega) (by assumption) (by omega) (by omega)) (fun _ _=>?_) | with_reducible refine bJ.call (aAP (by omega) (by simp <;> omega)) (fun _ _=>?_) | (with_reducible first | refine bJ.cF (fun _=>kR) (fun _ _=>?_) | refine bJ.call kR (fun _ _=>?_) | refine bJ.cF (fun _=>mB) (fun _ _=>?_) | refine bJ.call mB (fun _ _=>?_) | refine bJ.call w6 (fun _ _=>?_)) | (refine (And.intro (a:=IntKind.i64.wrap _=_) (wrap64 (by omega) (by omega)) ?_))))
  all_goals try ((all_goals (try (first | trivial | (intro h;cases h;done) | (first | rfl | assumption | omega | (simp [cS,room,c9,eY] at *;omega)))));done)
  all_goals
   have hlt:∀ v:Bool,(decide (t<(a0.length:Int))=true→lx.f (a0.getD t.toNat 0)=true→v=true)→¬ (decide (t<(a0.length:Int)) && v)=true→a1<t:=fun v g1 g2=>by
    by_cases e:t=a1
    ·subst e
     have:=g1 (by simpa using h2) hv1.symm
     simp [this,h2] at g2
    ·omega
   intro _
   exact ⟨hlt _ (by assumption) (by assumption),h4,rfl⟩
 ·rename_i v1 hv1 hw v2 hv2 hw2
  rw[hw2] at hv2
  refine bJ.loop (fun t:Int × Int=>a1≤t.2∧t.2≤a0.length) (fun t=>(a0.length - t.2).toNat) ⟨by simp,by simp;omega⟩ (by simp;omega) (fun t ⟨h3,h4⟩=>?_)
  obtain ⟨n,t⟩:=t
  dsimp only at h3 h4 ⊢
  (simp (disch:=omega) only[wr,Int.ofNat_eq_natCast])
  (repeat' (first | (with_reducible first | refine bJ.bO ?_ | refine bJ.bM ?_ | refine bJ.bL ?_ | refine bJ.dN ?_ | refine bJ.ite (fun _=>?_) (fun _=>?_) | refine bJ.cC ?_) | with_reducible refine bJ.bW (by (first | rfl | assumption | omega | (simp [cS,room,c9,eY] at *;omega))) ?_ | (with_reducible first | refine bJ.ret ?_ | refine sE.l ?_ | refine sE.r ?_) | with_reducible refine bJ.call (aAQ (by omega) (by assumption) (by omega) (by omega)) (fun _ _=>?_) | with_reducible refine bJ.call (aAP (by omega) (by simp <;> omega)) (fun _ _=>?_) | (with_reducible first | refine bJ.cF (fun _=>kR) (fun _ _=>?_) | refine bJ.call kR (fun _ _=>?_) | refine bJ.cF (fun _=>mB) (fun _ _=>?_) | refine bJ.call mB (fun _ _=>?_) | refine bJ.call w6 (fun _ _=>?_)) | (refine (And.intro (a:=IntKind.i64.wrap _=_) (wrap64 (by omega) (by omega)) ?_))))
  all_goals try ((all_goals (try (first | trivial | (intro h;cases h;done) | (first | rfl | assumption | omega | (simp [cS,room,c9,eY] at *;omega)))));done)
  all_goals
   have hlt:∀ v:Bool,(decide (t<(a0.length:Int))=true→v=lx.d (a0.getD t.toNat 0))→¬ (decide (t<(a0.length:Int)) && v)=true→a1<t:=fun v g1 g2=>by
    by_cases e:t=a1
    ·subst e
     have:=g1 (by simpa using h2)
     rw[← hv2] at this
     simp [this,h2] at g2
    ·omega
   intro _
   exact ⟨hlt _ (by assumption) (by assumption),h4,rfl⟩
 ·rename_i v hv
  (simp (disch:=omega) only[wr,Int.ofNat_eq_natCast])
  (repeat' (first | (with_reducible first | refine bJ.bO ?_ | refine bJ.bM ?_ | refine bJ.bL ?_ | refine bJ.dN ?_ | refine bJ.ite (fun _=>?_) (fun _=>?_) | refine bJ.cC ?_) | with_reducible refine bJ.bW (by (first | rfl | assumption | omega | (simp [cS,room,c9,eY] at *;omega))) ?_ | (with_reducible first | refine bJ.ret ?_ | refine sE.l ?_ | refine sE.r ?_) | with_reducible refine bJ.call (aAQ (by omega) (by assumption) (by omega) (by omega)) (fun _ _=>?_) | with_reducible refine bJ.call (aAP (by omega) (by simp <;> omega)) (fun _ _=>?_) | (with_reducible first | refine bJ.cF (fun _=>kR) (fun _ _=>?_) | refine bJ.call kR (fun _ _=>?_) | refine bJ.cF (fun _=>mB) (fun _ _=>?_) | refine bJ.call mB (fun _ _=>?_) | refine bJ.call w6 (fun _ _=>?_)) | (refine (And.intro (a:=IntKind.i64.wrap _=_) (wrap64 (by omega) (by omega)) ?_))))
  all_goals try ((all_goals (try (first | trivial | (intro h;cases h;done) | (first | rfl | assumption | omega | (simp [cS,room,c9,eY] at *;omega)))));done)
  all_goals
   rename_i h
   intro _
   simp only[beq_iff_eq] at h
   dsimp only
   refine ⟨by omega,by omega,rfl⟩
theorem aVa {l:Bytes} {a b:Int} (h0:0≤a) (h1:a<b) (h2:b≤l.length):(l.drop a.toNat).take (b.toNat - a.toNat)≠[]:=by
 intro h
 have:=congrArg List.length h
 rw[aR,bI,List.length_nil] at this
 omega
theorem aPN {K:Nat} {a0:Bytes} (hK:100000<K):dG (aOZ K a0) (fun v=>v.1.length≤1500∧∀ x∈v.1,x.aBP≠[]):=by
 refine dG.of ?_
 unfold aOZ
 (repeat' (first | (with_reducible first | refine bJ.bO ?_ | refine bJ.bM ?_ | refine bJ.bL ?_ | refine bJ.dN ?_ | refine bJ.ite (fun _=>?_) (fun _=>?_) | refine bJ.cC ?_) | with_reducible refine bJ.bW (by (first | assumption | rfl | trivial | omega | (simp only[aB,aC,aM,Bool.not_eq_true,Bool.and_eq_false_iff,Bool.or_eq_false_iff,decide_eq_false_iff_not,Int.ofNat_eq_natCast,cS,room,c9,Int.toNat_natCast,aP,Bool.not_true,Bool.not_false,Bool.not_eq_false',Bool.not_not,eY,aE,List.length_cons,List.length_nil,List.length_replicate,aR,bI,bne_iff_ne,beq_iff_eq,ne_eq] at *;first | assumption | omega | (split at * <;> omega)))) ?_ | (with_reducible first | refine bJ.ret ?_ | refine sE.l ?_ | refine sE.r ?_) | with_reducible refine bJ.call (aEd (by omega) (by assumption) (by omega) (by omega)) (fun _ _=>?_) | with_reducible refine bJ.call (aEc (by omega) (by omega) (by omega) (by omega)) (fun _ _=>?_) | (refine (And.intro (a:=IntKind.i64.wrap _=_) (wrap64 (by omega) (by omega)) ?_))))
 ·exact ⟨by simp,fun x hx=>by cases hx⟩
 ·rename_i h
  simp only[aB,Int.ofNat_eq_natCast] at h
  have h0:a0.length≤6000:=by omega
  refine bJ.loop (fun t:List tS × Int=>t.1.length≤1500∧0≤t.2∧t.2≤a0.length∧∀ x∈t.1,x.aBP≠[]) (fun t=>(a0.length - t.2).toNat) ⟨by simp,by simp,by simp,by simp⟩ (by simp;omega) (fun t ⟨h1,h2,h3,h9⟩=>?_)
  obtain ⟨l,t⟩:=t
  dsimp only at h1 h2 h3 h9 ⊢
  (simp (disch:=omega) only[wr,Int.ofNat_eq_natCast])
  (repeat' (first | (with_reducible first | refine bJ.bO ?_ | refine bJ.bM ?_ | refine bJ.bL ?_ | refine bJ.dN ?_ | refine bJ.ite (fun _=>?_) (fun _=>?_) | refine bJ.cC ?_) | with_reducible refine bJ.bW (by (first | assumption | rfl | trivial | omega | (simp only[aB,aC,aM,Bool.not_eq_true,Bool.and_eq_false_iff,Bool.or_eq_false_iff,decide_eq_false_iff_not,Int.ofNat_eq_natCast,cS,room,c9,Int.toNat_natCast,aP,Bool.not_true,Bool.not_false,Bool.not_eq_false',Bool.not_not,eY,aE,List.length_cons,List.length_nil,List.length_replicate,aR,bI,bne_iff_ne,beq_iff_eq,ne_eq] at *;first | assumption | omega | (split at * <;> omega)))) ?_ | (with_reducible first | refine bJ.ret ?_ | refine sE.l ?_ | refine sE.r ?_) | with_reducible refine bJ.call (aEd (by omega) (by assumption) (by omega) (by omega)) (fun _ _=>?_) | with_reducible refine bJ.call (aEc (by omega) (by omega) (by omega) (by omega)) (fun _ _=>?_) | (refine (And.intro (a:=IntKind.i64.wrap _=_) (wrap64 (by omega) (by omega)) ?_))))
  all_goals try ((all_goals (try (first | trivial | (intro h;cases h;done) | (first | assumption | rfl | trivial | omega | (simp only[aB,aC,aM,Bool.not_eq_true,Bool.and_eq_false_iff,Bool.or_eq_false_iff,decide_eq_false_iff_not,Int.ofNat_eq_natCast,cS,room,c9,Int.toNat_natCast,aP,Bool.not_true,Bool.not_false,Bool.not_eq_false',Bool.not_not,eY,aE,List.length_cons,List.length_nil,List.length_replicate,aR,bI,bne_iff_ne,beq_iff_eq,ne_eq] at *;first | assumption | omega | (split at * <;> omega))))));done)
  all_goals
   have hlt:t<(a0.length:Int):=of_decide_eq_true (by assumption)
   (repeat' (first | (with_reducible first | refine bJ.bO ?_ | refine bJ.bM ?_ | refine bJ.bL ?_ | refine bJ.dN ?_ | refine bJ.ite (fun _=>?_) (fun _=>?_) | refine bJ.cC ?_) | with_reducible refine bJ.bW (by (first | assumption | rfl | trivial | omega | (simp only[aB,aC,aM,Bool.not_eq_true,Bool.and_eq_false_iff,Bool.or_eq_false_iff,decide_eq_false_iff_not,Int.ofNat_eq_natCast,cS,room,c9,Int.toNat_natCast,aP,Bool.not_true,Bool.not_false,Bool.not_eq_false',Bool.not_not,eY,aE,List.length_cons,List.length_nil,List.length_replicate,aR,bI,bne_iff_ne,beq_iff_eq,ne_eq] at *;first | assumption | omega | (split at * <;> omega)))) ?_ | (with_reducible first | refine bJ.ret ?_ | refine sE.l ?_ | refine sE.r ?_) | with_reducible refine bJ.call (aEd (by omega) (by assumption) (by omega) (by omega)) (fun _ _=>?_) | with_reducible refine bJ.call (aEc (by omega) (by omega) (by omega) (by omega)) (fun _ _=>?_) | (refine (And.intro (a:=IntKind.i64.wrap _=_) (wrap64 (by omega) (by omega)) ?_))))
  all_goals try ((all_goals (try (first | trivial | (intro h;cases h;done) | (first | assumption | rfl | trivial | omega | (simp only[aB,aC,aM,Bool.not_eq_true,Bool.and_eq_false_iff,Bool.or_eq_false_iff,decide_eq_false_iff_not,Int.ofNat_eq_natCast,cS,room,c9,Int.toNat_natCast,aP,Bool.not_true,Bool.not_false,Bool.not_eq_false',Bool.not_not,eY,aE,List.length_cons,List.length_nil,List.length_replicate,aR,bI,bne_iff_ne,beq_iff_eq,ne_eq] at *;first | assumption | omega | (split at * <;> omega))))));done)
  all_goals try (exact ⟨by simp,fun x hx=>by cases hx⟩)
  all_goals try (exact ⟨h1,h9⟩)
  all_goals try (exact ⟨⟨by dsimp only;omega,by dsimp only;omega,by dsimp only;omega,h9⟩,by dsimp only;omega⟩)
  ·rename_i w1 w2 v hv w3
   simp only[aB] at w3
   exact ⟨⟨by dsimp only;omega,by dsimp only;omega,by dsimp only;omega,h9⟩,by dsimp only;omega⟩
  ·rename_i w1 w2 v hv w3 w4
   simp only[bne_iff_ne,ne_eq,Decidable.not_not] at w3
   simp only[aB,Int.ofNat_eq_natCast] at w4
   obtain ⟨k1,k2,k3⟩:=hv w3
   refine ⟨⟨by simp only[aE,List.length_singleton];omega,by dsimp only;omega,by dsimp only;omega,fun x hx=>?_⟩,by dsimp only;omega⟩
   rcases bG.1 hx with hx | hx
   ·exact h9 x hx
   ·rw[aQ.1 hx,k3]
    exact aVa h2 k1 k2
end Go.Proofs.YtdbfbedholdjaaaGreat

namespace Go.Proofs.YtdbfbedholdjaaaGreat
open Go Go.Dl
variable [eC]
set_option maxRecDepth 100000
mutual
def cM.sz:cM→Nat
 | ⟨_,_,_,_,a⟩=>1+cM.jF a
def cM.jF:List cM→Nat
 | []=>0
 | x::r=>cM.sz x+cM.jF r
end
theorem oF:∀ (a b:List cM),cM.jF (a++b)=cM.jF a+cM.jF b
 | [],b=>by simp [cM.jF]
 | x::a,b=>by rw[List.cons_append,cM.jF,cM.jF,oF a b];omega
theorem cM.aEj (e:cM):1≤e.sz:=by cases e;rw[cM.sz];omega
theorem oE:∀ l:List cM,l.length≤cM.jF l
 | []=>by simp [cM.jF]
 | x::r=>by rw[List.length_cons,cM.jF];have:=oE r;have:=x.aEj;omega
def qY:List (List Int)→Nat
 | []=>0
 | x::r=>1+x.length+qY r
theorem tT:∀ (a b:List (List Int)),qY (a++b)=qY a+qY b
 | [],b=>by simp [qY]
 | x::a,b=>by rw[List.cons_append,qY,qY,tT a b];omega
theorem aD5:∀ l:List (List Int),l.length≤qY l
 | []=>by simp [qY]
 | x::r=>by rw[List.length_cons,qY];have:=aD5 r;omega
mutual
def cJ.sz:cJ→Nat
 | ⟨_,_,_,e,l,b⟩=>1+cM.jF e+qY l+cJ.lS b
def cJ.jF:List cJ→Nat
 | []=>0
 | x::r=>cJ.sz x+cJ.jF r
def cJ.lS:List (List cJ)→Nat
 | []=>0
 | x::r=>1+cJ.jF x+cJ.lS r
end
theorem wZ:∀ (a b:List cJ),cJ.jF (a++b)=cJ.jF a+cJ.jF b
 | [],b=>by simp [cJ.jF]
 | x::a,b=>by rw[List.cons_append,cJ.jF,cJ.jF,wZ a b];omega
theorem sH:∀ (a b:List (List cJ)),cJ.lS (a++b)=cJ.lS a+cJ.lS b
 | [],b=>by simp [cJ.lS]
 | x::a,b=>by rw[List.cons_append,cJ.lS,cJ.lS,sH a b];omega
theorem cJ.aEj (e:cJ):1≤e.sz:=by cases e;rw[cJ.sz];omega
theorem aJu:∀ l:List cJ,l.length≤cJ.jF l
 | []=>by simp [cJ.jF]
 | x::r=>by rw[List.length_cons,cJ.jF];have:=aJu r;have:=x.aEj;omega
theorem aCF:∀ l:List (List cJ),l.length≤cJ.lS l
 | []=>by simp [cJ.lS]
 | x::r=>by rw[List.length_cons,cJ.lS];have:=aCF r;omega
def iI.sz (m:iI):Nat:=1+m.cV.length+m.cU.length+cJ.jF m.uV
def zH:List iI→Nat
 | []=>0
 | x::r=>x.sz+zH r
theorem xI:∀ (a b:List iI),zH (a++b)=zH a+zH b
 | [],b=>by simp [zH]
 | x::a,b=>by rw[List.cons_append,zH,zH,xI a b];omega
theorem aLg:∀ l:List iI,l.length≤zH l
 | []=>by simp [zH]
 | x::r=>by rw[List.length_cons,zH,iI.sz];have:=aLg r;omega
def jX.sz (d:jX):Nat:=1+d.dZ.length+d.cU.length+zH d.bN+cJ.jF d.uV
def dsz:List jX→Nat
 | []=>0
 | x::r=>x.sz+dsz r
theorem uR:∀ (a b:List jX),dsz (a++b)=dsz a+dsz b
 | [],b=>by simp [dsz]
 | x::a,b=>by rw[List.cons_append,dsz,dsz,uR a b];omega
theorem aLh:∀ l:List jX,l.length≤dsz l
 | []=>by simp [dsz]
 | x::r=>by rw[List.length_cons,dsz,jX.sz];have:=aLh r;omega
structure Rd (r:cB):Prop where
 lo:0≤r.qE
 hi:r.qE≤r.ft.length
 n:r.ft.length≤1500
 nm:∀ t∈r.ft,t.aBP≠[]
def mu (r:cB):Nat:=if r.iN=0 then (r.ft.length - r.qE).toNat+1 else 0
theorem nP {r:cB} (h:Rd r):mu r≤1501:=by
 unfold mu;have:=h.n;have:=h.lo;split <;> omega
theorem bJ.dB {α R:Type} {b:Bool} {d:R} {m:Option (R ⊕ R)} {f:R→Option α} {Q:α→Prop} {P:R→Prop} (hb:b=true) (h:dG m P) (hf:∀ v,P v→bJ (f v) Q):bJ ((cK b (bU m) d).bind f) Q :=
 bJ.cF (fun _=>h) fun v hv=>hf v (hv hb)
theorem aLi {K:Nat} {r:cB} {s:Bytes} (h:Rd r):dG (F73 K r s) (fun v=>v=true→r.iN=0∧r.qE<r.ft.length):=by
 obtain ⟨h1,h2,h3,h9⟩:=h
 refine dG.of ?_
 unfold F73
 (repeat' (first | (with_reducible first | refine bJ.bO ?_ | refine bJ.ite (fun _=>?_) (fun _=>?_) | refine bJ.cC ?_) | with_reducible refine bJ.bW (by (first | rfl | assumption | omega | (simp [cS,room,c9,eY] at *;omega))) ?_ | (with_reducible first | refine bJ.ret ?_ | refine sE.l ?_ | refine sE.r ?_)))
 ·(all_goals (try (first | trivial | (intro h;cases h;done) | (first | rfl | assumption | omega | (simp [cS,room,c9,eY] at *;omega)))))
 ·rename_i h
  simp only[aM,bne_iff_ne,aB,not_or,ge_iff_le,Int.not_le,Int.ofNat_eq_natCast,ne_eq,Decidable.not_not] at h
  exact fun _=>h
theorem aEk {K:Nat} {r:cB} {k:Int} (h:Rd r):dG (vD K r k) (fun v=>v=true→r.iN=0∧r.qE<r.ft.length):=by
 obtain ⟨h1,h2,h3,h9⟩:=h
 refine dG.of ?_
 unfold vD
 (repeat' (first | (with_reducible first | refine bJ.bO ?_ | refine bJ.cC ?_) | with_reducible refine bJ.bW (by (first | rfl | assumption | omega | (simp [cS,room,c9,eY] at *;omega))) ?_ | (with_reducible first | refine bJ.ret ?_ | refine sE.l ?_ | refine sE.r ?_)))
 intro hv
 simp only[aC,beq_iff_eq,aB,Int.ofNat_eq_natCast] at hv
 exact hv.1
theorem aLj {K:Nat} {r:cB} (h:Rd r):dG (F75 K r) (fun v=>v.2=r):=by
 obtain ⟨h1,h2,h3,h9⟩:=h
 refine dG.of ?_
 unfold F75
 (repeat' (first | (with_reducible first | refine bJ.bO ?_ | refine bJ.ite (fun _=>?_) (fun _=>?_) | refine bJ.cC ?_) | with_reducible refine bJ.bW (by (first | rfl | assumption | omega | (simp [cS,room,c9,eY] at *;omega))) ?_ | (with_reducible first | refine bJ.ret ?_ | refine sE.l ?_ | refine sE.r ?_)))
 all_goals rfl
theorem zB {r:cB} (h:r.iN=0):0<mu r:=by unfold mu;rw[aH h];omega
theorem aGj {r:cB} (h:Rd r) (h1:r.iN=0∧r.qE<r.ft.length):Rd ⟨r.ft,IntKind.i64.wrap (r.qE+1),r.aG8,r.iN,r.aCe⟩∧mu ⟨r.ft,IntKind.i64.wrap (r.qE+1),r.aG8,r.iN,r.aCe⟩+1≤mu r:=by
 obtain ⟨h2,h3,h4,h9⟩:=h
 obtain ⟨h5,h6⟩:=h1
 have hw:IntKind.i64.wrap (r.qE+1)=r.qE+1:=wr (by omega) (by omega)
 rw[hw]
 refine ⟨⟨by dsimp only;omega,by dsimp only;omega,h4,h9⟩,?_⟩
 unfold mu
 dsimp only
 rw[aH h5,aH h5];omega
theorem jW {K:Nat} {r:cB} {c:Int} (h:Rd r) (hc:c≠0):dG (aAu K r c) (fun v=>Rd v∧mu v=0):=by
 have h0:=h
 obtain ⟨h1,h2,h3,h9⟩:=h
 refine dG.of ?_
 unfold aAu
 refine bJ.ite (fun e=>?_) (fun e=>?_)
 ·refine bJ.call (aLj h0) (fun v hv=>?_)
  obtain ⟨p,v⟩:=v
  obtain rfl:v=r:=hv
  (repeat' (first | (with_reducible first | refine bJ.ite (fun _=>?_) (fun _=>?_) | refine bJ.ret ?_ | refine sE.l ?_ | refine sE.r ?_)))
  refine ⟨⟨by simp,by simp,h3,h9⟩,?_⟩
  unfold mu;rw[aG hc]
 ·(repeat' (first | (with_reducible first | refine bJ.ite (fun _=>?_) (fun _=>?_) | refine bJ.ret ?_ | refine sE.l ?_ | refine sE.r ?_)))
  refine ⟨h0,?_⟩
  unfold mu;rw[aG (by simpa using e)]
theorem e9 {K:Nat} {r:cB} {a b:Int} (h:Rd r):dG (F74 K r a b) (fun v=>Rd v∧mu v≤mu r):=by
 refine dG.of ?_
 unfold F74
 refine bJ.ite (fun e=>?_) (fun e=>?_)
 ·refine bJ.call (jW h (by decide)) (fun v hv=>?_)
  (repeat' (first | (with_reducible first | refine bJ.ite (fun _=>?_) (fun _=>?_) | refine bJ.ret ?_ | refine sE.l ?_ | refine sE.r ?_)))
  exact ⟨hv.1,by rw[hv.2];exact Nat.zero_le _⟩
 ·(repeat' (first | (with_reducible first | refine bJ.ite (fun _=>?_) (fun _=>?_) | refine bJ.ret ?_ | refine sE.l ?_ | refine sE.r ?_)))
  exact ⟨h,aO _⟩
theorem eH {K:Nat} {r:cB} {s:Bytes} (h:Rd r):dG (gE K r s) (fun v=>(v.1=true∧Rd v.2∧mu v.2+1≤mu r)∨(v.1=false∧v.2=r)):=by
 refine dG.of ?_
 unfold gE
 refine bJ.dB (by decide) (aLi h) (fun v hv=>?_)
 refine bJ.ite (fun e=>?_) (fun e=>?_)
 ·(repeat' (first | (with_reducible first | refine bJ.ite (fun _=>?_) (fun _=>?_) | refine bJ.ret ?_ | refine sE.l ?_ | refine sE.r ?_) | (refine (And.intro (a:=IntKind.i64.wrap _=_) (wrap64 (by omega) (by omega)) ?_))))
  exact .inl ⟨rfl,aGj h (hv e)⟩
 ·(repeat' (first | (with_reducible first | refine bJ.ite (fun _=>?_) (fun _=>?_) | refine bJ.ret ?_ | refine sE.l ?_ | refine sE.r ?_) | (refine (And.intro (a:=IntKind.i64.wrap _=_) (wrap64 (by omega) (by omega)) ?_))))
  exact .inr ⟨rfl,rfl⟩
theorem eT {K:Nat} {r:cB} {s:Bytes} (h:Rd r):dG (fJ K r s) (fun v=>Rd v∧mu v≤mu r - 1):=by
 refine dG.of ?_
 unfold fJ
 refine bJ.call (eH h) ?_
 rintro ⟨b,v⟩ (⟨h1,h2,h3⟩ | ⟨h1,h2⟩)
 ·dsimp only at h1 h2 h3 ⊢
  subst h1
  refine bJ.fC (by simp) ?_
  (repeat' (first | (with_reducible first | refine bJ.ite (fun _=>?_) (fun _=>?_) | refine bJ.ret ?_ | refine sE.l ?_ | refine sE.r ?_)))
  exact ⟨h2,by omega⟩
 ·dsimp only at h1 h2 ⊢
  subst h1;subst h2
  refine bJ.eX (by simp) ?_
  refine bJ.call (jW h (by decide)) (fun v hv=>?_)
  (repeat' (first | (with_reducible first | refine bJ.ite (fun _=>?_) (fun _=>?_) | refine bJ.ret ?_ | refine sE.l ?_ | refine sE.r ?_)))
  exact ⟨hv.1,by omega⟩
theorem aLk {K:Nat} {r:cB} (h:Rd r):dG (pK K r) (fun v=>(Rd v.2∧mu v.2≤mu r - 1)∧(mu v.2≠0→v.1≠[])):=by
 refine dG.of ?_
 unfold pK
 refine bJ.dB (by decide) (aEk h) (fun v hv=>?_)
 refine bJ.ite (fun e=>?_) (fun e=>?_)
 ·refine bJ.call (jW h (by decide)) (fun v hv=>?_)
  (repeat' (first | (with_reducible first | refine bJ.bO ?_ | refine bJ.ite (fun _=>?_) (fun _=>?_) | refine bJ.cC ?_) | with_reducible refine bJ.bW (by (first | rfl | assumption | omega | (simp [cS,room,c9,eY] at *;omega))) ?_ | (with_reducible first | refine bJ.ret ?_ | refine sE.l ?_ | refine sE.r ?_) | (refine (And.intro (a:=IntKind.i64.wrap _=_) (wrap64 (by omega) (by omega)) ?_))))
  exact ⟨⟨hv.1,by have:=hv.2;dsimp only;omega⟩,fun e=>absurd hv.2 e⟩
 ·have h1:=hv (by simpa using e)
  obtain ⟨h2,h3⟩:=aGj h h1
  have hw:IntKind.i64.wrap (r.qE+1)=r.qE+1:=wr (by have:=h.lo;omega) (by have:=h.hi;have:=h.n;omega)
  have hw2:IntKind.i64.wrap (IntKind.i64.wrap (r.qE+1) - 1)=r.qE:=by rw[hw,wr (by have:=h.lo;omega) (by have:=h.hi;have:=h.n;omega)];omega
  rw[hw2]
  have:=h.lo
  (repeat' (first | (with_reducible first | refine bJ.bO ?_ | refine bJ.ite (fun _=>?_) (fun _=>?_) | refine bJ.cC ?_) | with_reducible refine bJ.bW (by (first | rfl | assumption | omega | (simp [cS,room,c9,eY] at *;omega))) ?_ | (with_reducible first | refine bJ.ret ?_ | refine sE.l ?_ | refine sE.r ?_) | (refine (And.intro (a:=IntKind.i64.wrap _=_) (wrap64 (by omega) (by omega)) ?_))))
  refine ⟨⟨h2,by dsimp only;omega⟩,fun _=>h.nm _ ?_⟩
  have h4:r.qE.toNat<r.ft.length:=by have:=h1.2;omega
  rw[List.getD,aD h4]
  exact List.getElem_mem h4
theorem fR {K:Nat} {r:cB} (h:Rd r):dG (pK K r) (fun v=>Rd v.2∧mu v.2≤mu r - 1):=(aLk h).aAH fun v hv=>hv.1
theorem tU {K:Nat} {r:cB} (h:Rd r):dG (aDW K r) (fun v=>Rd v.2∧mu v.2≤mu r - 1):=by
 refine dG.of ?_
 unfold aDW
 refine bJ.dB (by decide) (aEk h) (fun v hv=>?_)
 refine bJ.ite (fun e=>?_) (fun e=>?_)
 ·refine bJ.call (jW h (by decide)) (fun v hv=>?_)
  (repeat' (first | (with_reducible first | refine bJ.bO ?_ | refine bJ.ite (fun _=>?_) (fun _=>?_) | refine bJ.cC ?_) | with_reducible refine bJ.bW (by (first | rfl | assumption | omega | (simp [cS,room,c9,eY] at *;omega))) ?_ | (with_reducible first | refine bJ.ret ?_ | refine sE.l ?_ | refine sE.r ?_) | (refine (And.intro (a:=IntKind.i64.wrap _=_) (wrap64 (by omega) (by omega)) ?_))))
  exact ⟨hv.1,by have:=hv.2;dsimp only;omega⟩
 ·have h1:=hv (by simpa using e)
  obtain ⟨h2,h3⟩:=aGj h h1
  have hw:IntKind.i64.wrap (r.qE+1)=r.qE+1:=wr (by have:=h.lo;omega) (by have:=h.hi;have:=h.n;omega)
  have hw2:IntKind.i64.wrap (IntKind.i64.wrap (r.qE+1) - 1)=r.qE:=by rw[hw,wr (by have:=h.lo;omega) (by have:=h.hi;have:=h.n;omega)];omega
  rw[hw2]
  have:=h.lo
  (repeat' (first | (with_reducible first | refine bJ.bO ?_ | refine bJ.ite (fun _=>?_) (fun _=>?_) | refine bJ.cC ?_) | with_reducible refine bJ.bW (by (first | rfl | assumption | omega | (simp [cS,room,c9,eY] at *;omega))) ?_ | (with_reducible first | refine bJ.ret ?_ | refine sE.l ?_ | refine sE.r ?_) | (refine (And.intro (a:=IntKind.i64.wrap _=_) (wrap64 (by omega) (by omega)) ?_))))
  exact ⟨h2,by dsimp only;omega⟩
theorem cX {K:Nat} {r:cB} {s:Bytes} (h:Rd r):dG (F73 K r s) (fun v=>(v=true∧0<mu r)∨v=false) :=
 (aLi h).aAH fun v hv=>by cases v with
  | false=>exact .inr rfl
  | true=>exact .inl ⟨rfl,zB (hv rfl).1⟩
theorem cZ {K:Nat} {r:cB} {k:Int} (h:Rd r):dG (vD K r k) (fun v=>(v=true∧0<mu r)∨v=false) :=
 (aEk h).aAH fun v hv=>by cases v with
  | false=>exact .inr rfl
  | true=>exact .inl ⟨rfl,zB (hv rfl).1⟩
theorem bJ.gP {α R:Type} {d:R} {m:Option R} {f:R→Option α} {Q:α→Prop} {b:Bool} (hb:b=false) (hf:bJ (f d) Q):bJ ((cK b m d).bind f) Q:=by
 subst hb;exact hf
theorem rB {K:Nat} {r:cB} (h:Rd r):dG (aEI K r) (fun v=>Rd v.2∧mu v.2≤mu r - 1):=by
 refine dG.of ?_
 unfold aEI
 (repeat' (first | with_reducible refine bJ.eX (by decide) ?_ | with_reducible refine bJ.fC (by decide) ?_ | (with_reducible refine bJ.call (eH (by assumption)) ?_;rintro ⟨_,_⟩ h;dsimp only at h;rcases h with (⟨rfl,_,_⟩ | ⟨rfl,rfl⟩) <;> try dsimp only) | (with_reducible refine bJ.call (tU (by assumption)) ?_;rintro ⟨_,_⟩ ⟨_,_⟩;try dsimp only at *) | (with_reducible first | refine bJ.ite (fun _=>?_) (fun _=>?_) | refine bJ.ret ?_ | refine sE.l ?_ | refine sE.r ?_)))
 all_goals exact ⟨by assumption,by dsimp only;omega⟩
theorem aPT {K:Nat} {r:cB} (hK:100<K) (h:Rd r):dG (aOP K r) (fun v=>Rd v.2∧mu v.2≤mu r):=by
 refine dG.of ?_
 unfold aOP
 (repeat' (first | (with_reducible first | refine bJ.bO ?_ | refine bJ.bM ?_ | refine bJ.bL ?_ | refine bJ.dN ?_) | with_reducible refine bJ.eX (by decide) ?_ | with_reducible refine bJ.fC (by decide) ?_ | (with_reducible refine bJ.call (eH (by assumption)) ?_;rintro ⟨_,_⟩ h;dsimp only at h;rcases h with (⟨rfl,_,_⟩ | ⟨rfl,rfl⟩) <;> try dsimp only) | (with_reducible first | refine bJ.ite (fun _=>?_) (fun _=>?_) | refine bJ.cC ?_) | with_reducible refine bJ.bW (by (first | rfl | assumption | omega | (simp [cS,room,c9,eY] at *;omega))) ?_ | (with_reducible first | refine bJ.ret ?_ | refine sE.l ?_ | refine sE.r ?_)))
 refine bJ.loop (fun t:cB × Int=>t.1=r∧0≤t.2∧t.2≤8) (fun t=>(8 - t.2).toNat) ⟨rfl,by simp,by simp⟩ (by simp;omega) ?_
 rintro ⟨q,t⟩ ⟨rfl,h1,h2⟩
 dsimp only at h h1 h2 ⊢
 (simp (disch:=omega) only[wr,Int.ofNat_eq_natCast])
 (repeat' (first | (with_reducible first | refine bJ.bO ?_ | refine bJ.bM ?_ | refine bJ.bL ?_ | refine bJ.dN ?_) | with_reducible refine bJ.eX (by decide) ?_ | with_reducible refine bJ.fC (by decide) ?_ | (with_reducible refine bJ.call (eH (by assumption)) ?_;rintro ⟨_,_⟩ h;dsimp only at h;rcases h with (⟨rfl,_,_⟩ | ⟨rfl,rfl⟩) <;> try dsimp only) | (with_reducible first | refine bJ.ite (fun _=>?_) (fun _=>?_) | refine bJ.cC ?_) | with_reducible refine bJ.bW (by (first | rfl | assumption | omega | (simp [cS,room,c9,eY] at *;omega))) ?_ | (with_reducible first | refine bJ.ret ?_ | refine sE.l ?_ | refine sE.r ?_)))
 ·exact ⟨by assumption,by dsimp only;omega⟩
 ·rename_i x
  simp only[List.length_cons,List.length_nil,aB] at x
  exact ⟨⟨rfl,by dsimp only;omega,by dsimp only;omega⟩,by dsimp only;omega⟩
 ·exact ⟨h,aO _⟩
theorem aH1 {K:Nat} {r:cB} (hK:100<K) (h:Rd r):dG (aOT K r) (fun v=>(v.1=0∧v.2=r)∨(v.1≠0∧Rd v.2∧mu v.2+1≤mu r)):=by
 refine dG.of ?_
 unfold aOT
 (repeat' (first | (with_reducible first | refine bJ.bO ?_ | refine bJ.bM ?_ | refine bJ.bL ?_ | refine bJ.dN ?_) | with_reducible refine bJ.eX (by decide) ?_ | with_reducible refine bJ.fC (by decide) ?_ | (with_reducible refine bJ.call (eH (by assumption)) ?_;rintro ⟨_,_⟩ h;dsimp only at h;rcases h with (⟨rfl,_,_⟩ | ⟨rfl,rfl⟩) <;> try dsimp only) | (with_reducible first | refine bJ.ite (fun _=>?_) (fun _=>?_) | refine bJ.cC ?_) | with_reducible refine bJ.bW (by (first | rfl | assumption | omega | (simp [cS,room,c9,eY] at *;omega))) ?_ | (with_reducible first | refine bJ.ret ?_ | refine sE.l ?_ | refine sE.r ?_)))
 refine bJ.loop (fun t:cB × Int=>t.1=r∧1≤t.2∧t.2≤15) (fun t=>(15 - t.2).toNat) ⟨rfl,by simp,by simp⟩ (by simp;omega) ?_
 rintro ⟨q,t⟩ ⟨rfl,h1,h2⟩
 dsimp only at h h1 h2 ⊢
 (simp (disch:=omega) only[wr,Int.ofNat_eq_natCast])
 (repeat' (first | (with_reducible first | refine bJ.bO ?_ | refine bJ.bM ?_ | refine bJ.bL ?_ | refine bJ.dN ?_) | with_reducible refine bJ.eX (by decide) ?_ | with_reducible refine bJ.fC (by decide) ?_ | (with_reducible refine bJ.call (eH (by assumption)) ?_;rintro ⟨_,_⟩ h;dsimp only at h;rcases h with (⟨rfl,_,_⟩ | ⟨rfl,rfl⟩) <;> try dsimp only) | (with_reducible first | refine bJ.ite (fun _=>?_) (fun _=>?_) | refine bJ.cC ?_) | with_reducible refine bJ.bW (by (first | rfl | assumption | omega | (simp [cS,room,c9,eY] at *;omega))) ?_ | (with_reducible first | refine bJ.ret ?_ | refine sE.l ?_ | refine sE.r ?_)))
 ·exact .inr ⟨by dsimp only;omega,by assumption,by dsimp only;omega⟩
 ·rename_i x
  simp only[List.length_cons,List.length_nil,aB] at x
  exact ⟨⟨rfl,by dsimp only;omega,by dsimp only;omega⟩,by dsimp only;omega⟩
 ·exact .inl ⟨rfl,rfl⟩
theorem aCJ {K:Nat} {r:cB} (hK:100<K) (h:Rd r):dG (aMi K r) (fun v=>(v=true∧0<mu r)∨v=false):=by
 refine dG.of ?_
 unfold aMi
 (repeat' (first | (with_reducible first | refine bJ.bO ?_ | refine bJ.bM ?_ | refine bJ.bL ?_ | refine bJ.dN ?_) | with_reducible refine bJ.eX (by decide) ?_ | with_reducible refine bJ.fC (by decide) ?_ | ((with_reducible first | refine bJ.call (cZ (by assumption)) ?_ | refine bJ.call (cX (by assumption)) ?_ | refine bJ.dB (by decide) (cZ (by assumption)) ?_ | refine bJ.dB (by decide) (cX (by assumption)) ?_);rintro _ (⟨rfl,_⟩ | rfl)) | (with_reducible first | refine bJ.ite (fun _=>?_) (fun _=>?_) | refine bJ.cC ?_) | with_reducible refine bJ.bW (by (first | rfl | assumption | omega | (simp [cS,room,c9,eY] at *;omega))) ?_ | (with_reducible first | refine bJ.ret ?_ | refine sE.l ?_ | refine sE.r ?_)))
 refine bJ.loop (fun t:Int=>0≤t∧t≤9) (fun t=>(9 - t).toNat) ⟨by simp,by simp⟩ (by simp;omega) ?_
 rintro t ⟨h1,h2⟩
 (simp (disch:=omega) only[wr,Int.ofNat_eq_natCast])
 (repeat' (first | (with_reducible first | refine bJ.bO ?_ | refine bJ.bM ?_ | refine bJ.bL ?_ | refine bJ.dN ?_) | with_reducible refine bJ.eX (by decide) ?_ | with_reducible refine bJ.fC (by decide) ?_ | ((with_reducible first | refine bJ.call (cZ (by assumption)) ?_ | refine bJ.call (cX (by assumption)) ?_ | refine bJ.dB (by decide) (cZ (by assumption)) ?_ | refine bJ.dB (by decide) (cX (by assumption)) ?_);rintro _ (⟨rfl,_⟩ | rfl)) | (with_reducible first | refine bJ.ite (fun _=>?_) (fun _=>?_) | refine bJ.cC ?_) | with_reducible refine bJ.bW (by (first | rfl | assumption | omega | (simp [cS,room,c9,eY] at *;omega))) ?_ | (with_reducible first | refine bJ.ret ?_ | refine sE.l ?_ | refine sE.r ?_)))
 ·exact .inl ⟨rfl,by assumption⟩
 ·rename_i x
  simp only[List.length_cons,List.length_nil,aB] at x
  exact ⟨⟨by omega,by omega⟩,by omega⟩
 ·exact .inl ⟨rfl,by assumption⟩
 ·exact .inr rfl
theorem xJ {K:Nat} {r:cB} (hK:100<K) (h:Rd r):dG (aJc K r) (fun v=>(v=true∧0<mu r)∨v=false):=by
 refine dG.of ?_
 unfold aJc
 (repeat' (first | (with_reducible first | refine bJ.bO ?_ | refine bJ.bM ?_ | refine bJ.bL ?_ | refine bJ.dN ?_) | with_reducible refine bJ.eX (by decide) ?_ | with_reducible refine bJ.fC (by decide) ?_ | ((with_reducible first | refine bJ.call (cZ (by assumption)) ?_ | refine bJ.call (cX (by assumption)) ?_ | refine bJ.dB (by decide) (cZ (by assumption)) ?_ | refine bJ.dB (by decide) (cX (by assumption)) ?_);rintro _ (⟨rfl,_⟩ | rfl)) | with_reducible refine bJ.gP (by decide) ?_ | (with_reducible first | refine bJ.ite (fun _=>?_) (fun _=>?_) | refine bJ.cC ?_) | with_reducible refine bJ.bW (by (first | rfl | assumption | omega | (simp [cS,room,c9,eY] at *;omega))) ?_ | (with_reducible first | refine bJ.ret ?_ | refine sE.l ?_ | refine sE.r ?_)))
 ·exact .inl ⟨rfl,by assumption⟩
 ·exact .inl ⟨rfl,by assumption⟩
 refine bJ.loop (fun t:Int=>0≤t∧t≤12) (fun t=>(12 - t).toNat) ⟨by simp,by simp⟩ (by simp;omega) ?_
 rintro t ⟨h1,h2⟩
 (simp (disch:=omega) only[wr,Int.ofNat_eq_natCast])
 (repeat' (first | (with_reducible first | refine bJ.bO ?_ | refine bJ.bM ?_ | refine bJ.bL ?_ | refine bJ.dN ?_) | with_reducible refine bJ.eX (by decide) ?_ | with_reducible refine bJ.fC (by decide) ?_ | ((with_reducible first | refine bJ.call (cZ (by assumption)) ?_ | refine bJ.call (cX (by assumption)) ?_ | refine bJ.dB (by decide) (cZ (by assumption)) ?_ | refine bJ.dB (by decide) (cX (by assumption)) ?_);rintro _ (⟨rfl,_⟩ | rfl)) | with_reducible refine bJ.gP (by decide) ?_ | (with_reducible first | refine bJ.ite (fun _=>?_) (fun _=>?_) | refine bJ.cC ?_) | with_reducible refine bJ.bW (by (first | rfl | assumption | omega | (simp [cS,room,c9,eY] at *;omega))) ?_ | (with_reducible first | refine bJ.ret ?_ | refine sE.l ?_ | refine sE.r ?_)))
 ·exact .inl ⟨rfl,by assumption⟩
 ·rename_i x
  simp only[List.length_cons,List.length_nil,aB] at x
  exact ⟨⟨by omega,by omega⟩,by omega⟩
 ·exact .inr rfl
theorem tV {K:Nat} {r:cB} (hK:100<K) (h:Rd r):dG (aI4 K r) (fun v=>Rd v.2∧mu v.2≤mu r):=by
 refine dG.of ?_
 unfold aI4
 (repeat' (first | (with_reducible first | refine bJ.bM ?_ | refine bJ.bL ?_) | with_reducible refine bJ.eX (by decide) ?_ | with_reducible refine bJ.fC (by decide) ?_ | ((with_reducible first | refine bJ.call (aPT (by omega) (by assumption)) ?_ | refine bJ.call (rB (by assumption)) ?_ | refine bJ.call (tU (by assumption)) ?_ | refine bJ.call (fR (by assumption)) ?_);rintro ⟨_,_⟩ ⟨_,_⟩;try dsimp only at *) | ((with_reducible first | refine bJ.call (cZ (by assumption)) ?_ | refine bJ.dB (by decide) (cZ (by assumption)) ?_);rintro _ (⟨rfl,_⟩ | rfl)) | (with_reducible refine bJ.call (eH (by assumption)) ?_;rintro ⟨_,_⟩ h;dsimp only at h;rcases h with (⟨rfl,_,_⟩ | ⟨rfl,rfl⟩) <;> try dsimp only) | ((with_reducible first | refine bJ.call (eT (by assumption)) ?_ | refine bJ.call (jW (by assumption) (by decide)) ?_);rintro _ h;(try dsimp only at h);obtain ⟨_,_⟩:=h;try dsimp only) | with_reducible refine bJ.gP (by decide) ?_ | (with_reducible first | refine bJ.ite (fun _=>?_) (fun _=>?_) | refine bJ.ret ?_ | refine sE.l ?_ | refine sE.r ?_)))
 (all_goals first | trivial | (refine ⟨by assumption,?_⟩;dsimp only;omega) | (refine ⟨⟨by assumption,?_⟩,?_⟩ <;> dsimp only <;> omega) | (refine ⟨⟨by assumption,?_,?_⟩,?_⟩ <;> dsimp only <;> omega))
theorem oN {K:Nat} {r:cB} (hK:100<K) (h:Rd r):dG (aMg K r) (fun v=>Rd v.2∧mu v.2≤mu r):=by
 refine dG.of ?_
 unfold aMg
 (repeat' (first | with_reducible refine bJ.eX (by decide) ?_ | with_reducible refine bJ.fC (by decide) ?_ | (with_reducible refine bJ.call (tV (by omega) (by assumption)) ?_;rintro ⟨_,_⟩ ⟨_,_⟩;try dsimp only at *) | (with_reducible refine bJ.call (eH (by assumption)) ?_;rintro ⟨_,_⟩ h;dsimp only at h;rcases h with (⟨rfl,_,_⟩ | ⟨rfl,rfl⟩) <;> try dsimp only) | (with_reducible first | refine bJ.ite (fun _=>?_) (fun _=>?_) | refine bJ.ret ?_ | refine sE.l ?_ | refine sE.r ?_)))
 (all_goals first | trivial | (refine ⟨by assumption,?_⟩;dsimp only;omega) | (refine ⟨⟨by assumption,?_⟩,?_⟩ <;> dsimp only <;> omega) | (refine ⟨⟨by assumption,?_,?_⟩,?_⟩ <;> dsimp only <;> omega))
theorem aPU {K:Nat} {r:cB} (h:Rd r):dG (aJb K r) (fun v=>Rd v.2∧mu v.2≤mu r - 1):=by
 refine dG.of ?_
 unfold aJb
 (repeat' (first | (with_reducible refine bJ.call (fR (by assumption)) ?_;rintro ⟨_,_⟩ ⟨_,_⟩;try dsimp only at *) | (with_reducible refine bJ.call (eT (by assumption)) ?_;rintro _ h;(try dsimp only at h);obtain ⟨_,_⟩:=h;try dsimp only) | (with_reducible first | refine bJ.ret ?_ | refine sE.l ?_ | refine sE.r ?_)))
 (all_goals first | trivial | (refine ⟨by assumption,?_⟩;dsimp only;omega) | (refine ⟨⟨by assumption,?_⟩,?_⟩ <;> dsimp only <;> omega) | (refine ⟨⟨by assumption,?_,?_⟩,?_⟩ <;> dsimp only <;> omega))
end Go.Proofs.YtdbfbedholdjaaaGreat

namespace Go.Proofs.YtdbfbedholdjaaaGreat
open Go Go.Dl
variable [eC]
set_option maxRecDepth 100000
set_option maxHeartbeats 8000000
theorem cM.aPV (x:cM):x.sz=1+cM.jF x.gD:=by cases x;rw[cM.sz]
theorem cJ.aPV (x:cJ):x.sz=1+cM.jF x.cT+qY x.eP+cJ.lS x.bX:=by cases x;rw[cJ.sz]
theorem Tq {p:Prop} (h:p:=by first | trivial | (refine ⟨by assumption,?_⟩;(((try simp only[aE,List.length_cons,List.length_nil,cM.sz,cM.jF,oF,cJ.sz,cJ.jF,cJ.lS,wZ,sH,qY,tT,iI.sz,zH,xI,jX.sz,dsz,uR]);(try dsimp only);omega))) | (refine ⟨⟨by assumption,?_⟩,?_⟩ <;> (((try simp only[aE,List.length_cons,List.length_nil,cM.sz,cM.jF,oF,cJ.sz,cJ.jF,cJ.lS,wZ,sH,qY,tT,iI.sz,zH,xI,jX.sz,dsz,uR]);(try dsimp only);omega))) | (refine ⟨⟨by assumption,?_,?_⟩,?_⟩ <;> (((try simp only[aE,List.length_cons,List.length_nil,cM.sz,cM.jF,oF,cJ.sz,cJ.jF,cJ.lS,wZ,sH,qY,tT,iI.sz,zH,xI,jX.sz,dsz,uR]);(try dsimp only);omega))) | (refine ⟨by assumption,?_⟩;dsimp only;simp only[cM.aPV,cJ.aPV] at *;omega) | (exfalso;simp only[beq_iff_eq] at *;omega)):p:=h
theorem oO {K:Nat} {r:cB} (hK:100000<K) (h:Rd r):dG (aMf K r) (fun v=>Rd v.2∧v.1.length+mu v.2≤mu r):=by
 have hm:=nP h
 refine dG.of ?_
 unfold aMf
 (repeat' (first | (with_reducible first | refine bJ.bM ?_ | refine bJ.bL ?_ | refine bJ.dN ?_) | with_reducible refine bJ.eX (by decide) ?_ | with_reducible refine bJ.fC (by decide) ?_ | ((with_reducible first | refine bJ.call (tV (by omega) (by assumption)) ?_ | refine bJ.call (fR (by assumption)) ?_);rintro ⟨_,_⟩ ⟨_,_⟩;try dsimp only at *) | ((with_reducible first | refine bJ.call (cZ (by assumption)) ?_ | refine bJ.dB (by decide) (cZ (by assumption)) ?_);rintro _ (⟨rfl,_⟩ | rfl)) | (with_reducible refine bJ.call (eH (by assumption)) ?_;rintro ⟨_,_⟩ h;dsimp only at h;rcases h with (⟨rfl,_,_⟩ | ⟨rfl,rfl⟩) <;> try dsimp only) | ((with_reducible first | refine bJ.call (eT (by assumption)) ?_ | refine bJ.call (e9 (by assumption)) ?_);rintro _ h;(try dsimp only at h);obtain ⟨_,_⟩:=h;try dsimp only) | with_reducible refine bJ.gP (by decide) ?_ | (with_reducible first | refine bJ.ite (fun _=>?_) (fun _=>?_) | refine bJ.cC ?_) | with_reducible refine bJ.bW (by (first | rfl | assumption | omega | (simp [cS,room,c9,eY] at *;omega))) ?_ | (with_reducible first | refine bJ.ret ?_ | refine sE.l ?_ | refine sE.r ?_)))
 ·exact ⟨by assumption,by simp;omega⟩
 ·rename_i r1 h1 h2
  refine bJ.loop (fun t:cB × List fG=>Rd t.1∧t.2.length+mu t.1≤mu r1) (fun t=>mu t.1) ⟨h1,by simp⟩ (by simp;omega) ?_
  rintro ⟨q,l⟩ ⟨g1,g2⟩
  dsimp only at g1 g2 ⊢
  refine bJ.ite (fun e=>?_) (fun e=>?_)
  ·have hp:=zB (by simpa using e)
   (repeat' (first | (with_reducible first | refine bJ.bM ?_ | refine bJ.bL ?_ | refine bJ.dN ?_) | with_reducible refine bJ.eX (by decide) ?_ | with_reducible refine bJ.fC (by decide) ?_ | ((with_reducible first | refine bJ.call (tV (by omega) (by assumption)) ?_ | refine bJ.call (fR (by assumption)) ?_);rintro ⟨_,_⟩ ⟨_,_⟩;try dsimp only at *) | ((with_reducible first | refine bJ.call (cZ (by assumption)) ?_ | refine bJ.dB (by decide) (cZ (by assumption)) ?_);rintro _ (⟨rfl,_⟩ | rfl)) | (with_reducible refine bJ.call (eH (by assumption)) ?_;rintro ⟨_,_⟩ h;dsimp only at h;rcases h with (⟨rfl,_,_⟩ | ⟨rfl,rfl⟩) <;> try dsimp only) | ((with_reducible first | refine bJ.call (eT (by assumption)) ?_ | refine bJ.call (e9 (by assumption)) ?_);rintro _ h;(try dsimp only at h);obtain ⟨_,_⟩:=h;try dsimp only) | with_reducible refine bJ.gP (by decide) ?_ | (with_reducible first | refine bJ.ite (fun _=>?_) (fun _=>?_) | refine bJ.cC ?_) | with_reducible refine bJ.bW (by (first | rfl | assumption | omega | (simp [cS,room,c9,eY] at *;omega))) ?_ | (with_reducible first | refine bJ.ret ?_ | refine sE.l ?_ | refine sE.r ?_)))
   (all_goals exact Tq)
  ·(repeat' (first | (with_reducible first | refine bJ.bM ?_ | refine bJ.bL ?_ | refine bJ.dN ?_) | with_reducible refine bJ.eX (by decide) ?_ | with_reducible refine bJ.fC (by decide) ?_ | ((with_reducible first | refine bJ.call (tV (by omega) (by assumption)) ?_ | refine bJ.call (fR (by assumption)) ?_);rintro ⟨_,_⟩ ⟨_,_⟩;try dsimp only at *) | ((with_reducible first | refine bJ.call (cZ (by assumption)) ?_ | refine bJ.dB (by decide) (cZ (by assumption)) ?_);rintro _ (⟨rfl,_⟩ | rfl)) | (with_reducible refine bJ.call (eH (by assumption)) ?_;rintro ⟨_,_⟩ h;dsimp only at h;rcases h with (⟨rfl,_,_⟩ | ⟨rfl,rfl⟩) <;> try dsimp only) | ((with_reducible first | refine bJ.call (eT (by assumption)) ?_ | refine bJ.call (e9 (by assumption)) ?_);rintro _ h;(try dsimp only at h);obtain ⟨_,_⟩:=h;try dsimp only) | with_reducible refine bJ.gP (by decide) ?_ | (with_reducible first | refine bJ.ite (fun _=>?_) (fun _=>?_) | refine bJ.cC ?_) | with_reducible refine bJ.bW (by (first | rfl | assumption | omega | (simp [cS,room,c9,eY] at *;omega))) ?_ | (with_reducible first | refine bJ.ret ?_ | refine sE.l ?_ | refine sE.r ?_)))
   (all_goals exact Tq)
theorem oP {K:Nat} {r:cB} (hK:100000<K) (h:Rd r):dG (aI8 K r) (fun v=>Rd v.2∧v.1.length+mu v.2≤mu r):=by
 have hm:=nP h
 refine dG.of ?_
 unfold aI8
 (repeat' (first | (with_reducible first | refine bJ.bM ?_ | refine bJ.bL ?_ | refine bJ.dN ?_) | with_reducible refine bJ.eX (by decide) ?_ | with_reducible refine bJ.fC (by decide) ?_ | ((with_reducible first | refine bJ.call (tV (by omega) (by assumption)) ?_ | refine bJ.call (rB (by assumption)) ?_ | refine bJ.call (tU (by assumption)) ?_ | refine bJ.call (fR (by assumption)) ?_);rintro ⟨_,_⟩ ⟨_,_⟩;try dsimp only at *) | ((with_reducible first | refine bJ.call (cX (by assumption)) ?_ | refine bJ.dB (by decide) (cX (by assumption)) ?_);rintro _ (⟨rfl,_⟩ | rfl)) | (with_reducible refine bJ.call (eH (by assumption)) ?_;rintro ⟨_,_⟩ h;dsimp only at h;rcases h with (⟨rfl,_,_⟩ | ⟨rfl,rfl⟩) <;> try dsimp only) | ((with_reducible first | refine bJ.call (eT (by assumption)) ?_ | refine bJ.call (e9 (by assumption)) ?_);rintro _ h;(try dsimp only at h);obtain ⟨_,_⟩:=h;try dsimp only) | with_reducible refine bJ.gP (by decide) ?_ | (with_reducible first | refine bJ.ite (fun _=>?_) (fun _=>?_) | refine bJ.cC ?_) | with_reducible refine bJ.bW (by (first | rfl | assumption | omega | (simp [cS,room,c9,eY] at *;omega))) ?_ | (with_reducible first | refine bJ.ret ?_ | refine sE.l ?_ | refine sE.r ?_)))
 refine bJ.loop (fun t:cB × List fG=>Rd t.1∧t.2.length+mu t.1≤mu r) (fun t=>mu t.1) ⟨h,by simp⟩ (by simp;omega) ?_
 rintro ⟨q,l⟩ ⟨g1,g2⟩
 dsimp only at g1 g2 ⊢
 (repeat' (first | (with_reducible first | refine bJ.bM ?_ | refine bJ.bL ?_ | refine bJ.dN ?_) | with_reducible refine bJ.eX (by decide) ?_ | with_reducible refine bJ.fC (by decide) ?_ | ((with_reducible first | refine bJ.call (tV (by omega) (by assumption)) ?_ | refine bJ.call (rB (by assumption)) ?_ | refine bJ.call (tU (by assumption)) ?_ | refine bJ.call (fR (by assumption)) ?_);rintro ⟨_,_⟩ ⟨_,_⟩;try dsimp only at *) | ((with_reducible first | refine bJ.call (cX (by assumption)) ?_ | refine bJ.dB (by decide) (cX (by assumption)) ?_);rintro _ (⟨rfl,_⟩ | rfl)) | (with_reducible refine bJ.call (eH (by assumption)) ?_;rintro ⟨_,_⟩ h;dsimp only at h;rcases h with (⟨rfl,_,_⟩ | ⟨rfl,rfl⟩) <;> try dsimp only) | ((with_reducible first | refine bJ.call (eT (by assumption)) ?_ | refine bJ.call (e9 (by assumption)) ?_);rintro _ h;(try dsimp only at h);obtain ⟨_,_⟩:=h;try dsimp only) | with_reducible refine bJ.gP (by decide) ?_ | (with_reducible first | refine bJ.ite (fun _=>?_) (fun _=>?_) | refine bJ.cC ?_) | with_reducible refine bJ.bW (by (first | rfl | assumption | omega | (simp [cS,room,c9,eY] at *;omega))) ?_ | (with_reducible first | refine bJ.ret ?_ | refine sE.l ?_ | refine sE.r ?_)))
 (all_goals exact Tq)
theorem aPW {K:Nat} {r:cB} (hK:100000<K) (h:Rd r):dG (aOS K r) (fun v=>Rd v.2∧(v.1.sz+4 * mu v.2≤4 * mu r+1∧v.1.bP=1)):=by
 have hm:=nP h
 refine dG.of ?_
 unfold aOS
 (repeat' (first | (with_reducible first | refine bJ.bM ?_ | refine bJ.bL ?_ | refine bJ.dN ?_) | with_reducible refine bJ.eX (by decide) ?_ | with_reducible refine bJ.fC (by decide) ?_ | ((with_reducible first | refine bJ.call (oO (by omega) (by assumption)) ?_ | refine bJ.call (oN (by omega) (by assumption)) ?_ | refine bJ.call (fR (by assumption)) ?_);rintro ⟨_,_⟩ ⟨_,_⟩;try dsimp only at *) | ((with_reducible first | refine bJ.call (cX (by assumption)) ?_ | refine bJ.dB (by decide) (cX (by assumption)) ?_);rintro _ (⟨rfl,_⟩ | rfl)) | ((with_reducible first | refine bJ.call (eT (by assumption)) ?_ | refine bJ.call (e9 (by assumption)) ?_);rintro _ h;(try dsimp only at h);obtain ⟨_,_⟩:=h;try dsimp only) | with_reducible refine bJ.gP (by decide) ?_ | (with_reducible first | refine bJ.ite (fun _=>?_) (fun _=>?_) | refine bJ.cC ?_) | with_reducible refine bJ.bW (by (first | rfl | assumption | omega | (simp [cS,room,c9,eY] at *;omega))) ?_ | (with_reducible first | refine bJ.ret ?_ | refine sE.l ?_ | refine sE.r ?_)))
 rename_i x r1 h1 h2 r2 h3 h4
 refine bJ.loop (fun t:cB × List iI=>Rd t.1∧t.2.length≤zH t.2∧zH t.2+4 * mu t.1≤4 * mu r2) (fun t=>mu t.1) ⟨h3,by simp [zH],by simp [zH]⟩ (by simp;omega) ?_
 rintro ⟨q,l⟩ ⟨g1,g2,g3⟩
 dsimp only at g1 g2 g3 ⊢
 (repeat' (first | (with_reducible first | refine bJ.bM ?_ | refine bJ.bL ?_ | refine bJ.dN ?_) | with_reducible refine bJ.eX (by decide) ?_ | with_reducible refine bJ.fC (by decide) ?_ | ((with_reducible first | refine bJ.call (oO (by omega) (by assumption)) ?_ | refine bJ.call (oN (by omega) (by assumption)) ?_ | refine bJ.call (fR (by assumption)) ?_);rintro ⟨_,_⟩ ⟨_,_⟩;try dsimp only at *) | ((with_reducible first | refine bJ.call (cX (by assumption)) ?_ | refine bJ.dB (by decide) (cX (by assumption)) ?_);rintro _ (⟨rfl,_⟩ | rfl)) | ((with_reducible first | refine bJ.call (eT (by assumption)) ?_ | refine bJ.call (e9 (by assumption)) ?_);rintro _ h;(try dsimp only at h);obtain ⟨_,_⟩:=h;try dsimp only) | with_reducible refine bJ.gP (by decide) ?_ | (with_reducible first | refine bJ.ite (fun _=>?_) (fun _=>?_) | refine bJ.cC ?_) | with_reducible refine bJ.bW (by (first | rfl | assumption | omega | (simp [cS,room,c9,eY] at *;omega))) ?_ | (with_reducible first | refine bJ.ret ?_ | refine sE.l ?_ | refine sE.r ?_)))
 all_goals try (refine ⟨by assumption,?_,rfl⟩;(((try simp only[aE,List.length_cons,List.length_nil,cM.sz,cM.jF,oF,cJ.sz,cJ.jF,cJ.lS,wZ,sH,qY,tT,iI.sz,zH,xI,jX.sz,dsz,uR]);(try dsimp only);omega)))
 (all_goals exact Tq)
abbrev PE (r:cB) (v:cM × cB):Prop:=Rd v.2∧1≤v.1.sz∧v.1.sz+2 * mu v.2≤2 * mu r+1
theorem aJD:∀ k:Nat,(∀ (r:cB) (d:Int),Rd r→3 * mu r+100001<k→dG (qT k r d) (PE r))∧(∀ (r:cB) (e:cM) (d:Int),Rd r→3 * mu r+100002<k→dG (aBn k r e d) (PE r)) ∧
 (∀ (r:cB) (d:Int),Rd r→3 * mu r+100000<k→dG (aF7 k r d) (PE r))
 | 0=>⟨fun _ _ _ h=>by omega,fun _ _ _ _ h=>by omega,fun _ _ _ h=>by omega⟩
 | k+1=>by
   obtain ⟨ihE,ihI,ihO⟩:=aJD k
   refine ⟨fun r d h hk=>?_,fun r e d h hk=>?_,fun r d h hk=>?_⟩
   ·have hm:=nP h
    refine dG.of ?_
    unfold qT
    by_cases hd:d > 6
    ·simp only[hd,decide_true,Bool.true_and]
     (repeat' (first | with_reducible refine bJ.bM ?_ | with_reducible refine bJ.eX (by decide) ?_ | with_reducible refine bJ.fC (by decide) ?_ | (with_reducible refine bJ.call (ihO _ _ (by assumption) (by omega)) ?_;rintro ⟨_,_⟩ ⟨_,_⟩;try dsimp only at *) | (with_reducible refine bJ.dB (by decide) (xJ (by omega) (by assumption)) ?_;rintro _ (⟨rfl,_⟩ | rfl)) | (with_reducible refine bJ.call (aH1 (by omega) (by assumption)) ?_;rintro ⟨_,_⟩ h;dsimp only at h;rcases h with (⟨_,rfl⟩ | ⟨_,_,_⟩) <;> try dsimp only) | (with_reducible refine bJ.call (eH (by assumption)) ?_;rintro ⟨_,_⟩ h;dsimp only at h;rcases h with (⟨rfl,_,_⟩ | ⟨rfl,rfl⟩) <;> try dsimp only) | (with_reducible refine bJ.call (jW (by assumption) (by decide)) ?_;rintro _ h;(try dsimp only at h);obtain ⟨_,_⟩:=h;try dsimp only) | with_reducible refine bJ.gP (by decide) ?_ | (with_reducible first | refine bJ.ite (fun _=>?_) (fun _=>?_) | refine bJ.ret ?_ | refine sE.l ?_ | refine sE.r ?_)))
     (all_goals exact Tq)
    ·simp only[hd,decide_false,Bool.false_and]
     (repeat' (first | with_reducible refine bJ.bM ?_ | with_reducible refine bJ.eX (by decide) ?_ | with_reducible refine bJ.fC (by decide) ?_ | (with_reducible refine bJ.call (ihO _ _ (by assumption) (by omega)) ?_;rintro ⟨_,_⟩ ⟨_,_⟩;try dsimp only at *) | (with_reducible refine bJ.dB (by decide) (xJ (by omega) (by assumption)) ?_;rintro _ (⟨rfl,_⟩ | rfl)) | (with_reducible refine bJ.call (aH1 (by omega) (by assumption)) ?_;rintro ⟨_,_⟩ h;dsimp only at h;rcases h with (⟨_,rfl⟩ | ⟨_,_,_⟩) <;> try dsimp only) | (with_reducible refine bJ.call (eH (by assumption)) ?_;rintro ⟨_,_⟩ h;dsimp only at h;rcases h with (⟨rfl,_,_⟩ | ⟨rfl,rfl⟩) <;> try dsimp only) | (with_reducible refine bJ.call (jW (by assumption) (by decide)) ?_;rintro _ h;(try dsimp only at h);obtain ⟨_,_⟩:=h;try dsimp only) | with_reducible refine bJ.gP (by decide) ?_ | (with_reducible first | refine bJ.ite (fun _=>?_) (fun _=>?_) | refine bJ.ret ?_ | refine sE.l ?_ | refine sE.r ?_)))
     (all_goals exact Tq)
   ·have hm:=nP h
    refine dG.of ?_
    unfold aBn
    (repeat' (first | (with_reducible first | refine bJ.bM ?_ | refine bJ.bL ?_ | refine bJ.dN ?_) | with_reducible refine bJ.eX (by decide) ?_ | with_reducible refine bJ.fC (by decide) ?_ | ((with_reducible first | refine bJ.call (ihE _ _ (by assumption) (by omega)) ?_ | refine bJ.call (fR (by assumption)) ?_);rintro ⟨_,_⟩ ⟨_,_⟩;try dsimp only at *) | (with_reducible refine bJ.dB (by decide) (xJ (by omega) (by assumption)) ?_;rintro _ (⟨rfl,_⟩ | rfl)) | (with_reducible refine bJ.call (eH (by assumption)) ?_;rintro ⟨_,_⟩ h;dsimp only at h;rcases h with (⟨rfl,_,_⟩ | ⟨rfl,rfl⟩) <;> try dsimp only) | ((with_reducible first | refine bJ.call (eT (by assumption)) ?_ | refine bJ.call (e9 (by assumption)) ?_);rintro _ h;(try dsimp only at h);obtain ⟨_,_⟩:=h;try dsimp only) | with_reducible refine bJ.gP (by decide) ?_ | (with_reducible first | refine bJ.ite (fun _=>?_) (fun _=>?_) | refine bJ.cC ?_) | with_reducible refine bJ.bW (by (first | rfl | assumption | omega | (simp [cS,room,c9,eY] at *;omega))) ?_ | (with_reducible first | refine bJ.ret ?_ | refine sE.l ?_ | refine sE.r ?_)))
    ·(all_goals exact Tq)
    ·rename_i x r2 h3 h4 r3 h5 h6
     refine bJ.loop (fun t:cB × List cM=>Rd t.1∧t.2.length≤cM.jF t.2∧cM.jF t.2+2 * mu t.1≤2 * mu r3) (fun t=>mu t.1) ⟨h5,by simp,by simp [cM.jF]⟩ (by simp;omega) ?_
     rintro ⟨q,l⟩ ⟨g1,g2,g3⟩
     dsimp only at g1 g2 g3 ⊢
     refine bJ.ite (fun e=>?_) (fun e=>?_)
     ·have hp:=zB (by simpa using e)
      (repeat' (first | (with_reducible first | refine bJ.bM ?_ | refine bJ.bL ?_ | refine bJ.dN ?_) | with_reducible refine bJ.eX (by decide) ?_ | with_reducible refine bJ.fC (by decide) ?_ | ((with_reducible first | refine bJ.call (ihE _ _ (by assumption) (by omega)) ?_ | refine bJ.call (fR (by assumption)) ?_);rintro ⟨_,_⟩ ⟨_,_⟩;try dsimp only at *) | (with_reducible refine bJ.dB (by decide) (xJ (by omega) (by assumption)) ?_;rintro _ (⟨rfl,_⟩ | rfl)) | (with_reducible refine bJ.call (eH (by assumption)) ?_;rintro ⟨_,_⟩ h;dsimp only at h;rcases h with (⟨rfl,_,_⟩ | ⟨rfl,rfl⟩) <;> try dsimp only) | ((with_reducible first | refine bJ.call (eT (by assumption)) ?_ | refine bJ.call (e9 (by assumption)) ?_);rintro _ h;(try dsimp only at h);obtain ⟨_,_⟩:=h;try dsimp only) | with_reducible refine bJ.gP (by decide) ?_ | (with_reducible first | refine bJ.ite (fun _=>?_) (fun _=>?_) | refine bJ.cC ?_) | with_reducible refine bJ.bW (by (first | rfl | assumption | omega | (simp [cS,room,c9,eY] at *;omega))) ?_ | (with_reducible first | refine bJ.ret ?_ | refine sE.l ?_ | refine sE.r ?_)))
      (all_goals exact Tq)
     ·(repeat' (first | (with_reducible first | refine bJ.bM ?_ | refine bJ.bL ?_ | refine bJ.dN ?_) | with_reducible refine bJ.eX (by decide) ?_ | with_reducible refine bJ.fC (by decide) ?_ | ((with_reducible first | refine bJ.call (ihE _ _ (by assumption) (by omega)) ?_ | refine bJ.call (fR (by assumption)) ?_);rintro ⟨_,_⟩ ⟨_,_⟩;try dsimp only at *) | (with_reducible refine bJ.dB (by decide) (xJ (by omega) (by assumption)) ?_;rintro _ (⟨rfl,_⟩ | rfl)) | (with_reducible refine bJ.call (eH (by assumption)) ?_;rintro ⟨_,_⟩ h;dsimp only at h;rcases h with (⟨rfl,_,_⟩ | ⟨rfl,rfl⟩) <;> try dsimp only) | ((with_reducible first | refine bJ.call (eT (by assumption)) ?_ | refine bJ.call (e9 (by assumption)) ?_);rintro _ h;(try dsimp only at h);obtain ⟨_,_⟩:=h;try dsimp only) | with_reducible refine bJ.gP (by decide) ?_ | (with_reducible first | refine bJ.ite (fun _=>?_) (fun _=>?_) | refine bJ.cC ?_) | with_reducible refine bJ.bW (by (first | rfl | assumption | omega | (simp [cS,room,c9,eY] at *;omega))) ?_ | (with_reducible first | refine bJ.ret ?_ | refine sE.l ?_ | refine sE.r ?_)))
      (all_goals exact Tq)
   ·have hm:=nP h
    refine dG.of ?_
    unfold aF7
    (repeat' (first | (with_reducible first | refine bJ.bM ?_ | refine bJ.bL ?_) | with_reducible refine bJ.eX (by decide) ?_ | with_reducible refine bJ.fC (by decide) ?_ | ((with_reducible first | refine bJ.call (ihI _ _ _ (by assumption) (by omega)) ?_ | refine bJ.call (ihE _ _ (by assumption) (by omega)) ?_ | refine bJ.call (aPU (by assumption)) ?_ | refine bJ.call (tU (by assumption)) ?_ | refine bJ.call (fR (by assumption)) ?_);rintro ⟨_,_⟩ ⟨_,_⟩;try dsimp only at *) | ((with_reducible first | refine bJ.call (cZ (by assumption)) ?_ | refine bJ.call (cX (by assumption)) ?_ | refine bJ.dB (by decide) (cZ (by assumption)) ?_ | refine bJ.dB (by decide) (cX (by assumption)) ?_);rintro _ (⟨rfl,_⟩ | rfl)) | (with_reducible refine bJ.call (eH (by assumption)) ?_;rintro ⟨_,_⟩ h;dsimp only at h;rcases h with (⟨rfl,_,_⟩ | ⟨rfl,rfl⟩) <;> try dsimp only) | ((with_reducible first | refine bJ.call (eT (by assumption)) ?_ | refine bJ.call (jW (by assumption) (by decide)) ?_);rintro _ h;(try dsimp only at h);obtain ⟨_,_⟩:=h;try dsimp only) | with_reducible refine bJ.gP (by decide) ?_ | (with_reducible first | refine bJ.ite (fun _=>?_) (fun _=>?_) | refine bJ.ret ?_ | refine sE.l ?_ | refine sE.r ?_)))
    (all_goals exact Tq)
theorem rC {K:Nat} {r:cB} {d:Int} (hK:200000<K) (h:Rd r):dG (qT K r d) (PE r):=(aJD K).1 r d h (by have:=nP h;omega)
theorem aH2 {K:Nat} {r:cB} {e:cM} {d:Int} (hK:200000<K) (h:Rd r):dG (aBn K r e d) (PE r):=(aJD K).2.1 r e d h (by have:=nP h;omega)
theorem aPX {K:Nat} {r:cB} (hK:200000<K) (h:Rd r):dG (aOV K r) (fun v=>Rd v.2∧v.1.sz+4 * mu v.2≤4 * (mu r - 1)+4):=by
 have hm:=nP h
 refine dG.of ?_
 unfold aOV
 (repeat' (first | (with_reducible first | refine bJ.bM ?_ | refine bJ.bL ?_) | with_reducible refine bJ.eX (by decide) ?_ | with_reducible refine bJ.fC (by decide) ?_ | ((with_reducible first | refine bJ.call (aH2 (by omega) (by assumption)) ?_ | refine bJ.call (rC (by omega) (by assumption)) ?_ | refine bJ.call (fR (by assumption)) ?_);rintro ⟨_,_⟩ ⟨_,_⟩;try dsimp only at *) | ((with_reducible first | refine bJ.call (cX (by assumption)) ?_ | refine bJ.dB (by decide) (cX (by assumption)) ?_);rintro _ (⟨rfl,_⟩ | rfl)) | (with_reducible refine bJ.call (eH (by assumption)) ?_;rintro ⟨_,_⟩ h;dsimp only at h;rcases h with (⟨rfl,_,_⟩ | ⟨rfl,rfl⟩) <;> try dsimp only) | ((with_reducible first | refine bJ.call (eT (by assumption)) ?_ | refine bJ.call (jW (by assumption) (by decide)) ?_);rintro _ h;(try dsimp only at h);obtain ⟨_,_⟩:=h;try dsimp only) | with_reducible refine bJ.gP (by decide) ?_ | (with_reducible first | refine bJ.ite (fun _=>?_) (fun _=>?_) | refine bJ.ret ?_ | refine sE.l ?_ | refine sE.r ?_)))
 (all_goals exact Tq)
end Go.Proofs.YtdbfbedholdjaaaGreat
