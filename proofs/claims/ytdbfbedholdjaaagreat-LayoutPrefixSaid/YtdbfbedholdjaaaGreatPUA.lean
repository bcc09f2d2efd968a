/- No conditions. -/
import Derived.Test.YtdbfbedholdjaaaGreatPTy
import Derived.Test.YtdbfbedholdjaaaGreatPDC
import Derived.Test.YtdbfbedholdjaaaGreatPLx
import Derived.Test.YtdbfbedholdjaaaGreatPLp
set_option linter.unusedVariables false
set_option linter.unusedSimpArgs false
set_option linter.unusedSectionVars false
namespace Go.Proofs.YtdbfbedholdjaaaGreat
open Go Go.Dl
variable [dW]
set_option maxRecDepth 100000
def bI {α:Type} (m:Option α) (Q:α→Prop):Prop:=∃ z,m=some z∧Q z
def sE {A T:Type} (p:A→Prop) (q:T→Prop):A ⊕ T→Prop
 | .inl a=>p a
 | .inr t=>q t
def dA {R:Type} (m:Option (R ⊕ R)) (Q:R→Prop):Prop:=∃ v,bT m=some v∧Q v
section
variable {A T U R X Y:Type}
theorem sE.l {p:A→Prop} {q:T→Prop} {a:A} (h:p a):sE p q (.inl a):=h
theorem sE.r {p:A→Prop} {q:T→Prop} {t:T} (h:q t):sE p q (.inr t):=h
theorem bI.ret {α:Type} {Q:α→Prop} {z:α} (h:Q z):bI (some z) Q:=⟨z,rfl,h⟩
theorem bI.aAK {α:Type} {m:Option α} {Q Q':α→Prop} (h:bI m Q) (hq:∀ z,Q z→Q' z):bI m Q':=by
 obtain ⟨z,h1,h2⟩:=h;exact ⟨z,h1,hq z h2⟩
theorem dA.aAK {m:Option (R ⊕ R)} {Q Q':R→Prop} (h:dA m Q) (hq:∀ z,Q z→Q' z):dA m Q':=by
 obtain ⟨z,h1,h2⟩:=h;exact ⟨z,h1,hq z h2⟩
theorem bI.bN {α:Type} {v:X} {f:X→Option α} {Q:α→Prop} (h:bI (f v) Q):bI (bN v f) Q:=h
theorem bI.ite {α:Type} {c:Prop} [Decidable c] {a b:Option α} {Q:α→Prop} (h1:c→bI a Q) (h2:¬ c→bI b Q):bI (if c then a else b) Q:=by
 split
 ·exact h1 ‹_›
 ·exact h2 ‹_›
theorem bI.eR {α:Type} {c:Prop} [Decidable c] {a b:Option α} {Q:α→Prop} (h:c) (h1:bI a Q):bI (if c then a else b) Q:=by rw[aH h];exact h1
theorem bI.eQ {α:Type} {c:Prop} [Decidable c] {a b:Option α} {Q:α→Prop} (h:¬ c) (h1:bI b Q):bI (if c then a else b) Q:=by rw[aG h];exact h1
theorem bI.cD {α:Type} {m:Option α} {Q:α→Prop} (h:bI m Q):bI (bW [] m) Q:=h
theorem bI.bW {α:Type} {v:Bool} {vs:List Bool} {m:Option α} {Q:α→Prop} (hv:v=true) (h:bI (bW vs m) Q):bI (bW (v::vs) m) Q:=by
 unfold Go.Dl.bW;rw[aH hv];exact h
theorem bI.bL {m:Option (A ⊕ T)} {f:T→Option (A ⊕ U)} {p:A→Prop} {q:U→Prop} (h:bI m (sE p (fun t=>bI (f t) (sE p q)))):bI (bL m f) (sE p q):=by
 obtain ⟨z,rfl,h⟩:=h
 match z,h with
 | .inl a,h=>exact ⟨_,rfl,h⟩
 | .inr t,h=>exact h
theorem bI.bJ {m:Option ((T ⊕ A) ⊕ T)} {p:A→Prop} {q:T→Prop} (h:bI m (sE (sE q p) q)):bI (bJ m) (sE p q):=by
 obtain ⟨z,rfl,h⟩:=h
 match z,h with
 | .inl (.inl t),h=>exact ⟨_,rfl,h⟩
 | .inl (.inr a),h=>exact ⟨_,rfl,h⟩
 | .inr t,h=>exact ⟨_,rfl,h⟩
theorem bI.dK {m:Option A} {p:A→Prop} {q:T→Prop} (h:bI m p):bI (m.map (Sum.inl:A→A ⊕ T)) (sE p q):=by
 obtain ⟨z,rfl,h⟩:=h;exact ⟨_,rfl,h⟩
theorem bI.cP {m:Option (A ⊕ T)} {f:T→Option (A ⊕ U)} {p:A→Prop} {q:U→Prop} (I:T→Prop) (h:bI m (sE p I)) (hf:∀ t,I t→bI (f t) (sE p q)):bI (Go.Dl.bL m f) (sE p q):=by
 refine bI.bL (h.aAK ?_)
 rintro (a | t) h
 ·exact h
 ·exact hf t h
theorem bI.dS {m:Option (A ⊕ T)} {f:T→Option (A ⊕ U)} {p:A→Prop} {q:U→Prop} (h:bI m (sE p (fun _=>True))) (hf:∀ t,bI (f t) (sE p q)):bI (Go.Dl.bL m f) (sE p q):=by
 refine bI.bL (h.aAK ?_)
 rintro (a | t) h
 ·exact h
 ·exact hf t
theorem bI.call {α:Type} {m:Option (R ⊕ R)} {f:R→Option α} {Q:α→Prop} {P:R→Prop} (h:dA m P) (hf:∀ v,P v→bI (f v) Q):bI ((bT m).bind f) Q:=by
 obtain ⟨v,h1,h2⟩:=h
 rw[h1];exact hf v h2
theorem bI.cG {α:Type} {b:Bool} {d:R} {m:Option (R ⊕ R)} {f:R→Option α} {Q:α→Prop} {P:R→Prop} (h:b=true→dA m P) (hf:∀ v,(b=true→P v)→bI (f v) Q):bI ((cH b (bT m) d).bind f) Q:=by
 unfold cH
 by_cases hb:b=true
 ·rw[aH hb];exact bI.call (h hb) (fun v hv=>hf v fun _=>hv)
 ·rw[aG hb];exact hf d (fun h=>absurd h hb)
theorem dA.of {m:Option (R ⊕ R)} {Q:R→Prop} (h:bI m (sE Q Q)):dA m Q:=by
 obtain ⟨z,rfl,h⟩:=h
 match z,h with
 | .inl a,h=>exact ⟨_,rfl,h⟩
 | .inr a,h=>exact ⟨_,rfl,h⟩
theorem bI.loop {K:Nat} {f:T→Option (A ⊕ T)} {t0:T} {p:A→Prop} (I:T→Prop) (μ:T→Nat) (h0:I t0) (hK:μ t0<K) (hs:∀ t,I t→bI (f t) (sE p (fun t'=>I t'∧μ t'<μ t))):bI (iter K f t0) p:=by
 induction K generalizing t0 with
 | zero=>omega
 | succ K ih =>
   unfold iter
   obtain ⟨z,hz,h⟩:=hs t0 h0
   rw[hz]
   match z,h with
   | .inl a,h=>exact ⟨_,rfl,h⟩
   | .inr t,h=>exact ih h.1 (by have:=h.2;omega)
theorem bI.upP {K:Nat} {f:Int→Option (A ⊕ Int)} {p:A→Prop} (n:Nat) (P:Nat→Prop) (hK:n<K) (hs:∀ i:Nat,i<n→bI (f i) (sE p (fun t=>t=(i:Int)+1∧P i))) (he:(∀ i,i<n→P i)→bI (f n) (sE p (fun _=>False))):bI (iter K f 0) p:=by
 refine bI.loop (fun t=>∃ i:Nat,t=i∧i≤n∧∀ j,j<i→P j) (fun t=>n - t.toNat) ⟨0,rfl,by omega,by simp⟩ (by simpa using hK) ?_
 rintro t ⟨i,rfl,hi,hP⟩
 by_cases h:i=n
 ·subst h
  refine (he hP).aAK ?_
  rintro (a | t) h
  ·exact h
  ·exact h.elim
 ·refine (hs i (by omega)).aAK ?_
  rintro (a | t) h
  ·exact h
  ·obtain ⟨h1,h2⟩:=h
   subst h1
   refine ⟨⟨i+1,by omega,by omega,fun j hj=>?_⟩,?_⟩
   ·by_cases h:j=i
    ·subst h;exact h2
    ·exact hP j (by omega)
   ·omega
theorem bI.up {K:Nat} {f:Int→Option (A ⊕ Int)} {p:A→Prop} (n:Nat) (hK:n<K) (hs:∀ i:Nat,i<n→bI (f i) (sE p (fun t=>t=(i:Int)+1∧True))) (he:bI (f n) (sE p (fun _=>False))):bI (iter K f 0) p :=
 bI.upP n (fun _=>True) hK hs (fun _=>he)
theorem wY {l:List X} {d:X} {P:X→Prop} (h:∀ i,i<l.length→P (l.getD i d)):∀ x∈l,P x:=by
 intro x hx
 obtain ⟨i,hi,rfl⟩:=List.getElem_of_mem hx
 have:=h i hi
 rwa [List.getD,aD hi] at this
end
theorem wr {x:Int} (h1 : -1000000000000000000≤x) (h2:x≤1000000000000000000):IntKind.i64.wrap x=x:=wrap64 (by omega) (by omega)
end Go.Proofs.YtdbfbedholdjaaaGreat

namespace Go.Proofs.YtdbfbedholdjaaaGreat
open Go Go.Dl
variable [dW]
set_option maxRecDepth 100000
theorem aH6 {K:Nat} {a0 a1:Bytes} (hK:100000<K) (h0:a0.length≤10000) (h1:a1.length≤10000):dA (aML K a0 a1) (fun _=>True):=by
 refine dA.of ?_
 unfold aML
 (repeat' (first | (with_reducible first | refine bI.bN ?_ | refine bI.bL ?_ | refine bI.bJ ?_ | refine bI.dK ?_ | refine bI.ite (fun _=>?_) (fun _=>?_) | refine bI.cD ?_) | with_reducible refine bI.bW (by (first | rfl | assumption | omega | (simp [cS,room,cW,eX] at *;omega))) ?_ | (with_reducible first | refine bI.ret ?_ | refine sE.l ?_ | refine sE.r ?_) | (refine (And.intro (a:=IntKind.i64.wrap _=_) (wrap64 (by omega) (by omega)) ?_))))
 refine bI.loop (fun t:Int=>0≤t∧t≤a0.length+1) (fun t=>(a0.length+1 - t).toNat) ⟨by omega,by omega⟩ (by omega) (fun t ⟨h0,h1⟩=>?_)
 (simp (disch:=omega) only[wr,Int.ofNat_eq_natCast])
 (repeat' (first | (with_reducible first | refine bI.bN ?_ | refine bI.bL ?_ | refine bI.bJ ?_ | refine bI.dK ?_ | refine bI.ite (fun _=>?_) (fun _=>?_) | refine bI.cD ?_) | with_reducible refine bI.bW (by (first | rfl | assumption | omega | (simp [cS,room,cW,eX] at *;omega))) ?_ | (with_reducible first | refine bI.ret ?_ | refine sE.l ?_ | refine sE.r ?_) | (refine (And.intro (a:=IntKind.i64.wrap _=_) (wrap64 (by omega) (by omega)) ?_))))
 (all_goals (try (first | trivial | (intro h;cases h;done) | (first | rfl | assumption | omega | (simp [cS,room,cW,eX] at *;omega)))))
theorem aEm {K:Nat} {a0:Bytes} {a1:Int} (hK:100000<K) (h0:a0.length≤10000) (h1:0≤a1) (h2:a1<a0.length):dA (aPo K a0 a1) (fun v=>v<0∨(a1<v∧v≤a0.length)):=by
 refine dA.of ?_
 unfold aPo
 (repeat' (first | (with_reducible first | refine bI.bN ?_ | refine bI.bL ?_ | refine bI.bJ ?_ | refine bI.dK ?_ | refine bI.ite (fun _=>?_) (fun _=>?_) | refine bI.cD ?_) | with_reducible refine bI.bW (by (first | rfl | assumption | omega | (simp [cS,room,cW,eX] at *;omega))) ?_ | (with_reducible first | refine bI.ret ?_ | refine sE.l ?_ | refine sE.r ?_) | (refine (And.intro (a:=IntKind.i64.wrap _=_) (wrap64 (by omega) (by omega)) ?_))))
 (simp (disch:=omega) only[wr,Int.ofNat_eq_natCast])
 refine bI.loop (fun t:Int=>a1+2≤t∧t≤a0.length+2) (fun t=>(a0.length+2 - t).toNat) ⟨by omega,by omega⟩ (by omega) (fun t ⟨h3,h4⟩=>?_)
 (simp (disch:=omega) only[wr,Int.ofNat_eq_natCast])
 (repeat' (first | (with_reducible first | refine bI.bN ?_ | refine bI.bL ?_ | refine bI.bJ ?_ | refine bI.dK ?_ | refine bI.ite (fun _=>?_) (fun _=>?_) | refine bI.cD ?_) | with_reducible refine bI.bW (by (first | rfl | assumption | omega | (simp [cS,room,cW,eX] at *;omega))) ?_ | (with_reducible first | refine bI.ret ?_ | refine sE.l ?_ | refine sE.r ?_) | (refine (And.intro (a:=IntKind.i64.wrap _=_) (wrap64 (by omega) (by omega)) ?_))))
 (all_goals (try (first | trivial | (intro h;cases h;done) | (first | rfl | assumption | omega | (simp [cS,room,cW,eX] at *;omega)))))
def lx.f (c:UInt8):Bool:=(decide ((c.toNat:Int) ≥ 65) && decide ((c.toNat:Int)≤90)) || (decide ((c.toNat:Int) ≥ 97) && decide ((c.toNat:Int)≤122))
def lx.d (c:UInt8):Bool:=decide ((c.toNat:Int) ≥ 48) && decide ((c.toNat:Int)≤57)
theorem w8 {K:Nat} {a0:UInt8}:dA (aPp K a0) (fun v=>v=lx.f a0):=⟨_,rfl,rfl⟩
theorem l6 {K:Nat} {a0:UInt8}:dA (aMM K a0) (fun v=>v=lx.d a0):=⟨_,rfl,rfl⟩
theorem kP {K:Nat} {a0:UInt8}:dA (aMN K a0) (fun v=>lx.f a0=true→v=true):=by
 refine dA.of ?_
 unfold aMN
 (repeat' (first | (with_reducible first | refine bI.bN ?_ | refine bI.ret ?_ | refine sE.l ?_ | refine sE.r ?_ | refine bI.cG (fun _=>l6) (fun _ _=>?_) | refine bI.call l6 (fun _ _=>?_) | refine bI.call w8 (fun _ _=>?_))))
 intro h
 simp_all
theorem aH7 {K:Nat} {a0:Bytes} (hK:100000<K) (h0:a0.length≤10000):dA (aPq K a0) (fun _=>True):=by
 refine dA.of ?_
 unfold aPq
 (repeat' (first | (with_reducible first | refine bI.bN ?_ | refine bI.bL ?_ | refine bI.bJ ?_ | refine bI.dK ?_ | refine bI.ite (fun _=>?_) (fun _=>?_) | refine bI.cD ?_) | with_reducible refine bI.bW (by (first | rfl | assumption | omega | (simp [cS,room,cW,eX] at *;omega))) ?_ | (with_reducible first | refine bI.ret ?_ | refine sE.l ?_ | refine sE.r ?_ | refine bI.cG (fun _=>kP) (fun _ _=>?_) | refine bI.call kP (fun _ _=>?_)) | (refine (And.intro (a:=IntKind.i64.wrap _=_) (wrap64 (by omega) (by omega)) ?_))))
 refine bI.loop (fun t:Int=>0≤t∧t≤a0.length) (fun t=>(a0.length - t).toNat) ⟨by omega,by omega⟩ (by omega) (fun t ⟨h1,h2⟩=>?_)
 (simp (disch:=omega) only[wr,Int.ofNat_eq_natCast])
 (repeat' (first | (with_reducible first | refine bI.bN ?_ | refine bI.bL ?_ | refine bI.bJ ?_ | refine bI.dK ?_ | refine bI.ite (fun _=>?_) (fun _=>?_) | refine bI.cD ?_) | with_reducible refine bI.bW (by (first | rfl | assumption | omega | (simp [cS,room,cW,eX] at *;omega))) ?_ | (with_reducible first | refine bI.ret ?_ | refine sE.l ?_ | refine sE.r ?_ | refine bI.cG (fun _=>kP) (fun _ _=>?_) | refine bI.call kP (fun _ _=>?_)) | (refine (And.intro (a:=IntKind.i64.wrap _=_) (wrap64 (by omega) (by omega)) ?_))))
 (all_goals (try (first | trivial | (intro h;cases h;done) | (first | rfl | assumption | omega | (simp [cS,room,cW,eX] at *;omega)))))
theorem aAR {K:Nat} {a0:Bytes} (hK:100000<K) (h0:a0.length≤6000):dA (aPr K a0) (fun _=>True):=by
 refine dA.of ?_
 unfold aPr
 (repeat' (first | (with_reducible first | refine bI.bN ?_ | refine bI.bL ?_ | refine bI.bJ ?_ | refine bI.dK ?_ | refine bI.ite (fun _=>?_) (fun _=>?_) | refine bI.cD ?_) | with_reducible refine bI.bW (by (first | rfl | assumption | omega | (simp [cS,room,cW,eX] at *;omega))) ?_ | (with_reducible first | refine bI.ret ?_ | refine sE.l ?_ | refine sE.r ?_) | with_reducible refine bI.cG (fun _=>aH7 (by omega) (by omega)) (fun _ _=>?_) | (refine (And.intro (a:=IntKind.i64.wrap _=_) (wrap64 (by omega) (by omega)) ?_))))
 (all_goals (try (first | trivial | (intro h;cases h;done) | (first | rfl | assumption | omega | (simp [cS,room,cW,eX] at *;omega)))))
 refine bI.loop (fun t:Int=>0≤t∧t≤400) (fun t=>(400 - t).toNat) ⟨by omega,by omega⟩ (by omega) (fun t ⟨h1,h2⟩=>?_)
 have hl:((([32]:Bytes)++a0)++([32]:Bytes)).length=a0.length+2:=by simp <;> omega
 rw[hl]
 (simp (disch:=omega) only[wr,Int.ofNat_eq_natCast])
 (repeat' (first | (with_reducible first | refine bI.bN ?_ | refine bI.bL ?_ | refine bI.bJ ?_ | refine bI.dK ?_ | refine bI.ite (fun _=>?_) (fun _=>?_) | refine bI.cD ?_) | with_reducible refine bI.bW (by (first | rfl | assumption | omega | (simp [cS,room,cW,eX] at *;omega))) ?_ | (with_reducible first | refine bI.ret ?_ | refine sE.l ?_ | refine sE.r ?_) | with_reducible refine bI.cG (fun _=>aH7 (by omega) (by omega)) (fun _ _=>?_) | (refine (And.intro (a:=IntKind.i64.wrap _=_) (wrap64 (by omega) (by omega)) ?_))))
 (all_goals (try (first | trivial | (intro h;cases h;done) | (first | rfl | assumption | omega | (simp [cS,room,cW,eX] at *;omega)))))
theorem aAS {K:Nat} {a0:Bytes} {a1:Int} (hK:100000<K) (h0:a0.length≤6000) (h1:0≤a1) (h2:a1<a0.length):dA (aPs K a0 a1) (fun v=>0≤v∧a1+v≤a0.length):=by
 refine dA.of ?_
 unfold aPs
 (simp (disch:=omega) only[wr,Int.ofNat_eq_natCast])
 (repeat' (first | (with_reducible first | refine bI.bN ?_ | refine bI.ite (fun _=>?_) (fun _=>?_) | refine bI.cD ?_) | with_reducible refine bI.bW (by (first | rfl | assumption | omega | (simp [cS,room,cW,eX] at *;omega))) ?_ | (with_reducible first | refine bI.ret ?_ | refine sE.l ?_ | refine sE.r ?_) | with_reducible refine bI.cG (fun _=>aH6 (by omega) (by simp) (by simp <;> omega)) (fun _ _=>?_) | with_reducible refine bI.call (aH6 (by omega) (by simp) (by simp <;> omega)) (fun _ _=>?_) | (refine (And.intro (a:=IntKind.i64.wrap _=_) (wrap64 (by omega) (by omega)) ?_))))
 (all_goals (try (first | trivial | (intro h;cases h;done) | (first | rfl | assumption | omega | (simp [cS,room,cW,eX] at *;omega)))))
theorem aEn {K:Nat} {a0:Bytes} {a1:Int} (hK:100000<K) (h0:a0.length≤6000) (h1:0≤a1) (h2:a1<a0.length):dA (aPt K a0 a1) (fun v=>v.2.2=0→a1<v.2.1∧v.2.1≤a0.length∧v.1.aBR=(a0.drop a1.toNat).take (v.2.1.toNat - a1.toNat)):=by
 refine dA.of ?_
 unfold aPt
 (repeat' (first | (with_reducible first | refine bI.bN ?_ | refine bI.bL ?_ | refine bI.bJ ?_ | refine bI.dK ?_ | refine bI.ite (fun _=>?_) (fun _=>?_) | refine bI.cD ?_) | with_reducible refine bI.bW (by (first | rfl | assumption | omega | (simp [cS,room,cW,eX] at *;omega))) ?_ | (with_reducible first | refine bI.ret ?_ | refine sE.l ?_ | refine sE.r ?_) | with_reducible refine bI.call (aAS (by omega) (by assumption) (by omega) (by omega)) (fun _ _=>?_) | with_reducible refine bI.call (aAR (by omega) (by simp <;> omega)) (fun _ _=>?_) | (with_reducible first | refine bI.cG (fun _=>kP) (fun _ _=>?_) | refine bI.call kP (fun _ _=>?_) | refine bI.cG (fun _=>l6) (fun _ _=>?_) | refine bI.call l6 (fun _ _=>?_) | refine bI.call w8 (fun _ _=>?_)) | (refine (And.intro (a:=IntKind.i64.wrap _=_) (wrap64 (by omega) (by omega)) ?_))))
 ·rename_i v1 hv1 hw
  rw[hw] at hv1
  refine bI.loop (fun t:Int=>a1≤t∧t≤a0.length) (fun t=>(a0.length - t).toNat) ⟨by omega,by omega⟩ (by omega) (fun t ⟨h3,h4⟩=>?_)
  (simp (disch:=omega) only[wr,Int.ofNat_eq_natCast])
  (repeat' (first | (with_reducible first | refine bI.bN ?_ | refine bI.bL ?_ | refine bI.bJ ?_ | refine bI.dK ?_ | refine bI.ite (fun _=>?_) (fun _=>?_) | refine bI.cD ?_) | with_reducible refine bI.bW (by (first | rfl | assumption | omega | (simp [cS,room,cW,eX] at *;omega))) ?_ | (with_reducible first | refine bI.ret ?_ | refine sE.l ?_ | refine sE.r ?_) | with_reducible refine bI.call (aAS (by omega) (by assumption) (by omega) (by omega)) (fun _ _=>?_) | with_reducible refine bI.call (aAR (by omega) (by simp <;> omega)) (fun _ _=>?_) | (with_reducible first | refine bI.cG (fun _=>kP) (fun _ _=>?_) | refine bI.call kP (fun _ _=>?_) | refine bI.cG (fun _=>l6) (fun _ _=>?_) | refine bI.call l6 (fun _ _=>?_) | refine bI.call w8 (fun _ _=>?_)) | (refine (And.intro (a:=IntKind.i64.wrap _=_) (wrap64 (by omega) (by omega)) ?_))))
  all_goals try ((all_goals (try (first | trivial | (intro h;cases h;done) | (first | rfl | assumption | omega | (simp [cS,room,cW,eX] at *;omega)))));done)
  all_goals
   have hlt:∀ v:Bool,(decide (t<(a0.length:Int))=true→lx.f (a0.getD t.toNat 0)=true→v=true)→¬ (decide (t<(a0.length:Int)) && v)=true→a1<t:=fun v g1 g2=>by
    by_cases e:t=a1
    ·subst e
     have:=g1 (by simpa using h2) hv1.symm
     simp [this,h2] at g2
    ·omega
   intro _
   exact ⟨hlt _ (by assumption) (by assumption),h4,rfl⟩
 ·rename_i v1 hv1 hw v2 hv2 hw2
  rw[hw2] at hv2
  refine bI.loop (fun t:Int × Int=>a1≤t.2∧t.2≤a0.length) (fun t=>(a0.length - t.2).toNat) ⟨by simp,by simp;omega⟩ (by simp;omega) (fun t ⟨h3,h4⟩=>?_)
  obtain ⟨n,t⟩:=t
  dsimp only at h3 h4 ⊢
  (simp (disch:=omega) only[wr,Int.ofNat_eq_natCast])
  (repeat' (first | (with_reducible first | refine bI.bN ?_ | refine bI.bL ?_ | refine bI.bJ ?_ | refine bI.dK ?_ | refine bI.ite (fun _=>?_) (fun _=>?_) | refine bI.cD ?_) | with_reducible refine bI.bW (by (first | rfl | assumption | omega | (simp [cS,room,cW,eX] at *;omega))) ?_ | (with_reducible first | refine bI.ret ?_ | refine sE.l ?_ | refine sE.r ?_) | with_reducible refine bI.call (aAS (by omega) (by assumption) (by omega) (by omega)) (fun _ _=>?_) | with_reducible refine bI.call (aAR (by omega) (by simp <;> omega)) (fun _ _=>?_) | (with_reducible first | refine bI.cG (fun _=>kP) (fun _ _=>?_) | refine bI.call kP (fun _ _=>?_) | refine bI.cG (fun _=>l6) (fun _ _=>?_) | refine bI.call l6 (fun _ _=>?_) | refine bI.call w8 (fun _ _=>?_)) | (refine (And.intro (a:=IntKind.i64.wrap _=_) (wrap64 (by omega) (by omega)) ?_))))
  all_goals try ((all_goals (try (first | trivial | (intro h;cases h;done) | (first | rfl | assumption | omega | (simp [cS,room,cW,eX] at *;omega)))));done)
  all_goals
   have hlt:∀ v:Bool,(decide (t<(a0.length:Int))=true→v=lx.d (a0.getD t.toNat 0))→¬ (decide (t<(a0.length:Int)) && v)=true→a1<t:=fun v g1 g2=>by
    by_cases e:t=a1
    ·subst e
     have:=g1 (by simpa using h2)
     rw[← hv2] at this
     simp [this,h2] at g2
    ·omega
   intro _
   exact ⟨hlt _ (by assumption) (by assumption),h4,rfl⟩
 ·rename_i v hv
  (simp (disch:=omega) only[wr,Int.ofNat_eq_natCast])
  (repeat' (first | (with_reducible first | refine bI.bN ?_ | refine bI.bL ?_ | refine bI.bJ ?_ | refine bI.dK ?_ | refine bI.ite (fun _=>?_) (fun _=>?_) | refine bI.cD ?_) | with_reducible refine bI.bW (by (first | rfl | assumption | omega | (simp [cS,room,cW,eX] at *;omega))) ?_ | (with_reducible first | refine bI.ret ?_ | refine sE.l ?_ | refine sE.r ?_) | with_reducible refine bI.call (aAS (by omega) (by assumption) (by omega) (by omega)) (fun _ _=>?_) | with_reducible refine bI.call (aAR (by omega) (by simp <;> omega)) (fun _ _=>?_) | (with_reducible first | refine bI.cG (fun _=>kP) (fun _ _=>?_) | refine bI.call kP (fun _ _=>?_) | refine bI.cG (fun _=>l6) (fun _ _=>?_) | refine bI.call l6 (fun _ _=>?_) | refine bI.call w8 (fun _ _=>?_)) | (refine (And.intro (a:=IntKind.i64.wrap _=_) (wrap64 (by omega) (by omega)) ?_))))
  all_goals try ((all_goals (try (first | trivial | (intro h;cases h;done) | (first | rfl | assumption | omega | (simp [cS,room,cW,eX] at *;omega)))));done)
  all_goals
   rename_i h
   intro _
   simp only[beq_iff_eq] at h
   dsimp only
   refine ⟨by omega,by omega,rfl⟩
theorem aVt {l:Bytes} {a b:Int} (h0:0≤a) (h1:a<b) (h2:b≤l.length):(l.drop a.toNat).take (b.toNat - a.toNat)≠[]:=by
 intro h
 have:=congrArg List.length h
 rw[aU,bH,List.length_nil] at this
 omega
theorem aP7 {K:Nat} {a0:Bytes} (hK:100000<K):dA (aPg K a0) (fun v=>v.1.length≤1500∧∀ x∈v.1,x.aBR≠[]):=by
 refine dA.of ?_
 unfold aPg
 (repeat' (first | (with_reducible first | refine bI.bN ?_ | refine bI.bL ?_ | refine bI.bJ ?_ | refine bI.dK ?_ | refine bI.ite (fun _=>?_) (fun _=>?_) | refine bI.cD ?_) | with_reducible refine bI.bW (by (first | assumption | rfl | trivial | omega | (simp only[aB,aC,aM,Bool.not_eq_true,Bool.and_eq_false_iff,Bool.or_eq_false_iff,decide_eq_false_iff_not,Int.ofNat_eq_natCast,cS,room,cW,Int.toNat_natCast,aP,Bool.not_true,Bool.not_false,Bool.not_eq_false',Bool.not_not,eX,aE,List.length_cons,List.length_nil,List.length_replicate,aU,bH,bne_iff_ne,beq_iff_eq,ne_eq] at *;first | assumption | omega | (split at * <;> omega)))) ?_ | (with_reducible first | refine bI.ret ?_ | refine sE.l ?_ | refine sE.r ?_) | with_reducible refine bI.call (aEn (by omega) (by assumption) (by omega) (by omega)) (fun _ _=>?_) | with_reducible refine bI.call (aEm (by omega) (by omega) (by omega) (by omega)) (fun _ _=>?_) | (refine (And.intro (a:=IntKind.i64.wrap _=_) (wrap64 (by omega) (by omega)) ?_))))
 ·exact ⟨by simp,fun x hx=>by cases hx⟩
 ·rename_i h
  simp only[aB,Int.ofNat_eq_natCast] at h
  have h0:a0.length≤6000:=by omega
  refine bI.loop (fun t:List tS × Int=>t.1.length≤1500∧0≤t.2∧t.2≤a0.length∧∀ x∈t.1,x.aBR≠[]) (fun t=>(a0.length - t.2).toNat) ⟨by simp,by simp,by simp,by simp⟩ (by simp;omega) (fun t ⟨h1,h2,h3,h9⟩=>?_)
  obtain ⟨l,t⟩:=t
  dsimp only at h1 h2 h3 h9 ⊢
  (simp (disch:=omega) only[wr,Int.ofNat_eq_natCast])
  (repeat' (first | (with_reducible first | refine bI.bN ?_ | refine bI.bL ?_ | refine bI.bJ ?_ | refine bI.dK ?_ | refine bI.ite (fun _=>?_) (fun _=>?_) | refine bI.cD ?_) | with_reducible refine bI.bW (by (first | assumption | rfl | trivial | omega | (simp only[aB,aC,aM,Bool.not_eq_true,Bool.and_eq_false_iff,Bool.or_eq_false_iff,decide_eq_false_iff_not,Int.ofNat_eq_natCast,cS,room,cW,Int.toNat_natCast,aP,Bool.not_true,Bool.not_false,Bool.not_eq_false',Bool.not_not,eX,aE,List.length_cons,List.length_nil,List.length_replicate,aU,bH,bne_iff_ne,beq_iff_eq,ne_eq] at *;first | assumption | omega | (split at * <;> omega)))) ?_ | (with_reducible first | refine bI.ret ?_ | refine sE.l ?_ | refine sE.r ?_) | with_reducible refine bI.call (aEn (by omega) (by assumption) (by omega) (by omega)) (fun _ _=>?_) | with_reducible refine bI.call (aEm (by omega) (by omega) (by omega) (by omega)) (fun _ _=>?_) | (refine (And.intro (a:=IntKind.i64.wrap _=_) (wrap64 (by omega) (by omega)) ?_))))
  all_goals try ((all_goals (try (first | trivial | (intro h;cases h;done) | (first | assumption | rfl | trivial | omega | (simp only[aB,aC,aM,Bool.not_eq_true,Bool.and_eq_false_iff,Bool.or_eq_false_iff,decide_eq_false_iff_not,Int.ofNat_eq_natCast,cS,room,cW,Int.toNat_natCast,aP,Bool.not_true,Bool.not_false,Bool.not_eq_false',Bool.not_not,eX,aE,List.length_cons,List.length_nil,List.length_replicate,aU,bH,bne_iff_ne,beq_iff_eq,ne_eq] at *;first | assumption | omega | (split at * <;> omega))))));done)
  all_goals
   have hlt:t<(a0.length:Int):=of_decide_eq_true (by assumption)
   (repeat' (first | (with_reducible first | refine bI.bN ?_ | refine bI.bL ?_ | refine bI.bJ ?_ | refine bI.dK ?_ | refine bI.ite (fun _=>?_) (fun _=>?_) | refine bI.cD ?_) | with_reducible refine bI.bW (by (first | assumption | rfl | trivial | omega | (simp only[aB,aC,aM,Bool.not_eq_true,Bool.and_eq_false_iff,Bool.or_eq_false_iff,decide_eq_false_iff_not,Int.ofNat_eq_natCast,cS,room,cW,Int.toNat_natCast,aP,Bool.not_true,Bool.not_false,Bool.not_eq_false',Bool.not_not,eX,aE,List.length_cons,List.length_nil,List.length_replicate,aU,bH,bne_iff_ne,beq_iff_eq,ne_eq] at *;first | assumption | omega | (split at * <;> omega)))) ?_ | (with_reducible first | refine bI.ret ?_ | refine sE.l ?_ | refine sE.r ?_) | with_reducible refine bI.call (aEn (by omega) (by assumption) (by omega) (by omega)) (fun _ _=>?_) | with_reducible refine bI.call (aEm (by omega) (by omega) (by omega) (by omega)) (fun _ _=>?_) | (refine (And.intro (a:=IntKind.i64.wrap _=_) (wrap64 (by omega) (by omega)) ?_))))
  all_goals try ((all_goals (try (first | trivial | (intro h;cases h;done) | (first | assumption | rfl | trivial | omega | (simp only[aB,aC,aM,Bool.not_eq_true,Bool.and_eq_false_iff,Bool.or_eq_false_iff,decide_eq_false_iff_not,Int.ofNat_eq_natCast,cS,room,cW,Int.toNat_natCast,aP,Bool.not_true,Bool.not_false,Bool.not_eq_false',Bool.not_not,eX,aE,List.length_cons,List.length_nil,List.length_replicate,aU,bH,bne_iff_ne,beq_iff_eq,ne_eq] at *;first | assumption | omega | (split at * <;> omega))))));done)
  all_goals try (exact ⟨by simp,fun x hx=>by cases hx⟩)
  all_goals try (exact ⟨h1,h9⟩)
  all_goals try (exact ⟨⟨by dsimp only;omega,by dsimp only;omega,by dsimp only;omega,h9⟩,by dsimp only;omega⟩)
  ·rename_i w1 w2 v hv w3
   simp only[aB] at w3
   exact ⟨⟨by dsimp only;omega,by dsimp only;omega,by dsimp only;omega,h9⟩,by dsimp only;omega⟩
  ·rename_i w1 w2 v hv w3 w4
   simp only[bne_iff_ne,ne_eq,Decidable.not_not] at w3
   simp only[aB,Int.ofNat_eq_natCast] at w4
   obtain ⟨k1,k2,k3⟩:=hv w3
   refine ⟨⟨by simp only[aE,List.length_singleton];omega,by dsimp only;omega,by dsimp only;omega,fun x hx=>?_⟩,by dsimp only;omega⟩
   rcases aY.1 hx with hx | hx
   ·exact h9 x hx
   ·rw[aO.1 hx,k3]
    exact aVt h2 k1 k2
end Go.Proofs.YtdbfbedholdjaaaGreat

namespace Go.Proofs.YtdbfbedholdjaaaGreat
open Go Go.Dl
variable [dW]
set_option maxRecDepth 100000
mutual
def cL.sz:cL→Nat
 | ⟨_,_,_,_,a⟩=>1+cL.jC a
def cL.jC:List cL→Nat
 | []=>0
 | x::r=>cL.sz x+cL.jC r
end
theorem oD:∀ (a b:List cL),cL.jC (a++b)=cL.jC a+cL.jC b
 | [],b=>by simp [cL.jC]
 | x::a,b=>by rw[List.cons_append,cL.jC,cL.jC,oD a b];omega
theorem cL.aEq (e:cL):1≤e.sz:=by cases e;rw[cL.sz];omega
theorem oC:∀ l:List cL,l.length≤cL.jC l
 | []=>by simp [cL.jC]
 | x::r=>by rw[List.length_cons,cL.jC];have:=oC r;have:=x.aEq;omega
def rB:List (List Int)→Nat
 | []=>0
 | x::r=>1+x.length+rB r
theorem tT:∀ (a b:List (List Int)),rB (a++b)=rB a+rB b
 | [],b=>by simp [rB]
 | x::a,b=>by rw[List.cons_append,rB,rB,tT a b];omega
theorem aEf:∀ l:List (List Int),l.length≤rB l
 | []=>by simp [rB]
 | x::r=>by rw[List.length_cons,rB];have:=aEf r;omega
mutual
def cJ.sz:cJ→Nat
 | ⟨_,_,_,e,l,b⟩=>1+cL.jC e+rB l+cJ.lQ b
def cJ.jC:List cJ→Nat
 | []=>0
 | x::r=>cJ.sz x+cJ.jC r
def cJ.lQ:List (List cJ)→Nat
 | []=>0
 | x::r=>1+cJ.jC x+cJ.lQ r
end
theorem w5:∀ (a b:List cJ),cJ.jC (a++b)=cJ.jC a+cJ.jC b
 | [],b=>by simp [cJ.jC]
 | x::a,b=>by rw[List.cons_append,cJ.jC,cJ.jC,w5 a b];omega
theorem sJ:∀ (a b:List (List cJ)),cJ.lQ (a++b)=cJ.lQ a+cJ.lQ b
 | [],b=>by simp [cJ.lQ]
 | x::a,b=>by rw[List.cons_append,cJ.lQ,cJ.lQ,sJ a b];omega
theorem cJ.aEq (e:cJ):1≤e.sz:=by cases e;rw[cJ.sz];omega
theorem aJE:∀ l:List cJ,l.length≤cJ.jC l
 | []=>by simp [cJ.jC]
 | x::r=>by rw[List.length_cons,cJ.jC];have:=aJE r;have:=x.aEq;omega
theorem aCL:∀ l:List (List cJ),l.length≤cJ.lQ l
 | []=>by simp [cJ.lQ]
 | x::r=>by rw[List.length_cons,cJ.lQ];have:=aCL r;omega
def hU.sz (m:hU):Nat:=1+m.cV.length+m.cU.length+cJ.jC m.uW
def zM:List hU→Nat
 | []=>0
 | x::r=>x.sz+zM r
theorem xM:∀ (a b:List hU),zM (a++b)=zM a+zM b
 | [],b=>by simp [zM]
 | x::a,b=>by rw[List.cons_append,zM,zM,xM a b];omega
theorem aLu:∀ l:List hU,l.length≤zM l
 | []=>by simp [zM]
 | x::r=>by rw[List.length_cons,zM,hU.sz];have:=aLu r;omega
def jG.sz (d:jG):Nat:=1+d.eB.length+d.cU.length+zM d.bM+cJ.jC d.uW
def dsz:List jG→Nat
 | []=>0
 | x::r=>x.sz+dsz r
theorem uS:∀ (a b:List jG),dsz (a++b)=dsz a+dsz b
 | [],b=>by simp [dsz]
 | x::a,b=>by rw[List.cons_append,dsz,dsz,uS a b];omega
theorem aLv:∀ l:List jG,l.length≤dsz l
 | []=>by simp [dsz]
 | x::r=>by rw[List.length_cons,dsz,jG.sz];have:=aLv r;omega
structure Rd (r:cB):Prop where
 lo:0≤r.qG
 hi:r.qG≤r.ft.length
 n:r.ft.length≤1500
 nm:∀ t∈r.ft,t.aBR≠[]
def mu (r:cB):Nat:=if r.iL=0 then (r.ft.length - r.qG).toNat+1 else 0
theorem nJ {r:cB} (h:Rd r):mu r≤1501:=by
 unfold mu;have:=h.n;have:=h.lo;split <;> omega
theorem bI.cX {α R:Type} {b:Bool} {d:R} {m:Option (R ⊕ R)} {f:R→Option α} {Q:α→Prop} {P:R→Prop} (hb:b=true) (h:dA m P) (hf:∀ v,P v→bI (f v) Q):bI ((cH b (bT m) d).bind f) Q :=
 bI.cG (fun _=>h) fun v hv=>hf v (hv hb)
theorem aLw {K:Nat} {r:cB} {s:Bytes} (h:Rd r):dA (F73 K r s) (fun v=>v=true→r.iL=0∧r.qG<r.ft.length):=by
 obtain ⟨h1,h2,h3,h9⟩:=h
 refine dA.of ?_
 unfold F73
 (repeat' (first | (with_reducible first | refine bI.bN ?_ | refine bI.ite (fun _=>?_) (fun _=>?_) | refine bI.cD ?_) | with_reducible refine bI.bW (by (first | rfl | assumption | omega | (simp [cS,room,cW,eX] at *;omega))) ?_ | (with_reducible first | refine bI.ret ?_ | refine sE.l ?_ | refine sE.r ?_)))
 ·(all_goals (try (first | trivial | (intro h;cases h;done) | (first | rfl | assumption | omega | (simp [cS,room,cW,eX] at *;omega)))))
 ·rename_i h
  simp only[aM,bne_iff_ne,aB,not_or,ge_iff_le,Int.not_le,Int.ofNat_eq_natCast,ne_eq,Decidable.not_not] at h
  exact fun _=>h
theorem aEr {K:Nat} {r:cB} {k:Int} (h:Rd r):dA (vE K r k) (fun v=>v=true→r.iL=0∧r.qG<r.ft.length):=by
 obtain ⟨h1,h2,h3,h9⟩:=h
 refine dA.of ?_
 unfold vE
 (repeat' (first | (with_reducible first | refine bI.bN ?_ | refine bI.cD ?_) | with_reducible refine bI.bW (by (first | rfl | assumption | omega | (simp [cS,room,cW,eX] at *;omega))) ?_ | (with_reducible first | refine bI.ret ?_ | refine sE.l ?_ | refine sE.r ?_)))
 intro hv
 simp only[aC,beq_iff_eq,aB,Int.ofNat_eq_natCast] at hv
 exact hv.1
theorem aLx {K:Nat} {r:cB} (h:Rd r):dA (F75 K r) (fun v=>v.2=r):=by
 obtain ⟨h1,h2,h3,h9⟩:=h
 refine dA.of ?_
 unfold F75
 (repeat' (first | (with_reducible first | refine bI.bN ?_ | refine bI.ite (fun _=>?_) (fun _=>?_) | refine bI.cD ?_) | with_reducible refine bI.bW (by (first | rfl | assumption | omega | (simp [cS,room,cW,eX] at *;omega))) ?_ | (with_reducible first | refine bI.ret ?_ | refine sE.l ?_ | refine sE.r ?_)))
 all_goals rfl
theorem zH {r:cB} (h:r.iL=0):0<mu r:=by unfold mu;rw[aH h];omega
theorem aGr {r:cB} (h:Rd r) (h1:r.iL=0∧r.qG<r.ft.length):Rd ⟨r.ft,IntKind.i64.wrap (r.qG+1),r.aHh,r.iL,r.aCk⟩∧mu ⟨r.ft,IntKind.i64.wrap (r.qG+1),r.aHh,r.iL,r.aCk⟩+1≤mu r:=by
 obtain ⟨h2,h3,h4,h9⟩:=h
 obtain ⟨h5,h6⟩:=h1
 have hw:IntKind.i64.wrap (r.qG+1)=r.qG+1:=wr (by omega) (by omega)
 rw[hw]
 refine ⟨⟨by dsimp only;omega,by dsimp only;omega,h4,h9⟩,?_⟩
 unfold mu
 dsimp only
 rw[aH h5,aH h5];omega
theorem jW {K:Nat} {r:cB} {c:Int} (h:Rd r) (hc:c≠0):dA (aAy K r c) (fun v=>Rd v∧mu v=0):=by
 have h0:=h
 obtain ⟨h1,h2,h3,h9⟩:=h
 refine dA.of ?_
 unfold aAy
 refine bI.ite (fun e=>?_) (fun e=>?_)
 ·refine bI.call (aLx h0) (fun v hv=>?_)
  obtain ⟨p,v⟩:=v
  obtain rfl:v=r:=hv
  (repeat' (first | (with_reducible first | refine bI.ite (fun _=>?_) (fun _=>?_) | refine bI.ret ?_ | refine sE.l ?_ | refine sE.r ?_)))
  refine ⟨⟨by simp,by simp,h3,h9⟩,?_⟩
  unfold mu;rw[aG hc]
 ·(repeat' (first | (with_reducible first | refine bI.ite (fun _=>?_) (fun _=>?_) | refine bI.ret ?_ | refine sE.l ?_ | refine sE.r ?_)))
  refine ⟨h0,?_⟩
  unfold mu;rw[aG (by simpa using e)]
theorem e8 {K:Nat} {r:cB} {a b:Int} (h:Rd r):dA (F74 K r a b) (fun v=>Rd v∧mu v≤mu r):=by
 refine dA.of ?_
 unfold F74
 refine bI.ite (fun e=>?_) (fun e=>?_)
 ·refine bI.call (jW h (by decide)) (fun v hv=>?_)
  (repeat' (first | (with_reducible first | refine bI.ite (fun _=>?_) (fun _=>?_) | refine bI.ret ?_ | refine sE.l ?_ | refine sE.r ?_)))
  exact ⟨hv.1,by rw[hv.2];exact Nat.zero_le _⟩
 ·(repeat' (first | (with_reducible first | refine bI.ite (fun _=>?_) (fun _=>?_) | refine bI.ret ?_ | refine sE.l ?_ | refine sE.r ?_)))
  exact ⟨h,aQ _⟩
theorem eD {K:Nat} {r:cB} {s:Bytes} (h:Rd r):dA (fZ K r s) (fun v=>(v.1=true∧Rd v.2∧mu v.2+1≤mu r)∨(v.1=false∧v.2=r)):=by
 refine dA.of ?_
 unfold fZ
 refine bI.cX (by decide) (aLw h) (fun v hv=>?_)
 refine bI.ite (fun e=>?_) (fun e=>?_)
 ·(repeat' (first | (with_reducible first | refine bI.ite (fun _=>?_) (fun _=>?_) | refine bI.ret ?_ | refine sE.l ?_ | refine sE.r ?_) | (refine (And.intro (a:=IntKind.i64.wrap _=_) (wrap64 (by omega) (by omega)) ?_))))
  exact .inl ⟨rfl,aGr h (hv e)⟩
 ·(repeat' (first | (with_reducible first | refine bI.ite (fun _=>?_) (fun _=>?_) | refine bI.ret ?_ | refine sE.l ?_ | refine sE.r ?_) | (refine (And.intro (a:=IntKind.i64.wrap _=_) (wrap64 (by omega) (by omega)) ?_))))
  exact .inr ⟨rfl,rfl⟩
theorem eP {K:Nat} {r:cB} {s:Bytes} (h:Rd r):dA (fI K r s) (fun v=>Rd v∧mu v≤mu r - 1):=by
 refine dA.of ?_
 unfold fI
 refine bI.call (eD h) ?_
 rintro ⟨b,v⟩ (⟨h1,h2,h3⟩ | ⟨h1,h2⟩)
 ·dsimp only at h1 h2 h3 ⊢
  subst h1
  refine bI.eQ (by simp) ?_
  (repeat' (first | (with_reducible first | refine bI.ite (fun _=>?_) (fun _=>?_) | refine bI.ret ?_ | refine sE.l ?_ | refine sE.r ?_)))
  exact ⟨h2,by omega⟩
 ·dsimp only at h1 h2 ⊢
  subst h1;subst h2
  refine bI.eR (by simp) ?_
  refine bI.call (jW h (by decide)) (fun v hv=>?_)
  (repeat' (first | (with_reducible first | refine bI.ite (fun _=>?_) (fun _=>?_) | refine bI.ret ?_ | refine sE.l ?_ | refine sE.r ?_)))
  exact ⟨hv.1,by omega⟩
theorem aLy {K:Nat} {r:cB} (h:Rd r):dA (pJ K r) (fun v=>(Rd v.2∧mu v.2≤mu r - 1)∧(mu v.2≠0→v.1≠[])):=by
 refine dA.of ?_
 unfold pJ
 refine bI.cX (by decide) (aEr h) (fun v hv=>?_)
 refine bI.ite (fun e=>?_) (fun e=>?_)
 ·refine bI.call (jW h (by decide)) (fun v hv=>?_)
  (repeat' (first | (with_reducible first | refine bI.bN ?_ | refine bI.ite (fun _=>?_) (fun _=>?_) | refine bI.cD ?_) | with_reducible refine bI.bW (by (first | rfl | assumption | omega | (simp [cS,room,cW,eX] at *;omega))) ?_ | (with_reducible first | refine bI.ret ?_ | refine sE.l ?_ | refine sE.r ?_) | (refine (And.intro (a:=IntKind.i64.wrap _=_) (wrap64 (by omega) (by omega)) ?_))))
  exact ⟨⟨hv.1,by have:=hv.2;dsimp only;omega⟩,fun e=>absurd hv.2 e⟩
 ·have h1:=hv (by simpa using e)
  obtain ⟨h2,h3⟩:=aGr h h1
  have hw:IntKind.i64.wrap (r.qG+1)=r.qG+1:=wr (by have:=h.lo;omega) (by have:=h.hi;have:=h.n;omega)
  have hw2:IntKind.i64.wrap (IntKind.i64.wrap (r.qG+1) - 1)=r.qG:=by rw[hw,wr (by have:=h.lo;omega) (by have:=h.hi;have:=h.n;omega)];omega
  rw[hw2]
  have:=h.lo
  (repeat' (first | (with_reducible first | refine bI.bN ?_ | refine bI.ite (fun _=>?_) (fun _=>?_) | refine bI.cD ?_) | with_reducible refine bI.bW (by (first | rfl | assumption | omega | (simp [cS,room,cW,eX] at *;omega))) ?_ | (with_reducible first | refine bI.ret ?_ | refine sE.l ?_ | refine sE.r ?_) | (refine (And.intro (a:=IntKind.i64.wrap _=_) (wrap64 (by omega) (by omega)) ?_))))
  refine ⟨⟨h2,by dsimp only;omega⟩,fun _=>h.nm _ ?_⟩
  have h4:r.qG.toNat<r.ft.length:=by have:=h1.2;omega
  rw[List.getD,aD h4]
  exact List.getElem_mem h4
theorem fO {K:Nat} {r:cB} (h:Rd r):dA (pJ K r) (fun v=>Rd v.2∧mu v.2≤mu r - 1):=(aLy h).aAK fun v hv=>hv.1
theorem tU {K:Nat} {r:cB} (h:Rd r):dA (aD6 K r) (fun v=>Rd v.2∧mu v.2≤mu r - 1):=by
 refine dA.of ?_
 unfold aD6
 refine bI.cX (by decide) (aEr h) (fun v hv=>?_)
 refine bI.ite (fun e=>?_) (fun e=>?_)
 ·refine bI.call (jW h (by decide)) (fun v hv=>?_)
  (repeat' (first | (with_reducible first | refine bI.bN ?_ | refine bI.ite (fun _=>?_) (fun _=>?_) | refine bI.cD ?_) | with_reducible refine bI.bW (by (first | rfl | assumption | omega | (simp [cS,room,cW,eX] at *;omega))) ?_ | (with_reducible first | refine bI.ret ?_ | refine sE.l ?_ | refine sE.r ?_) | (refine (And.intro (a:=IntKind.i64.wrap _=_) (wrap64 (by omega) (by omega)) ?_))))
  exact ⟨hv.1,by have:=hv.2;dsimp only;omega⟩
 ·have h1:=hv (by simpa using e)
  obtain ⟨h2,h3⟩:=aGr h h1
  have hw:IntKind.i64.wrap (r.qG+1)=r.qG+1:=wr (by have:=h.lo;omega) (by have:=h.hi;have:=h.n;omega)
  have hw2:IntKind.i64.wrap (IntKind.i64.wrap (r.qG+1) - 1)=r.qG:=by rw[hw,wr (by have:=h.lo;omega) (by have:=h.hi;have:=h.n;omega)];omega
  rw[hw2]
  have:=h.lo
  (repeat' (first | (with_reducible first | refine bI.bN ?_ | refine bI.ite (fun _=>?_) (fun _=>?_) | refine bI.cD ?_) | with_reducible refine bI.bW (by (first | rfl | assumption | omega | (simp [cS,room,cW,eX] at *;omega))) ?_ | (with_reducible first | refine bI.ret ?_ | refine sE.l ?_ | refine sE.r ?_) | (refine (And.intro (a:=IntKind.i64.wrap _=_) (wrap64 (by omega) (by omega)) ?_))))
  exact ⟨h2,by dsimp only;omega⟩
theorem c5 {K:Nat} {r:cB} {s:Bytes} (h:Rd r):dA (F73 K r s) (fun v=>(v=true∧0<mu r)∨v=false) :=
 (aLw h).aAK fun v hv=>by cases v with
  | false=>exact .inr rfl
  | true=>exact .inl ⟨rfl,zH (hv rfl).1⟩
theorem c7 {K:Nat} {r:cB} {k:Int} (h:Rd r):dA (vE K r k) (fun v=>(v=true∧0<mu r)∨v=false) :=
 (aEr h).aAK fun v hv=>by cases v with
  | false=>exact .inr rfl
  | true=>exact .inl ⟨rfl,zH (hv rfl).1⟩
theorem bI.gL {α R:Type} {d:R} {m:Option R} {f:R→Option α} {Q:α→Prop} {b:Bool} (hb:b=false) (hf:bI (f d) Q):bI ((cH b m d).bind f) Q:=by
 subst hb;exact hf
theorem rF {K:Nat} {r:cB} (h:Rd r):dA (aEQ K r) (fun v=>Rd v.2∧mu v.2≤mu r - 1):=by
 refine dA.of ?_
 unfold aEQ
 (repeat' (first | with_reducible refine bI.eR (by decide) ?_ | with_reducible refine bI.eQ (by decide) ?_ | (with_reducible refine bI.call (eD (by assumption)) ?_;rintro ⟨_,_⟩ h;dsimp only at h;rcases h with (⟨rfl,_,_⟩ | ⟨rfl,rfl⟩) <;> try dsimp only) | (with_reducible refine bI.call (tU (by assumption)) ?_;rintro ⟨_,_⟩ ⟨_,_⟩;try dsimp only at *) | (with_reducible first | refine bI.ite (fun _=>?_) (fun _=>?_) | refine bI.ret ?_ | refine sE.l ?_ | refine sE.r ?_)))
 all_goals exact ⟨by assumption,by dsimp only;omega⟩
theorem aQb {K:Nat} {r:cB} (hK:100<K) (h:Rd r):dA (aO5 K r) (fun v=>Rd v.2∧mu v.2≤mu r):=by
 refine dA.of ?_
 unfold aO5
 (repeat' (first | (with_reducible first | refine bI.bN ?_ | refine bI.bL ?_ | refine bI.bJ ?_ | refine bI.dK ?_) | with_reducible refine bI.eR (by decide) ?_ | with_reducible refine bI.eQ (by decide) ?_ | (with_reducible refine bI.call (eD (by assumption)) ?_;rintro ⟨_,_⟩ h;dsimp only at h;rcases h with (⟨rfl,_,_⟩ | ⟨rfl,rfl⟩) <;> try dsimp only) | (with_reducible first | refine bI.ite (fun _=>?_) (fun _=>?_) | refine bI.cD ?_) | with_reducible refine bI.bW (by (first | rfl | assumption | omega | (simp [cS,room,cW,eX] at *;omega))) ?_ | (with_reducible first | refine bI.ret ?_ | refine sE.l ?_ | refine sE.r ?_)))
 refine bI.loop (fun t:cB × Int=>t.1=r∧0≤t.2∧t.2≤8) (fun t=>(8 - t.2).toNat) ⟨rfl,by simp,by simp⟩ (by simp;omega) ?_
 rintro ⟨q,t⟩ ⟨rfl,h1,h2⟩
 dsimp only at h h1 h2 ⊢
 (simp (disch:=omega) only[wr,Int.ofNat_eq_natCast])
 (repeat' (first | (with_reducible first | refine bI.bN ?_ | refine bI.bL ?_ | refine bI.bJ ?_ | refine bI.dK ?_) | with_reducible refine bI.eR (by decide) ?_ | with_reducible refine bI.eQ (by decide) ?_ | (with_reducible refine bI.call (eD (by assumption)) ?_;rintro ⟨_,_⟩ h;dsimp only at h;rcases h with (⟨rfl,_,_⟩ | ⟨rfl,rfl⟩) <;> try dsimp only) | (with_reducible first | refine bI.ite (fun _=>?_) (fun _=>?_) | refine bI.cD ?_) | with_reducible refine bI.bW (by (first | rfl | assumption | omega | (simp [cS,room,cW,eX] at *;omega))) ?_ | (with_reducible first | refine bI.ret ?_ | refine sE.l ?_ | refine sE.r ?_)))
 ·exact ⟨by assumption,by dsimp only;omega⟩
 ·rename_i x
  simp only[List.length_cons,List.length_nil,aB] at x
  exact ⟨⟨rfl,by dsimp only;omega,by dsimp only;omega⟩,by dsimp only;omega⟩
 ·exact ⟨h,aQ _⟩
theorem aIa {K:Nat} {r:cB} (hK:100<K) (h:Rd r):dA (aO9 K r) (fun v=>(v.1=0∧v.2=r)∨(v.1≠0∧Rd v.2∧mu v.2+1≤mu r)):=by
 refine dA.of ?_
 unfold aO9
 (repeat' (first | (with_reducible first | refine bI.bN ?_ | refine bI.bL ?_ | refine bI.bJ ?_ | refine bI.dK ?_) | with_reducible refine bI.eR (by decide) ?_ | with_reducible refine bI.eQ (by decide) ?_ | (with_reducible refine bI.call (eD (by assumption)) ?_;rintro ⟨_,_⟩ h;dsimp only at h;rcases h with (⟨rfl,_,_⟩ | ⟨rfl,rfl⟩) <;> try dsimp only) | (with_reducible first | refine bI.ite (fun _=>?_) (fun _=>?_) | refine bI.cD ?_) | with_reducible refine bI.bW (by (first | rfl | assumption | omega | (simp [cS,room,cW,eX] at *;omega))) ?_ | (with_reducible first | refine bI.ret ?_ | refine sE.l ?_ | refine sE.r ?_)))
 refine bI.loop (fun t:cB × Int=>t.1=r∧1≤t.2∧t.2≤15) (fun t=>(15 - t.2).toNat) ⟨rfl,by simp,by simp⟩ (by simp;omega) ?_
 rintro ⟨q,t⟩ ⟨rfl,h1,h2⟩
 dsimp only at h h1 h2 ⊢
 (simp (disch:=omega) only[wr,Int.ofNat_eq_natCast])
 (repeat' (first | (with_reducible first | refine bI.bN ?_ | refine bI.bL ?_ | refine bI.bJ ?_ | refine bI.dK ?_) | with_reducible refine bI.eR (by decide) ?_ | with_reducible refine bI.eQ (by decide) ?_ | (with_reducible refine bI.call (eD (by assumption)) ?_;rintro ⟨_,_⟩ h;dsimp only at h;rcases h with (⟨rfl,_,_⟩ | ⟨rfl,rfl⟩) <;> try dsimp only) | (with_reducible first | refine bI.ite (fun _=>?_) (fun _=>?_) | refine bI.cD ?_) | with_reducible refine bI.bW (by (first | rfl | assumption | omega | (simp [cS,room,cW,eX] at *;omega))) ?_ | (with_reducible first | refine bI.ret ?_ | refine sE.l ?_ | refine sE.r ?_)))
 ·exact .inr ⟨by dsimp only;omega,by assumption,by dsimp only;omega⟩
 ·rename_i x
  simp only[List.length_cons,List.length_nil,aB] at x
  exact ⟨⟨rfl,by dsimp only;omega,by dsimp only;omega⟩,by dsimp only;omega⟩
 ·exact .inl ⟨rfl,rfl⟩
theorem aCS {K:Nat} {r:cB} (hK:100<K) (h:Rd r):dA (aMx K r) (fun v=>(v=true∧0<mu r)∨v=false):=by
 refine dA.of ?_
 unfold aMx
 (repeat' (first | (with_reducible first | refine bI.bN ?_ | refine bI.bL ?_ | refine bI.bJ ?_ | refine bI.dK ?_) | with_reducible refine bI.eR (by decide) ?_ | with_reducible refine bI.eQ (by decide) ?_ | ((with_reducible first | refine bI.call (c7 (by assumption)) ?_ | refine bI.call (c5 (by assumption)) ?_ | refine bI.cX (by decide) (c7 (by assumption)) ?_ | refine bI.cX (by decide) (c5 (by assumption)) ?_);rintro _ (⟨rfl,_⟩ | rfl)) | (with_reducible first | refine bI.ite (fun _=>?_) (fun _=>?_) | refine bI.cD ?_) | with_reducible refine bI.bW (by (first | rfl | assumption | omega | (simp [cS,room,cW,eX] at *;omega))) ?_ | (with_reducible first | refine bI.ret ?_ | refine sE.l ?_ | refine sE.r ?_)))
 refine bI.loop (fun t:Int=>0≤t∧t≤9) (fun t=>(9 - t).toNat) ⟨by simp,by simp⟩ (by simp;omega) ?_
 rintro t ⟨h1,h2⟩
 (simp (disch:=omega) only[wr,Int.ofNat_eq_natCast])
 (repeat' (first | (with_reducible first | refine bI.bN ?_ | refine bI.bL ?_ | refine bI.bJ ?_ | refine bI.dK ?_) | with_reducible refine bI.eR (by decide) ?_ | with_reducible refine bI.eQ (by decide) ?_ | ((with_reducible first | refine bI.call (c7 (by assumption)) ?_ | refine bI.call (c5 (by assumption)) ?_ | refine bI.cX (by decide) (c7 (by assumption)) ?_ | refine bI.cX (by decide) (c5 (by assumption)) ?_);rintro _ (⟨rfl,_⟩ | rfl)) | (with_reducible first | refine bI.ite (fun _=>?_) (fun _=>?_) | refine bI.cD ?_) | with_reducible refine bI.bW (by (first | rfl | assumption | omega | (simp [cS,room,cW,eX] at *;omega))) ?_ | (with_reducible first | refine bI.ret ?_ | refine sE.l ?_ | refine sE.r ?_)))
 ·exact .inl ⟨rfl,by assumption⟩
 ·rename_i x
  simp only[List.length_cons,List.length_nil,aB] at x
  exact ⟨⟨by omega,by omega⟩,by omega⟩
 ·exact .inl ⟨rfl,by assumption⟩
 ·exact .inr rfl
theorem xN {K:Nat} {r:cB} (hK:100<K) (h:Rd r):dA (aJk K r) (fun v=>(v=true∧0<mu r)∨v=false):=by
 refine dA.of ?_
 unfold aJk
 (repeat' (first | (with_reducible first | refine bI.bN ?_ | refine bI.bL ?_ | refine bI.bJ ?_ | refine bI.dK ?_) | with_reducible refine bI.eR (by decide) ?_ | with_reducible refine bI.eQ (by decide) ?_ | ((with_reducible first | refine bI.call (c7 (by assumption)) ?_ | refine bI.call (c5 (by assumption)) ?_ | refine bI.cX (by decide) (c7 (by assumption)) ?_ | refine bI.cX (by decide) (c5 (by assumption)) ?_);rintro _ (⟨rfl,_⟩ | rfl)) | with_reducible refine bI.gL (by decide) ?_ | (with_reducible first | refine bI.ite (fun _=>?_) (fun _=>?_) | refine bI.cD ?_) | with_reducible refine bI.bW (by (first | rfl | assumption | omega | (simp [cS,room,cW,eX] at *;omega))) ?_ | (with_reducible first | refine bI.ret ?_ | refine sE.l ?_ | refine sE.r ?_)))
 ·exact .inl ⟨rfl,by assumption⟩
 ·exact .inl ⟨rfl,by assumption⟩
 refine bI.loop (fun t:Int=>0≤t∧t≤12) (fun t=>(12 - t).toNat) ⟨by simp,by simp⟩ (by simp;omega) ?_
 rintro t ⟨h1,h2⟩
 (simp (disch:=omega) only[wr,Int.ofNat_eq_natCast])
 (repeat' (first | (with_reducible first | refine bI.bN ?_ | refine bI.bL ?_ | refine bI.bJ ?_ | refine bI.dK ?_) | with_reducible refine bI.eR (by decide) ?_ | with_reducible refine bI.eQ (by decide) ?_ | ((with_reducible first | refine bI.call (c7 (by assumption)) ?_ | refine bI.call (c5 (by assumption)) ?_ | refine bI.cX (by decide) (c7 (by assumption)) ?_ | refine bI.cX (by decide) (c5 (by assumption)) ?_);rintro _ (⟨rfl,_⟩ | rfl)) | with_reducible refine bI.gL (by decide) ?_ | (with_reducible first | refine bI.ite (fun _=>?_) (fun _=>?_) | refine bI.cD ?_) | with_reducible refine bI.bW (by (first | rfl | assumption | omega | (simp [cS,room,cW,eX] at *;omega))) ?_ | (with_reducible first | refine bI.ret ?_ | refine sE.l ?_ | refine sE.r ?_)))
 ·exact .inl ⟨rfl,by assumption⟩
 ·rename_i x
  simp only[List.length_cons,List.length_nil,aB] at x
  exact ⟨⟨by omega,by omega⟩,by omega⟩
 ·exact .inr rfl
theorem tV {K:Nat} {r:cB} (hK:100<K) (h:Rd r):dA (aJc K r) (fun v=>Rd v.2∧mu v.2≤mu r):=by
 refine dA.of ?_
 unfold aJc
 (repeat' (first | (with_reducible first | refine bI.bL ?_ | refine bI.bJ ?_) | with_reducible refine bI.eR (by decide) ?_ | with_reducible refine bI.eQ (by decide) ?_ | ((with_reducible first | refine bI.call (aQb (by omega) (by assumption)) ?_ | refine bI.call (rF (by assumption)) ?_ | refine bI.call (tU (by assumption)) ?_ | refine bI.call (fO (by assumption)) ?_);rintro ⟨_,_⟩ ⟨_,_⟩;try dsimp only at *) | ((with_reducible first | refine bI.call (c7 (by assumption)) ?_ | refine bI.cX (by decide) (c7 (by assumption)) ?_);rintro _ (⟨rfl,_⟩ | rfl)) | (with_reducible refine bI.call (eD (by assumption)) ?_;rintro ⟨_,_⟩ h;dsimp only at h;rcases h with (⟨rfl,_,_⟩ | ⟨rfl,rfl⟩) <;> try dsimp only) | ((with_reducible first | refine bI.call (eP (by assumption)) ?_ | refine bI.call (jW (by assumption) (by decide)) ?_);rintro _ h;(try dsimp only at h);obtain ⟨_,_⟩:=h;try dsimp only) | with_reducible refine bI.gL (by decide) ?_ | (with_reducible first | refine bI.ite (fun _=>?_) (fun _=>?_) | refine bI.ret ?_ | refine sE.l ?_ | refine sE.r ?_)))
 (all_goals first | trivial | (refine ⟨by assumption,?_⟩;dsimp only;omega) | (refine ⟨⟨by assumption,?_⟩,?_⟩ <;> dsimp only <;> omega) | (refine ⟨⟨by assumption,?_,?_⟩,?_⟩ <;> dsimp only <;> omega))
theorem oN {K:Nat} {r:cB} (hK:100<K) (h:Rd r):dA (aMv K r) (fun v=>Rd v.2∧mu v.2≤mu r):=by
 refine dA.of ?_
 unfold aMv
 (repeat' (first | with_reducible refine bI.eR (by decide) ?_ | with_reducible refine bI.eQ (by decide) ?_ | (with_reducible refine bI.call (tV (by omega) (by assumption)) ?_;rintro ⟨_,_⟩ ⟨_,_⟩;try dsimp only at *) | (with_reducible refine bI.call (eD (by assumption)) ?_;rintro ⟨_,_⟩ h;dsimp only at h;rcases h with (⟨rfl,_,_⟩ | ⟨rfl,rfl⟩) <;> try dsimp only) | (with_reducible first | refine bI.ite (fun _=>?_) (fun _=>?_) | refine bI.ret ?_ | refine sE.l ?_ | refine sE.r ?_)))
 (all_goals first | trivial | (refine ⟨by assumption,?_⟩;dsimp only;omega) | (refine ⟨⟨by assumption,?_⟩,?_⟩ <;> dsimp only <;> omega) | (refine ⟨⟨by assumption,?_,?_⟩,?_⟩ <;> dsimp only <;> omega))
theorem aQc {K:Nat} {r:cB} (h:Rd r):dA (aJj K r) (fun v=>Rd v.2∧mu v.2≤mu r - 1):=by
 refine dA.of ?_
 unfold aJj
 (repeat' (first | (with_reducible refine bI.call (fO (by assumption)) ?_;rintro ⟨_,_⟩ ⟨_,_⟩;try dsimp only at *) | (with_reducible refine bI.call (eP (by assumption)) ?_;rintro _ h;(try dsimp only at h);obtain ⟨_,_⟩:=h;try dsimp only) | (with_reducible first | refine bI.ret ?_ | refine sE.l ?_ | refine sE.r ?_)))
 (all_goals first | trivial | (refine ⟨by assumption,?_⟩;dsimp only;omega) | (refine ⟨⟨by assumption,?_⟩,?_⟩ <;> dsimp only <;> omega) | (refine ⟨⟨by assumption,?_,?_⟩,?_⟩ <;> dsimp only <;> omega))
end Go.Proofs.YtdbfbedholdjaaaGreat

namespace Go.Proofs.YtdbfbedholdjaaaGreat
open Go Go.Dl
variable [dW]
set_option maxRecDepth 100000
set_option maxHeartbeats 8000000
theorem cL.aQd (x:cL):x.sz=1+cL.jC x.fY:=by cases x;rw[cL.sz]
theorem cJ.aQd (x:cJ):x.sz=1+cL.jC x.cT+rB x.eL+cJ.lQ x.bY:=by cases x;rw[cJ.sz]
theorem Tq {p:Prop} (h:p:=by first | trivial | (refine ⟨by assumption,?_⟩;(((try simp only[aE,List.length_cons,List.length_nil,cL.sz,cL.jC,oD,cJ.sz,cJ.jC,cJ.lQ,w5,sJ,rB,tT,hU.sz,zM,xM,jG.sz,dsz,uS]);(try dsimp only);omega))) | (refine ⟨⟨by assumption,?_⟩,?_⟩ <;> (((try simp only[aE,List.length_cons,List.length_nil,cL.sz,cL.jC,oD,cJ.sz,cJ.jC,cJ.lQ,w5,sJ,rB,tT,hU.sz,zM,xM,jG.sz,dsz,uS]);(try dsimp only);omega))) | (refine ⟨⟨by assumption,?_,?_⟩,?_⟩ <;> (((try simp only[aE,List.length_cons,List.length_nil,cL.sz,cL.jC,oD,cJ.sz,cJ.jC,cJ.lQ,w5,sJ,rB,tT,hU.sz,zM,xM,jG.sz,dsz,uS]);(try dsimp only);omega))) | (refine ⟨by assumption,?_⟩;dsimp only;simp only[cL.aQd,cJ.aQd] at *;omega) | (exfalso;simp only[beq_iff_eq] at *;omega)):p:=h
theorem oO {K:Nat} {r:cB} (hK:100000<K) (h:Rd r):dA (aMu K r) (fun v=>Rd v.2∧v.1.length+mu v.2≤mu r):=by
 have hm:=nJ h
 refine dA.of ?_
 unfold aMu
 (repeat' (first | (with_reducible first | refine bI.bL ?_ | refine bI.bJ ?_ | refine bI.dK ?_) | with_reducible refine bI.eR (by decide) ?_ | with_reducible refine bI.eQ (by decide) ?_ | ((with_reducible first | refine bI.call (tV (by omega) (by assumption)) ?_ | refine bI.call (fO (by assumption)) ?_);rintro ⟨_,_⟩ ⟨_,_⟩;try dsimp only at *) | ((with_reducible first | refine bI.call (c7 (by assumption)) ?_ | refine bI.cX (by decide) (c7 (by assumption)) ?_);rintro _ (⟨rfl,_⟩ | rfl)) | (with_reducible refine bI.call (eD (by assumption)) ?_;rintro ⟨_,_⟩ h;dsimp only at h;rcases h with (⟨rfl,_,_⟩ | ⟨rfl,rfl⟩) <;> try dsimp only) | ((with_reducible first | refine bI.call (eP (by assumption)) ?_ | refine bI.call (e8 (by assumption)) ?_);rintro _ h;(try dsimp only at h);obtain ⟨_,_⟩:=h;try dsimp only) | with_reducible refine bI.gL (by decide) ?_ | (with_reducible first | refine bI.ite (fun _=>?_) (fun _=>?_) | refine bI.cD ?_) | with_reducible refine bI.bW (by (first | rfl | assumption | omega | (simp [cS,room,cW,eX] at *;omega))) ?_ | (with_reducible first | refine bI.ret ?_ | refine sE.l ?_ | refine sE.r ?_)))
 ·exact ⟨by assumption,by simp;omega⟩
 ·rename_i r1 h1 h2
  refine bI.loop (fun t:cB × List fE=>Rd t.1∧t.2.length+mu t.1≤mu r1) (fun t=>mu t.1) ⟨h1,by simp⟩ (by simp;omega) ?_
  rintro ⟨q,l⟩ ⟨g1,g2⟩
  dsimp only at g1 g2 ⊢
  refine bI.ite (fun e=>?_) (fun e=>?_)
  ·have hp:=zH (by simpa using e)
   (repeat' (first | (with_reducible first | refine bI.bL ?_ | refine bI.bJ ?_ | refine bI.dK ?_) | with_reducible refine bI.eR (by decide) ?_ | with_reducible refine bI.eQ (by decide) ?_ | ((with_reducible first | refine bI.call (tV (by omega) (by assumption)) ?_ | refine bI.call (fO (by assumption)) ?_);rintro ⟨_,_⟩ ⟨_,_⟩;try dsimp only at *) | ((with_reducible first | refine bI.call (c7 (by assumption)) ?_ | refine bI.cX (by decide) (c7 (by assumption)) ?_);rintro _ (⟨rfl,_⟩ | rfl)) | (with_reducible refine bI.call (eD (by assumption)) ?_;rintro ⟨_,_⟩ h;dsimp only at h;rcases h with (⟨rfl,_,_⟩ | ⟨rfl,rfl⟩) <;> try dsimp only) | ((with_reducible first | refine bI.call (eP (by assumption)) ?_ | refine bI.call (e8 (by assumption)) ?_);rintro _ h;(try dsimp only at h);obtain ⟨_,_⟩:=h;try dsimp only) | with_reducible refine bI.gL (by decide) ?_ | (with_reducible first | refine bI.ite (fun _=>?_) (fun _=>?_) | refine bI.cD ?_) | with_reducible refine bI.bW (by (first | rfl | assumption | omega | (simp [cS,room,cW,eX] at *;omega))) ?_ | (with_reducible first | refine bI.ret ?_ | refine sE.l ?_ | refine sE.r ?_)))
   (all_goals exact Tq)
  ·(repeat' (first | (with_reducible first | refine bI.bL ?_ | refine bI.bJ ?_ | refine bI.dK ?_) | with_reducible refine bI.eR (by decide) ?_ | with_reducible refine bI.eQ (by decide) ?_ | ((with_reducible first | refine bI.call (tV (by omega) (by assumption)) ?_ | refine bI.call (fO (by assumption)) ?_);rintro ⟨_,_⟩ ⟨_,_⟩;try dsimp only at *) | ((with_reducible first | refine bI.call (c7 (by assumption)) ?_ | refine bI.cX (by decide) (c7 (by assumption)) ?_);rintro _ (⟨rfl,_⟩ | rfl)) | (with_reducible refine bI.call (eD (by assumption)) ?_;rintro ⟨_,_⟩ h;dsimp only at h;rcases h with (⟨rfl,_,_⟩ | ⟨rfl,rfl⟩) <;> try dsimp only) | ((with_reducible first | refine bI.call (eP (by assumption)) ?_ | refine bI.call (e8 (by assumption)) ?_);rintro _ h;(try dsimp only at h);obtain ⟨_,_⟩:=h;try dsimp only) | with_reducible refine bI.gL (by decide) ?_ | (with_reducible first | refine bI.ite (fun _=>?_) (fun _=>?_) | refine bI.cD ?_) | with_reducible refine bI.bW (by (first | rfl | assumption | omega | (simp [cS,room,cW,eX] at *;omega))) ?_ | (with_reducible first | refine bI.ret ?_ | refine sE.l ?_ | refine sE.r ?_)))
   (all_goals exact Tq)
theorem oP {K:Nat} {r:cB} (hK:100000<K) (h:Rd r):dA (aJg K r) (fun v=>Rd v.2∧v.1.length+mu v.2≤mu r):=by
 have hm:=nJ h
 refine dA.of ?_
 unfold aJg
 (repeat' (first | (with_reducible first | refine bI.bL ?_ | refine bI.bJ ?_ | refine bI.dK ?_) | with_reducible refine bI.eR (by decide) ?_ | with_reducible refine bI.eQ (by decide) ?_ | ((with_reducible first | refine bI.call (tV (by omega) (by assumption)) ?_ | refine bI.call (rF (by assumption)) ?_ | refine bI.call (tU (by assumption)) ?_ | refine bI.call (fO (by assumption)) ?_);rintro ⟨_,_⟩ ⟨_,_⟩;try dsimp only at *) | ((with_reducible first | refine bI.call (c5 (by assumption)) ?_ | refine bI.cX (by decide) (c5 (by assumption)) ?_);rintro _ (⟨rfl,_⟩ | rfl)) | (with_reducible refine bI.call (eD (by assumption)) ?_;rintro ⟨_,_⟩ h;dsimp only at h;rcases h with (⟨rfl,_,_⟩ | ⟨rfl,rfl⟩) <;> try dsimp only) | ((with_reducible first | refine bI.call (eP (by assumption)) ?_ | refine bI.call (e8 (by assumption)) ?_);rintro _ h;(try dsimp only at h);obtain ⟨_,_⟩:=h;try dsimp only) | with_reducible refine bI.gL (by decide) ?_ | (with_reducible first | refine bI.ite (fun _=>?_) (fun _=>?_) | refine bI.cD ?_) | with_reducible refine bI.bW (by (first | rfl | assumption | omega | (simp [cS,room,cW,eX] at *;omega))) ?_ | (with_reducible first | refine bI.ret ?_ | refine sE.l ?_ | refine sE.r ?_)))
 refine bI.loop (fun t:cB × List fE=>Rd t.1∧t.2.length+mu t.1≤mu r) (fun t=>mu t.1) ⟨h,by simp⟩ (by simp;omega) ?_
 rintro ⟨q,l⟩ ⟨g1,g2⟩
 dsimp only at g1 g2 ⊢
 (repeat' (first | (with_reducible first | refine bI.bL ?_ | refine bI.bJ ?_ | refine bI.dK ?_) | with_reducible refine bI.eR (by decide) ?_ | with_reducible refine bI.eQ (by decide) ?_ | ((with_reducible first | refine bI.call (tV (by omega) (by assumption)) ?_ | refine bI.call (rF (by assumption)) ?_ | refine bI.call (tU (by assumption)) ?_ | refine bI.call (fO (by assumption)) ?_);rintro ⟨_,_⟩ ⟨_,_⟩;try dsimp only at *) | ((with_reducible first | refine bI.call (c5 (by assumption)) ?_ | refine bI.cX (by decide) (c5 (by assumption)) ?_);rintro _ (⟨rfl,_⟩ | rfl)) | (with_reducible refine bI.call (eD (by assumption)) ?_;rintro ⟨_,_⟩ h;dsimp only at h;rcases h with (⟨rfl,_,_⟩ | ⟨rfl,rfl⟩) <;> try dsimp only) | ((with_reducible first | refine bI.call (eP (by assumption)) ?_ | refine bI.call (e8 (by assumption)) ?_);rintro _ h;(try dsimp only at h);obtain ⟨_,_⟩:=h;try dsimp only) | with_reducible refine bI.gL (by decide) ?_ | (with_reducible first | refine bI.ite (fun _=>?_) (fun _=>?_) | refine bI.cD ?_) | with_reducible refine bI.bW (by (first | rfl | assumption | omega | (simp [cS,room,cW,eX] at *;omega))) ?_ | (with_reducible first | refine bI.ret ?_ | refine sE.l ?_ | refine sE.r ?_)))
 (all_goals exact Tq)
theorem aQe {K:Nat} {r:cB} (hK:100000<K) (h:Rd r):dA (aO8 K r) (fun v=>Rd v.2∧(v.1.sz+4 * mu v.2≤4 * mu r+1∧v.1.bP=1)):=by
 have hm:=nJ h
 refine dA.of ?_
 unfold aO8
 (repeat' (first | (with_reducible first | refine bI.bL ?_ | refine bI.bJ ?_ | refine bI.dK ?_) | with_reducible refine bI.eR (by decide) ?_ | with_reducible refine bI.eQ (by decide) ?_ | ((with_reducible first | refine bI.call (oO (by omega) (by assumption)) ?_ | refine bI.call (oN (by omega) (by assumption)) ?_ | refine bI.call (fO (by assumption)) ?_);rintro ⟨_,_⟩ ⟨_,_⟩;try dsimp only at *) | ((with_reducible first | refine bI.call (c5 (by assumption)) ?_ | refine bI.cX (by decide) (c5 (by assumption)) ?_);rintro _ (⟨rfl,_⟩ | rfl)) | ((with_reducible first | refine bI.call (eP (by assumption)) ?_ | refine bI.call (e8 (by assumption)) ?_);rintro _ h;(try dsimp only at h);obtain ⟨_,_⟩:=h;try dsimp only) | with_reducible refine bI.gL (by decide) ?_ | (with_reducible first | refine bI.ite (fun _=>?_) (fun _=>?_) | refine bI.cD ?_) | with_reducible refine bI.bW (by (first | rfl | assumption | omega | (simp [cS,room,cW,eX] at *;omega))) ?_ | (with_reducible first | refine bI.ret ?_ | refine sE.l ?_ | refine sE.r ?_)))
 rename_i x r1 h1 h2 r2 h3 h4
 refine bI.loop (fun t:cB × List hU=>Rd t.1∧t.2.length≤zM t.2∧zM t.2+4 * mu t.1≤4 * mu r2) (fun t=>mu t.1) ⟨h3,by simp [zM],by simp [zM]⟩ (by simp;omega) ?_
 rintro ⟨q,l⟩ ⟨g1,g2,g3⟩
 dsimp only at g1 g2 g3 ⊢
 (repeat' (first | (with_reducible first | refine bI.bL ?_ | refine bI.bJ ?_ | refine bI.dK ?_) | with_reducible refine bI.eR (by decide) ?_ | with_reducible refine bI.eQ (by decide) ?_ | ((with_reducible first | refine bI.call (oO (by omega) (by assumption)) ?_ | refine bI.call (oN (by omega) (by assumption)) ?_ | refine bI.call (fO (by assumption)) ?_);rintro ⟨_,_⟩ ⟨_,_⟩;try dsimp only at *) | ((with_reducible first | refine bI.call (c5 (by assumption)) ?_ | refine bI.cX (by decide) (c5 (by assumption)) ?_);rintro _ (⟨rfl,_⟩ | rfl)) | ((with_reducible first | refine bI.call (eP (by assumption)) ?_ | refine bI.call (e8 (by assumption)) ?_);rintro _ h;(try dsimp only at h);obtain ⟨_,_⟩:=h;try dsimp only) | with_reducible refine bI.gL (by decide) ?_ | (with_reducible first | refine bI.ite (fun _=>?_) (fun _=>?_) | refine bI.cD ?_) | with_reducible refine bI.bW (by (first | rfl | assumption | omega | (simp [cS,room,cW,eX] at *;omega))) ?_ | (with_reducible first | refine bI.ret ?_ | refine sE.l ?_ | refine sE.r ?_)))
 all_goals try (refine ⟨by assumption,?_,rfl⟩;(((try simp only[aE,List.length_cons,List.length_nil,cL.sz,cL.jC,oD,cJ.sz,cJ.jC,cJ.lQ,w5,sJ,rB,tT,hU.sz,zM,xM,jG.sz,dsz,uS]);(try dsimp only);omega)))
 (all_goals exact Tq)
abbrev PE (r:cB) (v:cL × cB):Prop:=Rd v.2∧1≤v.1.sz∧v.1.sz+2 * mu v.2≤2 * mu r+1
theorem aJM:∀ k:Nat,(∀ (r:cB) (d:Int),Rd r→3 * mu r+100001<k→dA (qX k r d) (PE r))∧(∀ (r:cB) (e:cL) (d:Int),Rd r→3 * mu r+100002<k→dA (aBo k r e d) (PE r)) ∧
 (∀ (r:cB) (d:Int),Rd r→3 * mu r+100000<k→dA (aGf k r d) (PE r))
 | 0=>⟨fun _ _ _ h=>by omega,fun _ _ _ _ h=>by omega,fun _ _ _ h=>by omega⟩
 | k+1=>by
   obtain ⟨ihE,ihI,ihO⟩:=aJM k
   refine ⟨fun r d h hk=>?_,fun r e d h hk=>?_,fun r d h hk=>?_⟩
   ·have hm:=nJ h
    refine dA.of ?_
    unfold qX
    by_cases hd:d > 6
    ·simp only[hd,decide_true,Bool.true_and]
     (repeat' (first | with_reducible refine bI.bL ?_ | with_reducible refine bI.eR (by decide) ?_ | with_reducible refine bI.eQ (by decide) ?_ | (with_reducible refine bI.call (ihO _ _ (by assumption) (by omega)) ?_;rintro ⟨_,_⟩ ⟨_,_⟩;try dsimp only at *) | (with_reducible refine bI.cX (by decide) (xN (by omega) (by assumption)) ?_;rintro _ (⟨rfl,_⟩ | rfl)) | (with_reducible refine bI.call (aIa (by omega) (by assumption)) ?_;rintro ⟨_,_⟩ h;dsimp only at h;rcases h with (⟨_,rfl⟩ | ⟨_,_,_⟩) <;> try dsimp only) | (with_reducible refine bI.call (eD (by assumption)) ?_;rintro ⟨_,_⟩ h;dsimp only at h;rcases h with (⟨rfl,_,_⟩ | ⟨rfl,rfl⟩) <;> try dsimp only) | (with_reducible refine bI.call (jW (by assumption) (by decide)) ?_;rintro _ h;(try dsimp only at h);obtain ⟨_,_⟩:=h;try dsimp only) | with_reducible refine bI.gL (by decide) ?_ | (with_reducible first | refine bI.ite (fun _=>?_) (fun _=>?_) | refine bI.ret ?_ | refine sE.l ?_ | refine sE.r ?_)))
     (all_goals exact Tq)
    ·simp only[hd,decide_false,Bool.false_and]
     (repeat' (first | with_reducible refine bI.bL ?_ | with_reducible refine bI.eR (by decide) ?_ | with_reducible refine bI.eQ (by decide) ?_ | (with_reducible refine bI.call (ihO _ _ (by assumption) (by omega)) ?_;rintro ⟨_,_⟩ ⟨_,_⟩;try dsimp only at *) | (with_reducible refine bI.cX (by decide) (xN (by omega) (by assumption)) ?_;rintro _ (⟨rfl,_⟩ | rfl)) | (with_reducible refine bI.call (aIa (by omega) (by assumption)) ?_;rintro ⟨_,_⟩ h;dsimp only at h;rcases h with (⟨_,rfl⟩ | ⟨_,_,_⟩) <;> try dsimp only) | (with_reducible refine bI.call (eD (by assumption)) ?_;rintro ⟨_,_⟩ h;dsimp only at h;rcases h with (⟨rfl,_,_⟩ | ⟨rfl,rfl⟩) <;> try dsimp only) | (with_reducible refine bI.call (jW (by assumption) (by decide)) ?_;rintro _ h;(try dsimp only at h);obtain ⟨_,_⟩:=h;try dsimp only) | with_reducible refine bI.gL (by decide) ?_ | (with_reducible first | refine bI.ite (fun _=>?_) (fun _=>?_) | refine bI.ret ?_ | refine sE.l ?_ | refine sE.r ?_)))
     (all_goals exact Tq)
   ·have hm:=nJ h
    refine dA.of ?_
    unfold aBo
    (repeat' (first | (with_reducible first | refine bI.bL ?_ | refine bI.bJ ?_ | refine bI.dK ?_) | with_reducible refine bI.eR (by decide) ?_ | with_reducible refine bI.eQ (by decide) ?_ | ((with_reducible first | refine bI.call (ihE _ _ (by assumption) (by omega)) ?_ | refine bI.call (fO (by assumption)) ?_);rintro ⟨_,_⟩ ⟨_,_⟩;try dsimp only at *) | (with_reducible refine bI.cX (by decide) (xN (by omega) (by assumption)) ?_;rintro _ (⟨rfl,_⟩ | rfl)) | (with_reducible refine bI.call (eD (by assumption)) ?_;rintro ⟨_,_⟩ h;dsimp only at h;rcases h with (⟨rfl,_,_⟩ | ⟨rfl,rfl⟩) <;> try dsimp only) | ((with_reducible first | refine bI.call (eP (by assumption)) ?_ | refine bI.call (e8 (by assumption)) ?_);rintro _ h;(try dsimp only at h);obtain ⟨_,_⟩:=h;try dsimp only) | with_reducible refine bI.gL (by decide) ?_ | (with_reducible first | refine bI.ite (fun _=>?_) (fun _=>?_) | refine bI.cD ?_) | with_reducible refine bI.bW (by (first | rfl | assumption | omega | (simp [cS,room,cW,eX] at *;omega))) ?_ | (with_reducible first | refine bI.ret ?_ | refine sE.l ?_ | refine sE.r ?_)))
    ·(all_goals exact Tq)
    ·rename_i x r2 h3 h4 r3 h5 h6
     refine bI.loop (fun t:cB × List cL=>Rd t.1∧t.2.length≤cL.jC t.2∧cL.jC t.2+2 * mu t.1≤2 * mu r3) (fun t=>mu t.1) ⟨h5,by simp,by simp [cL.jC]⟩ (by simp;omega) ?_
     rintro ⟨q,l⟩ ⟨g1,g2,g3⟩
     dsimp only at g1 g2 g3 ⊢
     refine bI.ite (fun e=>?_) (fun e=>?_)
     ·have hp:=zH (by simpa using e)
      (repeat' (first | (with_reducible first | refine bI.bL ?_ | refine bI.bJ ?_ | refine bI.dK ?_) | with_reducible refine bI.eR (by decide) ?_ | with_reducible refine bI.eQ (by decide) ?_ | ((with_reducible first | refine bI.call (ihE _ _ (by assumption) (by omega)) ?_ | refine bI.call (fO (by assumption)) ?_);rintro ⟨_,_⟩ ⟨_,_⟩;try dsimp only at *) | (with_reducible refine bI.cX (by decide) (xN (by omega) (by assumption)) ?_;rintro _ (⟨rfl,_⟩ | rfl)) | (with_reducible refine bI.call (eD (by assumption)) ?_;rintro ⟨_,_⟩ h;dsimp only at h;rcases h with (⟨rfl,_,_⟩ | ⟨rfl,rfl⟩) <;> try dsimp only) | ((with_reducible first | refine bI.call (eP (by assumption)) ?_ | refine bI.call (e8 (by assumption)) ?_);rintro _ h;(try dsimp only at h);obtain ⟨_,_⟩:=h;try dsimp only) | with_reducible refine bI.gL (by decide) ?_ | (with_reducible first | refine bI.ite (fun _=>?_) (fun _=>?_) | refine bI.cD ?_) | with_reducible refine bI.bW (by (first | rfl | assumption | omega | (simp [cS,room,cW,eX] at *;omega))) ?_ | (with_reducible first | refine bI.ret ?_ | refine sE.l ?_ | refine sE.r ?_)))
      (all_goals exact Tq)
     ·(repeat' (first | (with_reducible first | refine bI.bL ?_ | refine bI.bJ ?_ | refine bI.dK ?_) | with_reducible refine bI.eR (by decide) ?_ | with_reducible refine bI.eQ (by decide) ?_ | ((with_reducible first | refine bI.call (ihE _ _ (by assumption) (by omega)) ?_ | refine bI.call (fO (by assumption)) ?_);rintro ⟨_,_⟩ ⟨_,_⟩;try dsimp only at *) | (with_reducible refine bI.cX (by decide) (xN (by omega) (by assumption)) ?_;rintro _ (⟨rfl,_⟩ | rfl)) | (with_reducible refine bI.call (eD (by assumption)) ?_;rintro ⟨_,_⟩ h;dsimp only at h;rcases h with (⟨rfl,_,_⟩ | ⟨rfl,rfl⟩) <;> try dsimp only) | ((with_reducible first | refine bI.call (eP (by assumption)) ?_ | refine bI.call (e8 (by assumption)) ?_);rintro _ h;(try dsimp only at h);obtain ⟨_,_⟩:=h;try dsimp only) | with_reducible refine bI.gL (by decide) ?_ | (with_reducible first | refine bI.ite (fun _=>?_) (fun _=>?_) | refine bI.cD ?_) | with_reducible refine bI.bW (by (first | rfl | assumption | omega | (simp [cS,room,cW,eX] at *;omega))) ?_ | (with_reducible first | refine bI.ret ?_ | refine sE.l ?_ | refine sE.r ?_)))
      (all_goals exact Tq)
   ·have hm:=nJ h
    refine dA.of ?_
    unfold aGf
    (repeat' (first | (with_reducible first | refine bI.bL ?_ | refine bI.bJ ?_) | with_reducible refine bI.eR (by decide) ?_ | with_reducible refine bI.eQ (by decide) ?_ | ((with_reducible first | refine bI.call (ihI _ _ _ (by assumption) (by omega)) ?_ | refine bI.call (ihE _ _ (by assumption) (by omega)) ?_ | refine bI.call (aQc (by assumption)) ?_ | refine bI.call (tU (by assumption)) ?_ | refine bI.call (fO (by assumption)) ?_);rintro ⟨_,_⟩ ⟨_,_⟩;try dsimp only at *) | ((with_reducible first | refine bI.call (c7 (by assumption)) ?_ | refine bI.call (c5 (by assumption)) ?_ | refine bI.cX (by decide) (c7 (by assumption)) ?_ | refine bI.cX (by decide) (c5 (by assumption)) ?_);rintro _ (⟨rfl,_⟩ | rfl)) | (with_reducible refine bI.call (eD (by assumption)) ?_;rintro ⟨_,_⟩ h;dsimp only at h;rcases h with (⟨rfl,_,_⟩ | ⟨rfl,rfl⟩) <;> try dsimp only) | ((with_reducible first | refine bI.call (eP (by assumption)) ?_ | refine bI.call (jW (by assumption) (by decide)) ?_);rintro _ h;(try dsimp only at h);obtain ⟨_,_⟩:=h;try dsimp only) | with_reducible refine bI.gL (by decide) ?_ | (with_reducible first | refine bI.ite (fun _=>?_) (fun _=>?_) | refine bI.ret ?_ | refine sE.l ?_ | refine sE.r ?_)))
    (all_goals exact Tq)
theorem rG {K:Nat} {r:cB} {d:Int} (hK:200000<K) (h:Rd r):dA (qX K r d) (PE r):=(aJM K).1 r d h (by have:=nJ h;omega)
theorem aIb {K:Nat} {r:cB} {e:cL} {d:Int} (hK:200000<K) (h:Rd r):dA (aBo K r e d) (PE r):=(aJM K).2.1 r e d h (by have:=nJ h;omega)
theorem aQf {K:Nat} {r:cB} (hK:200000<K) (h:Rd r):dA (aPb K r) (fun v=>Rd v.2∧v.1.sz+4 * mu v.2≤4 * (mu r - 1)+4):=by
 have hm:=nJ h
 refine dA.of ?_
 unfold aPb
 (repeat' (first | (with_reducible first | refine bI.bL ?_ | refine bI.bJ ?_) | with_reducible refine bI.eR (by decide) ?_ | with_reducible refine bI.eQ (by decide) ?_ | ((with_reducible first | refine bI.call (aIb (by omega) (by assumption)) ?_ | refine bI.call (rG (by omega) (by assumption)) ?_ | refine bI.call (fO (by assumption)) ?_);rintro ⟨_,_⟩ ⟨_,_⟩;try dsimp only at *) | ((with_reducible first | refine bI.call (c5 (by assumption)) ?_ | refine bI.cX (by decide) (c5 (by assumption)) ?_);rintro _ (⟨rfl,_⟩ | rfl)) | (with_reducible refine bI.call (eD (by assumption)) ?_;rintro ⟨_,_⟩ h;dsimp only at h;rcases h with (⟨rfl,_,_⟩ | ⟨rfl,rfl⟩) <;> try dsimp only) | ((with_reducible first | refine bI.call (eP (by assumption)) ?_ | refine bI.call (jW (by assumption) (by decide)) ?_);rintro _ h;(try dsimp only at h);obtain ⟨_,_⟩:=h;try dsimp only) | with_reducible refine bI.gL (by decide) ?_ | (with_reducible first | refine bI.ite (fun _=>?_) (fun _=>?_) | refine bI.ret ?_ | refine sE.l ?_ | refine sE.r ?_)))
 (all_goals exact Tq)
end Go.Proofs.YtdbfbedholdjaaaGreat
