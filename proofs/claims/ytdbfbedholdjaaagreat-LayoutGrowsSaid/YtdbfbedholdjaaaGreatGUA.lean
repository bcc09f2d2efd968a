/- No conditions. -/
import Derived.Test.YtdbfbedholdjaaaGreatGTy
import Derived.Test.YtdbfbedholdjaaaGreatGDC
import Derived.Test.YtdbfbedholdjaaaGreatGLx
import Derived.Test.YtdbfbedholdjaaaGreatGLp
set_option linter.unusedVariables false
set_option linter.unusedSimpArgs false
set_option linter.unusedSectionVars false
namespace Go.Proofs.YtdbfbedholdjaaaGreat
open Go Go.Dl
variable [dK]
set_option maxRecDepth 100000
def bL {α:Type} (m:Option α) (Q:α→Prop):Prop:=∃ z,m=some z∧Q z
def sE {A T:Type} (p:A→Prop) (q:T→Prop):A ⊕ T→Prop
 | .inl a=>p a
 | .inr t=>q t
def cR {R:Type} (m:Option (R ⊕ R)) (Q:R→Prop):Prop:=∃ v,bV m=some v∧Q v
section
variable {A T U R X Y:Type}
theorem sE.l {p:A→Prop} {q:T→Prop} {a:A} (h:p a):sE p q (.inl a):=h
theorem sE.r {p:A→Prop} {q:T→Prop} {t:T} (h:q t):sE p q (.inr t):=h
theorem bL.ret {α:Type} {Q:α→Prop} {z:α} (h:Q z):bL (some z) Q:=⟨z,rfl,h⟩
theorem bL.yQ {α:Type} {m:Option α} {Q Q':α→Prop} (h:bL m Q) (hq:∀ z,Q z→Q' z):bL m Q':=by
 obtain ⟨z,h1,h2⟩:=h;exact ⟨z,h1,hq z h2⟩
theorem cR.yQ {m:Option (R ⊕ R)} {Q Q':R→Prop} (h:cR m Q) (hq:∀ z,Q z→Q' z):cR m Q':=by
 obtain ⟨z,h1,h2⟩:=h;exact ⟨z,h1,hq z h2⟩
theorem bL.bO {α:Type} {v:X} {f:X→Option α} {Q:α→Prop} (h:bL (f v) Q):bL (bO v f) Q:=h
theorem bL.ite {α:Type} {c:Prop} [Decidable c] {a b:Option α} {Q:α→Prop} (h1:c→bL a Q) (h2:¬ c→bL b Q):bL (if c then a else b) Q:=by
 split
 ·exact h1 ‹_›
 ·exact h2 ‹_›
theorem bL.dV {α:Type} {c:Prop} [Decidable c] {a b:Option α} {Q:α→Prop} (h:c) (h1:bL a Q):bL (if c then a else b) Q:=by rw[aH h];exact h1
theorem bL.dN {α:Type} {c:Prop} [Decidable c] {a b:Option α} {Q:α→Prop} (h:¬ c) (h1:bL b Q):bL (if c then a else b) Q:=by rw[aF h];exact h1
theorem bL.bX {α:Type} {m:Option α} {Q:α→Prop} (h:bL m Q):bL (bW [] m) Q:=h
theorem bL.bW {α:Type} {v:Bool} {vs:List Bool} {m:Option α} {Q:α→Prop} (hv:v=true) (h:bL (bW vs m) Q):bL (bW (v::vs) m) Q:=by
 unfold Go.Dl.bW;rw[aH hv];exact h
theorem bL.bP {m:Option (A ⊕ T)} {f:T→Option (A ⊕ U)} {p:A→Prop} {q:U→Prop} (h:bL m (sE p (fun t=>bL (f t) (sE p q)))):bL (bP m f) (sE p q):=by
 obtain ⟨z,rfl,h⟩:=h
 match z,h with
 | .inl a,h=>exact ⟨_,rfl,h⟩
 | .inr t,h=>exact h
theorem bL.bN {m:Option ((T ⊕ A) ⊕ T)} {p:A→Prop} {q:T→Prop} (h:bL m (sE (sE q p) q)):bL (bN m) (sE p q):=by
 obtain ⟨z,rfl,h⟩:=h
 match z,h with
 | .inl (.inl t),h=>exact ⟨_,rfl,h⟩
 | .inl (.inr a),h=>exact ⟨_,rfl,h⟩
 | .inr t,h=>exact ⟨_,rfl,h⟩
theorem bL.c7 {m:Option A} {p:A→Prop} {q:T→Prop} (h:bL m p):bL (m.map (Sum.inl:A→A ⊕ T)) (sE p q):=by
 obtain ⟨z,rfl,h⟩:=h;exact ⟨_,rfl,h⟩
theorem bL.bZ {m:Option (A ⊕ T)} {f:T→Option (A ⊕ U)} {p:A→Prop} {q:U→Prop} (I:T→Prop) (h:bL m (sE p I)) (hf:∀ t,I t→bL (f t) (sE p q)):bL (Go.Dl.bP m f) (sE p q):=by
 refine bL.bP (h.yQ ?_)
 rintro (a | t) h
 ·exact h
 ·exact hf t h
theorem bL.dI {m:Option (A ⊕ T)} {f:T→Option (A ⊕ U)} {p:A→Prop} {q:U→Prop} (h:bL m (sE p (fun _=>True))) (hf:∀ t,bL (f t) (sE p q)):bL (Go.Dl.bP m f) (sE p q):=by
 refine bL.bP (h.yQ ?_)
 rintro (a | t) h
 ·exact h
 ·exact hf t
theorem bL.call {α:Type} {m:Option (R ⊕ R)} {f:R→Option α} {Q:α→Prop} {P:R→Prop} (h:cR m P) (hf:∀ v,P v→bL (f v) Q):bL ((bV m).bind f) Q:=by
 obtain ⟨v,h1,h2⟩:=h
 rw[h1];exact hf v h2
theorem bL.dA {α:Type} {b:Bool} {d:R} {m:Option (R ⊕ R)} {f:R→Option α} {Q:α→Prop} {P:R→Prop} (h:b=true→cR m P) (hf:∀ v,(b=true→P v)→bL (f v) Q):bL ((cF b (bV m) d).bind f) Q:=by
 unfold cF
 by_cases hb:b=true
 ·rw[aH hb];exact bL.call (h hb) (fun v hv=>hf v fun _=>hv)
 ·rw[aF hb];exact hf d (fun h=>absurd h hb)
theorem cR.of {m:Option (R ⊕ R)} {Q:R→Prop} (h:bL m (sE Q Q)):cR m Q:=by
 obtain ⟨z,rfl,h⟩:=h
 match z,h with
 | .inl a,h=>exact ⟨_,rfl,h⟩
 | .inr a,h=>exact ⟨_,rfl,h⟩
theorem bL.loop {K:Nat} {f:T→Option (A ⊕ T)} {t0:T} {p:A→Prop} (I:T→Prop) (μ:T→Nat) (h0:I t0) (hK:μ t0<K) (hs:∀ t,I t→bL (f t) (sE p (fun t'=>I t'∧μ t'<μ t))):bL (iter K f t0) p:=by
 induction K generalizing t0 with
 | zero=>omega
 | succ K ih =>
   unfold iter
   obtain ⟨z,hz,h⟩:=hs t0 h0
   rw[hz]
   match z,h with
   | .inl a,h=>exact ⟨_,rfl,h⟩
   | .inr t,h=>exact ih h.1 (by have:=h.2;omega)
theorem bL.upP {K:Nat} {f:Int→Option (A ⊕ Int)} {p:A→Prop} (n:Nat) (P:Nat→Prop) (hK:n<K) (hs:∀ i:Nat,i<n→bL (f i) (sE p (fun t=>t=(i:Int)+1∧P i))) (he:(∀ i,i<n→P i)→bL (f n) (sE p (fun _=>False))):bL (iter K f 0) p:=by
 refine bL.loop (fun t=>∃ i:Nat,t=i∧i≤n∧∀ j,j<i→P j) (fun t=>n - t.toNat) ⟨0,rfl,by omega,by simp⟩ (by simpa using hK) ?_
 rintro t ⟨i,rfl,hi,hP⟩
 by_cases h:i=n
 ·subst h
  refine (he hP).yQ ?_
  rintro (a | t) h
  ·exact h
  ·exact h.elim
 ·refine (hs i (by omega)).yQ ?_
  rintro (a | t) h
  ·exact h
  ·obtain ⟨h1,h2⟩:=h
   subst h1
   refine ⟨⟨i+1,by omega,by omega,fun j hj=>?_⟩,?_⟩
   ·by_cases h:j=i
    ·subst h;exact h2
    ·exact hP j (by omega)
   ·omega
theorem bL.up {K:Nat} {f:Int→Option (A ⊕ Int)} {p:A→Prop} (n:Nat) (hK:n<K) (hs:∀ i:Nat,i<n→bL (f i) (sE p (fun t=>t=(i:Int)+1∧True))) (he:bL (f n) (sE p (fun _=>False))):bL (iter K f 0) p :=
 bL.upP n (fun _=>True) hK hs (fun _=>he)
theorem tQ {l:List X} {d:X} {P:X→Prop} (h:∀ i,i<l.length→P (l.getD i d)):∀ x∈l,P x:=by
 intro x hx
 obtain ⟨i,hi,rfl⟩:=List.getElem_of_mem hx
 have:=h i hi
 rwa [List.getD,aE hi] at this
end
theorem wr {x:Int} (h1 : -1000000000000000000≤x) (h2:x≤1000000000000000000):IntKind.i64.wrap x=x:=wrap64 (by omega) (by omega)
end Go.Proofs.YtdbfbedholdjaaaGreat

namespace Go.Proofs.YtdbfbedholdjaaaGreat
open Go Go.Dl
variable [dK]
set_option maxRecDepth 100000
theorem aHn {K:Nat} {a0 a1:Bytes} (hK:100000<K) (h0:a0.length≤10000) (h1:a1.length≤10000):cR (aLT K a0 a1) (fun _=>True):=by
 refine cR.of ?_
 unfold aLT
 (repeat' (first | (with_reducible first | refine bL.bO ?_ | refine bL.bP ?_ | refine bL.bN ?_ | refine bL.c7 ?_ | refine bL.ite (fun _=>?_) (fun _=>?_) | refine bL.bX ?_) | with_reducible refine bL.bW (by (first | rfl | assumption | omega | (simp [cY,room,c5,eW] at *;omega))) ?_ | (with_reducible first | refine bL.ret ?_ | refine sE.l ?_ | refine sE.r ?_) | (refine (And.intro (a:=IntKind.i64.wrap _=_) (wrap64 (by omega) (by omega)) ?_))))
 refine bL.loop (fun t:Int=>0≤t∧t≤a0.length+1) (fun t=>(a0.length+1 - t).toNat) ⟨by omega,by omega⟩ (by omega) (fun t ⟨h0,h1⟩=>?_)
 (simp (disch:=omega) only[wr,Int.ofNat_eq_natCast])
 (repeat' (first | (with_reducible first | refine bL.bO ?_ | refine bL.bP ?_ | refine bL.bN ?_ | refine bL.c7 ?_ | refine bL.ite (fun _=>?_) (fun _=>?_) | refine bL.bX ?_) | with_reducible refine bL.bW (by (first | rfl | assumption | omega | (simp [cY,room,c5,eW] at *;omega))) ?_ | (with_reducible first | refine bL.ret ?_ | refine sE.l ?_ | refine sE.r ?_) | (refine (And.intro (a:=IntKind.i64.wrap _=_) (wrap64 (by omega) (by omega)) ?_))))
 (all_goals (try (first | trivial | (intro h;cases h;done) | (first | rfl | assumption | omega | (simp [cY,room,c5,eW] at *;omega)))))
theorem aC2 {K:Nat} {a0:Bytes} {a1:Int} (hK:100000<K) (h0:a0.length≤10000) (h1:0≤a1) (h2:a1<a0.length):cR (aPr K a0 a1) (fun v=>v<0∨(a1<v∧v≤a0.length)):=by
 refine cR.of ?_
 unfold aPr
 (repeat' (first | (with_reducible first | refine bL.bO ?_ | refine bL.bP ?_ | refine bL.bN ?_ | refine bL.c7 ?_ | refine bL.ite (fun _=>?_) (fun _=>?_) | refine bL.bX ?_) | with_reducible refine bL.bW (by (first | rfl | assumption | omega | (simp [cY,room,c5,eW] at *;omega))) ?_ | (with_reducible first | refine bL.ret ?_ | refine sE.l ?_ | refine sE.r ?_) | (refine (And.intro (a:=IntKind.i64.wrap _=_) (wrap64 (by omega) (by omega)) ?_))))
 (simp (disch:=omega) only[wr,Int.ofNat_eq_natCast])
 refine bL.loop (fun t:Int=>a1+2≤t∧t≤a0.length+2) (fun t=>(a0.length+2 - t).toNat) ⟨by omega,by omega⟩ (by omega) (fun t ⟨h3,h4⟩=>?_)
 (simp (disch:=omega) only[wr,Int.ofNat_eq_natCast])
 (repeat' (first | (with_reducible first | refine bL.bO ?_ | refine bL.bP ?_ | refine bL.bN ?_ | refine bL.c7 ?_ | refine bL.ite (fun _=>?_) (fun _=>?_) | refine bL.bX ?_) | with_reducible refine bL.bW (by (first | rfl | assumption | omega | (simp [cY,room,c5,eW] at *;omega))) ?_ | (with_reducible first | refine bL.ret ?_ | refine sE.l ?_ | refine sE.r ?_) | (refine (And.intro (a:=IntKind.i64.wrap _=_) (wrap64 (by omega) (by omega)) ?_))))
 (all_goals (try (first | trivial | (intro h;cases h;done) | (first | rfl | assumption | omega | (simp [cY,room,c5,eW] at *;omega)))))
def lx.f (c:UInt8):Bool:=(decide ((c.toNat:Int) ≥ 65) && decide ((c.toNat:Int)≤90)) || (decide ((c.toNat:Int) ≥ 97) && decide ((c.toNat:Int)≤122))
def lx.d (c:UInt8):Bool:=decide ((c.toNat:Int) ≥ 48) && decide ((c.toNat:Int)≤57)
theorem tU {K:Nat} {a0:UInt8}:cR (aPs K a0) (fun v=>v=lx.f a0):=⟨_,rfl,rfl⟩
theorem kT {K:Nat} {a0:UInt8}:cR (aLU K a0) (fun v=>v=lx.d a0):=⟨_,rfl,rfl⟩
theorem jI {K:Nat} {a0:UInt8}:cR (aLV K a0) (fun v=>lx.f a0=true→v=true):=by
 refine cR.of ?_
 unfold aLV
 (repeat' (first | (with_reducible first | refine bL.bO ?_ | refine bL.ret ?_ | refine sE.l ?_ | refine sE.r ?_ | refine bL.dA (fun _=>kT) (fun _ _=>?_) | refine bL.call kT (fun _ _=>?_) | refine bL.call tU (fun _ _=>?_))))
 intro h
 simp_all
theorem aHo {K:Nat} {a0:Bytes} (hK:100000<K) (h0:a0.length≤10000):cR (aPt K a0) (fun _=>True):=by
 refine cR.of ?_
 unfold aPt
 (repeat' (first | (with_reducible first | refine bL.bO ?_ | refine bL.bP ?_ | refine bL.bN ?_ | refine bL.c7 ?_ | refine bL.ite (fun _=>?_) (fun _=>?_) | refine bL.bX ?_) | with_reducible refine bL.bW (by (first | rfl | assumption | omega | (simp [cY,room,c5,eW] at *;omega))) ?_ | (with_reducible first | refine bL.ret ?_ | refine sE.l ?_ | refine sE.r ?_ | refine bL.dA (fun _=>jI) (fun _ _=>?_) | refine bL.call jI (fun _ _=>?_)) | (refine (And.intro (a:=IntKind.i64.wrap _=_) (wrap64 (by omega) (by omega)) ?_))))
 refine bL.loop (fun t:Int=>0≤t∧t≤a0.length) (fun t=>(a0.length - t).toNat) ⟨by omega,by omega⟩ (by omega) (fun t ⟨h1,h2⟩=>?_)
 (simp (disch:=omega) only[wr,Int.ofNat_eq_natCast])
 (repeat' (first | (with_reducible first | refine bL.bO ?_ | refine bL.bP ?_ | refine bL.bN ?_ | refine bL.c7 ?_ | refine bL.ite (fun _=>?_) (fun _=>?_) | refine bL.bX ?_) | with_reducible refine bL.bW (by (first | rfl | assumption | omega | (simp [cY,room,c5,eW] at *;omega))) ?_ | (with_reducible first | refine bL.ret ?_ | refine sE.l ?_ | refine sE.r ?_ | refine bL.dA (fun _=>jI) (fun _ _=>?_) | refine bL.call jI (fun _ _=>?_)) | (refine (And.intro (a:=IntKind.i64.wrap _=_) (wrap64 (by omega) (by omega)) ?_))))
 (all_goals (try (first | trivial | (intro h;cases h;done) | (first | rfl | assumption | omega | (simp [cY,room,c5,eW] at *;omega)))))
theorem yV {K:Nat} {a0:Bytes} (hK:100000<K) (h0:a0.length≤6000):cR (aPu K a0) (fun _=>True):=by
 refine cR.of ?_
 unfold aPu
 (repeat' (first | (with_reducible first | refine bL.bO ?_ | refine bL.bP ?_ | refine bL.bN ?_ | refine bL.c7 ?_ | refine bL.ite (fun _=>?_) (fun _=>?_) | refine bL.bX ?_) | with_reducible refine bL.bW (by (first | rfl | assumption | omega | (simp [cY,room,c5,eW] at *;omega))) ?_ | (with_reducible first | refine bL.ret ?_ | refine sE.l ?_ | refine sE.r ?_) | with_reducible refine bL.dA (fun _=>aHo (by omega) (by omega)) (fun _ _=>?_) | (refine (And.intro (a:=IntKind.i64.wrap _=_) (wrap64 (by omega) (by omega)) ?_))))
 (all_goals (try (first | trivial | (intro h;cases h;done) | (first | rfl | assumption | omega | (simp [cY,room,c5,eW] at *;omega)))))
 refine bL.loop (fun t:Int=>0≤t∧t≤400) (fun t=>(400 - t).toNat) ⟨by omega,by omega⟩ (by omega) (fun t ⟨h1,h2⟩=>?_)
 have hl:((([32]:Bytes)++a0)++([32]:Bytes)).length=a0.length+2:=by simp <;> omega
 rw[hl]
 (simp (disch:=omega) only[wr,Int.ofNat_eq_natCast])
 (repeat' (first | (with_reducible first | refine bL.bO ?_ | refine bL.bP ?_ | refine bL.bN ?_ | refine bL.c7 ?_ | refine bL.ite (fun _=>?_) (fun _=>?_) | refine bL.bX ?_) | with_reducible refine bL.bW (by (first | rfl | assumption | omega | (simp [cY,room,c5,eW] at *;omega))) ?_ | (with_reducible first | refine bL.ret ?_ | refine sE.l ?_ | refine sE.r ?_) | with_reducible refine bL.dA (fun _=>aHo (by omega) (by omega)) (fun _ _=>?_) | (refine (And.intro (a:=IntKind.i64.wrap _=_) (wrap64 (by omega) (by omega)) ?_))))
 (all_goals (try (first | trivial | (intro h;cases h;done) | (first | rfl | assumption | omega | (simp [cY,room,c5,eW] at *;omega)))))
theorem yW {K:Nat} {a0:Bytes} {a1:Int} (hK:100000<K) (h0:a0.length≤6000) (h1:0≤a1) (h2:a1<a0.length):cR (aPv K a0 a1) (fun v=>0≤v∧a1+v≤a0.length):=by
 refine cR.of ?_
 unfold aPv
 (simp (disch:=omega) only[wr,Int.ofNat_eq_natCast])
 (repeat' (first | (with_reducible first | refine bL.bO ?_ | refine bL.ite (fun _=>?_) (fun _=>?_) | refine bL.bX ?_) | with_reducible refine bL.bW (by (first | rfl | assumption | omega | (simp [cY,room,c5,eW] at *;omega))) ?_ | (with_reducible first | refine bL.ret ?_ | refine sE.l ?_ | refine sE.r ?_) | with_reducible refine bL.dA (fun _=>aHn (by omega) (by simp) (by simp <;> omega)) (fun _ _=>?_) | with_reducible refine bL.call (aHn (by omega) (by simp) (by simp <;> omega)) (fun _ _=>?_) | (refine (And.intro (a:=IntKind.i64.wrap _=_) (wrap64 (by omega) (by omega)) ?_))))
 (all_goals (try (first | trivial | (intro h;cases h;done) | (first | rfl | assumption | omega | (simp [cY,room,c5,eW] at *;omega)))))
theorem aC3 {K:Nat} {a0:Bytes} {a1:Int} (hK:100000<K) (h0:a0.length≤6000) (h1:0≤a1) (h2:a1<a0.length):cR (aPw K a0 a1) (fun v=>v.2.2=0→a1<v.2.1∧v.2.1≤a0.length∧v.1.aCG=(a0.drop a1.toNat).take (v.2.1.toNat - a1.toNat)):=by
 refine cR.of ?_
 unfold aPw
 (repeat' (first | (with_reducible first | refine bL.bO ?_ | refine bL.bP ?_ | refine bL.bN ?_ | refine bL.c7 ?_ | refine bL.ite (fun _=>?_) (fun _=>?_) | refine bL.bX ?_) | with_reducible refine bL.bW (by (first | rfl | assumption | omega | (simp [cY,room,c5,eW] at *;omega))) ?_ | (with_reducible first | refine bL.ret ?_ | refine sE.l ?_ | refine sE.r ?_) | with_reducible refine bL.call (yW (by omega) (by assumption) (by omega) (by omega)) (fun _ _=>?_) | with_reducible refine bL.call (yV (by omega) (by simp <;> omega)) (fun _ _=>?_) | (with_reducible first | refine bL.dA (fun _=>jI) (fun _ _=>?_) | refine bL.call jI (fun _ _=>?_) | refine bL.dA (fun _=>kT) (fun _ _=>?_) | refine bL.call kT (fun _ _=>?_) | refine bL.call tU (fun _ _=>?_)) | (refine (And.intro (a:=IntKind.i64.wrap _=_) (wrap64 (by omega) (by omega)) ?_))))
 ·rename_i v1 hv1 hw
  rw[hw] at hv1
  refine bL.loop (fun t:Int=>a1≤t∧t≤a0.length) (fun t=>(a0.length - t).toNat) ⟨by omega,by omega⟩ (by omega) (fun t ⟨h3,h4⟩=>?_)
  (simp (disch:=omega) only[wr,Int.ofNat_eq_natCast])
  (repeat' (first | (with_reducible first | refine bL.bO ?_ | refine bL.bP ?_ | refine bL.bN ?_ | refine bL.c7 ?_ | refine bL.ite (fun _=>?_) (fun _=>?_) | refine bL.bX ?_) | with_reducible refine bL.bW (by (first | rfl | assumption | omega | (simp [cY,room,c5,eW] at *;omega))) ?_ | (with_reducible first | refine bL.ret ?_ | refine sE.l ?_ | refine sE.r ?_) | with_reducible refine bL.call (yW (by omega) (by assumption) (by omega) (by omega)) (fun _ _=>?_) | with_reducible refine bL.call (yV (by omega) (by simp <;> omega)) (fun _ _=>?_) | (with_reducible first | refine bL.dA (fun _=>jI) (fun _ _=>?_) | refine bL.call jI (fun _ _=>?_) | refine bL.dA (fun _=>kT) (fun _ _=>?_) | refine bL.call kT (fun _ _=>?_) | refine bL.call tU (fun _ _=>?_)) | (refine (And.intro (a:=IntKind.i64.wrap _=_) (wrap64 (by omega) (by omega)) ?_))))
  all_goals try ((all_goals (try (first | trivial | (intro h;cases h;done) | (first | rfl | assumption | omega | (simp [cY,room,c5,eW] at *;omega)))));done)
  all_goals
   have hlt:∀ v:Bool,(decide (t<(a0.length:Int))=true→lx.f (a0.getD t.toNat 0)=true→v=true)→¬ (decide (t<(a0.length:Int)) && v)=true→a1<t:=fun v g1 g2=>by
    by_cases e:t=a1
    ·subst e
     have:=g1 (by simpa using h2) hv1.symm
     simp [this,h2] at g2
    ·omega
   intro _
   exact ⟨hlt _ (by assumption) (by assumption),h4,rfl⟩
 ·rename_i v1 hv1 hw v2 hv2 hw2
  rw[hw2] at hv2
  refine bL.loop (fun t:Int × Int=>a1≤t.2∧t.2≤a0.length) (fun t=>(a0.length - t.2).toNat) ⟨by simp,by simp;omega⟩ (by simp;omega) (fun t ⟨h3,h4⟩=>?_)
  obtain ⟨n,t⟩:=t
  dsimp only at h3 h4 ⊢
  (simp (disch:=omega) only[wr,Int.ofNat_eq_natCast])
  (repeat' (first | (with_reducible first | refine bL.bO ?_ | refine bL.bP ?_ | refine bL.bN ?_ | refine bL.c7 ?_ | refine bL.ite (fun _=>?_) (fun _=>?_) | refine bL.bX ?_) | with_reducible refine bL.bW (by (first | rfl | assumption | omega | (simp [cY,room,c5,eW] at *;omega))) ?_ | (with_reducible first | refine bL.ret ?_ | refine sE.l ?_ | refine sE.r ?_) | with_reducible refine bL.call (yW (by omega) (by assumption) (by omega) (by omega)) (fun _ _=>?_) | with_reducible refine bL.call (yV (by omega) (by simp <;> omega)) (fun _ _=>?_) | (with_reducible first | refine bL.dA (fun _=>jI) (fun _ _=>?_) | refine bL.call jI (fun _ _=>?_) | refine bL.dA (fun _=>kT) (fun _ _=>?_) | refine bL.call kT (fun _ _=>?_) | refine bL.call tU (fun _ _=>?_)) | (refine (And.intro (a:=IntKind.i64.wrap _=_) (wrap64 (by omega) (by omega)) ?_))))
  all_goals try ((all_goals (try (first | trivial | (intro h;cases h;done) | (first | rfl | assumption | omega | (simp [cY,room,c5,eW] at *;omega)))));done)
  all_goals
   have hlt:∀ v:Bool,(decide (t<(a0.length:Int))=true→v=lx.d (a0.getD t.toNat 0))→¬ (decide (t<(a0.length:Int)) && v)=true→a1<t:=fun v g1 g2=>by
    by_cases e:t=a1
    ·subst e
     have:=g1 (by simpa using h2)
     rw[← hv2] at this
     simp [this,h2] at g2
    ·omega
   intro _
   exact ⟨hlt _ (by assumption) (by assumption),h4,rfl⟩
 ·rename_i v hv
  (simp (disch:=omega) only[wr,Int.ofNat_eq_natCast])
  (repeat' (first | (with_reducible first | refine bL.bO ?_ | refine bL.bP ?_ | refine bL.bN ?_ | refine bL.c7 ?_ | refine bL.ite (fun _=>?_) (fun _=>?_) | refine bL.bX ?_) | with_reducible refine bL.bW (by (first | rfl | assumption | omega | (simp [cY,room,c5,eW] at *;omega))) ?_ | (with_reducible first | refine bL.ret ?_ | refine sE.l ?_ | refine sE.r ?_) | with_reducible refine bL.call (yW (by omega) (by assumption) (by omega) (by omega)) (fun _ _=>?_) | with_reducible refine bL.call (yV (by omega) (by simp <;> omega)) (fun _ _=>?_) | (with_reducible first | refine bL.dA (fun _=>jI) (fun _ _=>?_) | refine bL.call jI (fun _ _=>?_) | refine bL.dA (fun _=>kT) (fun _ _=>?_) | refine bL.call kT (fun _ _=>?_) | refine bL.call tU (fun _ _=>?_)) | (refine (And.intro (a:=IntKind.i64.wrap _=_) (wrap64 (by omega) (by omega)) ?_))))
  all_goals try ((all_goals (try (first | trivial | (intro h;cases h;done) | (first | rfl | assumption | omega | (simp [cY,room,c5,eW] at *;omega)))));done)
  all_goals
   rename_i h
   intro _
   simp only[beq_iff_eq] at h
   dsimp only
   refine ⟨by omega,by omega,rfl⟩
theorem aWQ {l:Bytes} {a b:Int} (h0:0≤a) (h1:a<b) (h2:b≤l.length):(l.drop a.toNat).take (b.toNat - a.toNat)≠[]:=by
 intro h
 have:=congrArg List.length h
 rw[aS,bK,List.length_nil] at this
 omega
theorem aP8 {K:Nat} {a0:Bytes} (hK:100000<K):cR (aPp K a0) (fun v=>v.1.length≤1500∧∀ x∈v.1,x.aCG≠[]):=by
 refine cR.of ?_
 unfold aPp
 (repeat' (first | (with_reducible first | refine bL.bO ?_ | refine bL.bP ?_ | refine bL.bN ?_ | refine bL.c7 ?_ | refine bL.ite (fun _=>?_) (fun _=>?_) | refine bL.bX ?_) | with_reducible refine bL.bW (by (first | assumption | rfl | trivial | omega | (simp only[aB,aC,aO,Bool.not_eq_true,Bool.and_eq_false_iff,Bool.or_eq_false_iff,decide_eq_false_iff_not,Int.ofNat_eq_natCast,cY,room,c5,Int.toNat_natCast,aP,Bool.not_true,Bool.not_false,Bool.not_eq_false',Bool.not_not,eW,aD,List.length_cons,List.length_nil,List.length_replicate,aS,bK,bne_iff_ne,beq_iff_eq,ne_eq] at *;first | assumption | omega | (split at * <;> omega)))) ?_ | (with_reducible first | refine bL.ret ?_ | refine sE.l ?_ | refine sE.r ?_) | with_reducible refine bL.call (aC3 (by omega) (by assumption) (by omega) (by omega)) (fun _ _=>?_) | with_reducible refine bL.call (aC2 (by omega) (by omega) (by omega) (by omega)) (fun _ _=>?_) | (refine (And.intro (a:=IntKind.i64.wrap _=_) (wrap64 (by omega) (by omega)) ?_))))
 ·exact ⟨by simp,fun x hx=>by cases hx⟩
 ·rename_i h
  simp only[aB,Int.ofNat_eq_natCast] at h
  have h0:a0.length≤6000:=by omega
  refine bL.loop (fun t:List qM × Int=>t.1.length≤1500∧0≤t.2∧t.2≤a0.length∧∀ x∈t.1,x.aCG≠[]) (fun t=>(a0.length - t.2).toNat) ⟨by simp,by simp,by simp,by simp⟩ (by simp;omega) (fun t ⟨h1,h2,h3,h9⟩=>?_)
  obtain ⟨l,t⟩:=t
  dsimp only at h1 h2 h3 h9 ⊢
  (simp (disch:=omega) only[wr,Int.ofNat_eq_natCast])
  (repeat' (first | (with_reducible first | refine bL.bO ?_ | refine bL.bP ?_ | refine bL.bN ?_ | refine bL.c7 ?_ | refine bL.ite (fun _=>?_) (fun _=>?_) | refine bL.bX ?_) | with_reducible refine bL.bW (by (first | assumption | rfl | trivial | omega | (simp only[aB,aC,aO,Bool.not_eq_true,Bool.and_eq_false_iff,Bool.or_eq_false_iff,decide_eq_false_iff_not,Int.ofNat_eq_natCast,cY,room,c5,Int.toNat_natCast,aP,Bool.not_true,Bool.not_false,Bool.not_eq_false',Bool.not_not,eW,aD,List.length_cons,List.length_nil,List.length_replicate,aS,bK,bne_iff_ne,beq_iff_eq,ne_eq] at *;first | assumption | omega | (split at * <;> omega)))) ?_ | (with_reducible first | refine bL.ret ?_ | refine sE.l ?_ | refine sE.r ?_) | with_reducible refine bL.call (aC3 (by omega) (by assumption) (by omega) (by omega)) (fun _ _=>?_) | with_reducible refine bL.call (aC2 (by omega) (by omega) (by omega) (by omega)) (fun _ _=>?_) | (refine (And.intro (a:=IntKind.i64.wrap _=_) (wrap64 (by omega) (by omega)) ?_))))
  all_goals try ((all_goals (try (first | trivial | (intro h;cases h;done) | (first | assumption | rfl | trivial | omega | (simp only[aB,aC,aO,Bool.not_eq_true,Bool.and_eq_false_iff,Bool.or_eq_false_iff,decide_eq_false_iff_not,Int.ofNat_eq_natCast,cY,room,c5,Int.toNat_natCast,aP,Bool.not_true,Bool.not_false,Bool.not_eq_false',Bool.not_not,eW,aD,List.length_cons,List.length_nil,List.length_replicate,aS,bK,bne_iff_ne,beq_iff_eq,ne_eq] at *;first | assumption | omega | (split at * <;> omega))))));done)
  all_goals
   have hlt:t<(a0.length:Int):=of_decide_eq_true (by assumption)
   (repeat' (first | (with_reducible first | refine bL.bO ?_ | refine bL.bP ?_ | refine bL.bN ?_ | refine bL.c7 ?_ | refine bL.ite (fun _=>?_) (fun _=>?_) | refine bL.bX ?_) | with_reducible refine bL.bW (by (first | assumption | rfl | trivial | omega | (simp only[aB,aC,aO,Bool.not_eq_true,Bool.and_eq_false_iff,Bool.or_eq_false_iff,decide_eq_false_iff_not,Int.ofNat_eq_natCast,cY,room,c5,Int.toNat_natCast,aP,Bool.not_true,Bool.not_false,Bool.not_eq_false',Bool.not_not,eW,aD,List.length_cons,List.length_nil,List.length_replicate,aS,bK,bne_iff_ne,beq_iff_eq,ne_eq] at *;first | assumption | omega | (split at * <;> omega)))) ?_ | (with_reducible first | refine bL.ret ?_ | refine sE.l ?_ | refine sE.r ?_) | with_reducible refine bL.call (aC3 (by omega) (by assumption) (by omega) (by omega)) (fun _ _=>?_) | with_reducible refine bL.call (aC2 (by omega) (by omega) (by omega) (by omega)) (fun _ _=>?_) | (refine (And.intro (a:=IntKind.i64.wrap _=_) (wrap64 (by omega) (by omega)) ?_))))
  all_goals try ((all_goals (try (first | trivial | (intro h;cases h;done) | (first | assumption | rfl | trivial | omega | (simp only[aB,aC,aO,Bool.not_eq_true,Bool.and_eq_false_iff,Bool.or_eq_false_iff,decide_eq_false_iff_not,Int.ofNat_eq_natCast,cY,room,c5,Int.toNat_natCast,aP,Bool.not_true,Bool.not_false,Bool.not_eq_false',Bool.not_not,eW,aD,List.length_cons,List.length_nil,List.length_replicate,aS,bK,bne_iff_ne,beq_iff_eq,ne_eq] at *;first | assumption | omega | (split at * <;> omega))))));done)
  all_goals try (exact ⟨by simp,fun x hx=>by cases hx⟩)
  all_goals try (exact ⟨h1,h9⟩)
  all_goals try (exact ⟨⟨by dsimp only;omega,by dsimp only;omega,by dsimp only;omega,h9⟩,by dsimp only;omega⟩)
  ·rename_i w1 w2 v hv w3
   simp only[aB] at w3
   exact ⟨⟨by dsimp only;omega,by dsimp only;omega,by dsimp only;omega,h9⟩,by dsimp only;omega⟩
  ·rename_i w1 w2 v hv w3 w4
   simp only[bne_iff_ne,ne_eq,Decidable.not_not] at w3
   simp only[aB,Int.ofNat_eq_natCast] at w4
   obtain ⟨k1,k2,k3⟩:=hv w3
   refine ⟨⟨by simp only[aD,List.length_singleton];omega,by dsimp only;omega,by dsimp only;omega,fun x hx=>?_⟩,by dsimp only;omega⟩
   rcases aX.1 hx with hx | hx
   ·exact h9 x hx
   ·rw[aL.1 hx,k3]
    exact aWQ h2 k1 k2
end Go.Proofs.YtdbfbedholdjaaaGreat

namespace Go.Proofs.YtdbfbedholdjaaaGreat
open Go Go.Dl
variable [dK]
set_option maxRecDepth 100000
mutual
def cI.sz:cI→Nat
 | ⟨_,_,_,_,a⟩=>1+cI.hG a
def cI.hG:List cI→Nat
 | []=>0
 | x::r=>cI.sz x+cI.hG r
end
theorem mO:∀ (a b:List cI),cI.hG (a++b)=cI.hG a+cI.hG b
 | [],b=>by simp [cI.hG]
 | x::a,b=>by rw[List.cons_append,cI.hG,cI.hG,mO a b];omega
theorem cI.aC6 (e:cI):1≤e.sz:=by cases e;rw[cI.sz];omega
theorem mN:∀ l:List cI,l.length≤cI.hG l
 | []=>by simp [cI.hG]
 | x::r=>by rw[List.length_cons,cI.hG];have:=mN r;have:=x.aC6;omega
def oN:List (List Int)→Nat
 | []=>0
 | x::r=>1+x.length+oN r
theorem qN:∀ (a b:List (List Int)),oN (a++b)=oN a+oN b
 | [],b=>by simp [oN]
 | x::a,b=>by rw[List.cons_append,oN,oN,qN a b];omega
theorem aCW:∀ l:List (List Int),l.length≤oN l
 | []=>by simp [oN]
 | x::r=>by rw[List.length_cons,oN];have:=aCW r;omega
mutual
def cG.sz:cG→Nat
 | ⟨_,_,_,e,l,b⟩=>1+cI.hG e+oN l+cG.j9 b
def cG.hG:List cG→Nat
 | []=>0
 | x::r=>cG.sz x+cG.hG r
def cG.j9:List (List cG)→Nat
 | []=>0
 | x::r=>1+cG.hG x+cG.j9 r
end
theorem tS:∀ (a b:List cG),cG.hG (a++b)=cG.hG a+cG.hG b
 | [],b=>by simp [cG.hG]
 | x::a,b=>by rw[List.cons_append,cG.hG,cG.hG,tS a b];omega
theorem pK:∀ (a b:List (List cG)),cG.j9 (a++b)=cG.j9 a+cG.j9 b
 | [],b=>by simp [cG.j9]
 | x::a,b=>by rw[List.cons_append,cG.j9,cG.j9,pK a b];omega
theorem cG.aC6 (e:cG):1≤e.sz:=by cases e;rw[cG.sz];omega
theorem aIZ:∀ l:List cG,l.length≤cG.hG l
 | []=>by simp [cG.hG]
 | x::r=>by rw[List.length_cons,cG.hG];have:=aIZ r;have:=x.aC6;omega
theorem aBu:∀ l:List (List cG),l.length≤cG.j9 l
 | []=>by simp [cG.j9]
 | x::r=>by rw[List.length_cons,cG.j9];have:=aBu r;omega
def iT.sz (m:iT):Nat:=1+m.cN.length+m.cH.length+cG.hG m.rP
def wL:List iT→Nat
 | []=>0
 | x::r=>x.sz+wL r
theorem uM:∀ (a b:List iT),wL (a++b)=wL a+wL b
 | [],b=>by simp [wL]
 | x::a,b=>by rw[List.cons_append,wL,wL,uM a b];omega
theorem aKt:∀ l:List iT,l.length≤wL l
 | []=>by simp [wL]
 | x::r=>by rw[List.length_cons,wL,iT.sz];have:=aKt r;omega
def gX.sz (d:gX):Nat:=1+d.cK.length+d.cH.length+wL d.bQ+cG.hG d.rP
def yZ:List gX→Nat
 | []=>0
 | x::r=>x.sz+yZ r
theorem pI:∀ (a b:List gX),yZ (a++b)=yZ a+yZ b
 | [],b=>by simp [yZ]
 | x::a,b=>by rw[List.cons_append,yZ,yZ,pI a b];omega
theorem aKu:∀ l:List gX,l.length≤yZ l
 | []=>by simp [yZ]
 | x::r=>by rw[List.length_cons,yZ,gX.sz];have:=aKu r;omega
structure Rd (r:cC):Prop where
 lo:0≤r.qJ
 hi:r.qJ≤r.ft.length
 n:r.ft.length≤1500
 nm:∀ t∈r.ft,t.aCG≠[]
def mu (r:cC):Nat:=if r.iS=0 then (r.ft.length - r.qJ).toNat+1 else 0
theorem l8 {r:cC} (h:Rd r):mu r≤1501:=by
 unfold mu;have:=h.n;have:=h.lo;split <;> omega
theorem bL.cJ {α R:Type} {b:Bool} {d:R} {m:Option (R ⊕ R)} {f:R→Option α} {Q:α→Prop} {P:R→Prop} (hb:b=true) (h:cR m P) (hf:∀ v,P v→bL (f v) Q):bL ((cF b (bV m) d).bind f) Q :=
 bL.dA (fun _=>h) fun v hv=>hf v (hv hb)
theorem aKv {K:Nat} {r:cC} {s:Bytes} (h:Rd r):cR (F73 K r s) (fun v=>v=true→r.iS=0∧r.qJ<r.ft.length):=by
 obtain ⟨h1,h2,h3,h9⟩:=h
 refine cR.of ?_
 unfold F73
 (repeat' (first | (with_reducible first | refine bL.bO ?_ | refine bL.ite (fun _=>?_) (fun _=>?_) | refine bL.bX ?_) | with_reducible refine bL.bW (by (first | rfl | assumption | omega | (simp [cY,room,c5,eW] at *;omega))) ?_ | (with_reducible first | refine bL.ret ?_ | refine sE.l ?_ | refine sE.r ?_)))
 ·(all_goals (try (first | trivial | (intro h;cases h;done) | (first | rfl | assumption | omega | (simp [cY,room,c5,eW] at *;omega)))))
 ·rename_i h
  simp only[aO,bne_iff_ne,aB,not_or,ge_iff_le,Int.not_le,Int.ofNat_eq_natCast,ne_eq,Decidable.not_not] at h
  exact fun _=>h
theorem aC7 {K:Nat} {r:cC} {k:Int} (h:Rd r):cR (rW K r k) (fun v=>v=true→r.iS=0∧r.qJ<r.ft.length):=by
 obtain ⟨h1,h2,h3,h9⟩:=h
 refine cR.of ?_
 unfold rW
 (repeat' (first | (with_reducible first | refine bL.bO ?_ | refine bL.bX ?_) | with_reducible refine bL.bW (by (first | rfl | assumption | omega | (simp [cY,room,c5,eW] at *;omega))) ?_ | (with_reducible first | refine bL.ret ?_ | refine sE.l ?_ | refine sE.r ?_)))
 intro hv
 simp only[aC,beq_iff_eq,aB,Int.ofNat_eq_natCast] at hv
 exact hv.1
theorem aKw {K:Nat} {r:cC} (h:Rd r):cR (F75 K r) (fun v=>v.2=r):=by
 obtain ⟨h1,h2,h3,h9⟩:=h
 refine cR.of ?_
 unfold F75
 (repeat' (first | (with_reducible first | refine bL.bO ?_ | refine bL.ite (fun _=>?_) (fun _=>?_) | refine bL.bX ?_) | with_reducible refine bL.bW (by (first | rfl | assumption | omega | (simp [cY,room,c5,eW] at *;omega))) ?_ | (with_reducible first | refine bL.ret ?_ | refine sE.l ?_ | refine sE.r ?_)))
 all_goals rfl
theorem wG {r:cC} (h:r.iS=0):0<mu r:=by unfold mu;rw[aH h];omega
theorem aFJ {r:cC} (h:Rd r) (h1:r.iS=0∧r.qJ<r.ft.length):Rd ⟨r.ft,IntKind.i64.wrap (r.qJ+1),r.aGR,r.iS,r.aGS⟩∧mu ⟨r.ft,IntKind.i64.wrap (r.qJ+1),r.aGR,r.iS,r.aGS⟩+1≤mu r:=by
 obtain ⟨h2,h3,h4,h9⟩:=h
 obtain ⟨h5,h6⟩:=h1
 have hw:IntKind.i64.wrap (r.qJ+1)=r.qJ+1:=wr (by omega) (by omega)
 rw[hw]
 refine ⟨⟨by dsimp only;omega,by dsimp only;omega,h4,h9⟩,?_⟩
 unfold mu
 dsimp only
 rw[aH h5,aH h5];omega
theorem iP {K:Nat} {r:cC} {c:Int} (h:Rd r) (hc:c≠0):cR (yB K r c) (fun v=>Rd v∧mu v=0):=by
 have h0:=h
 obtain ⟨h1,h2,h3,h9⟩:=h
 refine cR.of ?_
 unfold yB
 refine bL.ite (fun e=>?_) (fun e=>?_)
 ·refine bL.call (aKw h0) (fun v hv=>?_)
  obtain ⟨p,v⟩:=v
  obtain rfl:v=r:=hv
  (repeat' (first | (with_reducible first | refine bL.ite (fun _=>?_) (fun _=>?_) | refine bL.ret ?_ | refine sE.l ?_ | refine sE.r ?_)))
  refine ⟨⟨by simp,by simp,h3,h9⟩,?_⟩
  unfold mu;rw[aF hc]
 ·(repeat' (first | (with_reducible first | refine bL.ite (fun _=>?_) (fun _=>?_) | refine bL.ret ?_ | refine sE.l ?_ | refine sE.r ?_)))
  refine ⟨h0,?_⟩
  unfold mu;rw[aF (by simpa using e)]
theorem eU {K:Nat} {r:cC} {a b:Int} (h:Rd r):cR (F74 K r a b) (fun v=>Rd v∧mu v≤mu r):=by
 refine cR.of ?_
 unfold F74
 refine bL.ite (fun e=>?_) (fun e=>?_)
 ·refine bL.call (iP h (by decide)) (fun v hv=>?_)
  (repeat' (first | (with_reducible first | refine bL.ite (fun _=>?_) (fun _=>?_) | refine bL.ret ?_ | refine sE.l ?_ | refine sE.r ?_)))
  exact ⟨hv.1,by rw[hv.2];exact Nat.zero_le _⟩
 ·(repeat' (first | (with_reducible first | refine bL.ite (fun _=>?_) (fun _=>?_) | refine bL.ret ?_ | refine sE.l ?_ | refine sE.r ?_)))
  exact ⟨h,aJ _⟩
theorem eA {K:Nat} {r:cC} {s:Bytes} (h:Rd r):cR (fS K r s) (fun v=>(v.1=true∧Rd v.2∧mu v.2+1≤mu r)∨(v.1=false∧v.2=r)):=by
 refine cR.of ?_
 unfold fS
 refine bL.cJ (by decide) (aKv h) (fun v hv=>?_)
 refine bL.ite (fun e=>?_) (fun e=>?_)
 ·(repeat' (first | (with_reducible first | refine bL.ite (fun _=>?_) (fun _=>?_) | refine bL.ret ?_ | refine sE.l ?_ | refine sE.r ?_) | (refine (And.intro (a:=IntKind.i64.wrap _=_) (wrap64 (by omega) (by omega)) ?_))))
  exact .inl ⟨rfl,aFJ h (hv e)⟩
 ·(repeat' (first | (with_reducible first | refine bL.ite (fun _=>?_) (fun _=>?_) | refine bL.ret ?_ | refine sE.l ?_ | refine sE.r ?_) | (refine (And.intro (a:=IntKind.i64.wrap _=_) (wrap64 (by omega) (by omega)) ?_))))
  exact .inr ⟨rfl,rfl⟩
theorem eN {K:Nat} {r:cC} {s:Bytes} (h:Rd r):cR (fP K r s) (fun v=>Rd v∧mu v≤mu r - 1):=by
 refine cR.of ?_
 unfold fP
 refine bL.call (eA h) ?_
 rintro ⟨b,v⟩ (⟨h1,h2,h3⟩ | ⟨h1,h2⟩)
 ·dsimp only at h1 h2 h3 ⊢
  subst h1
  refine bL.dN (by simp) ?_
  (repeat' (first | (with_reducible first | refine bL.ite (fun _=>?_) (fun _=>?_) | refine bL.ret ?_ | refine sE.l ?_ | refine sE.r ?_)))
  exact ⟨h2,by omega⟩
 ·dsimp only at h1 h2 ⊢
  subst h1;subst h2
  refine bL.dV (by simp) ?_
  refine bL.call (iP h (by decide)) (fun v hv=>?_)
  (repeat' (first | (with_reducible first | refine bL.ite (fun _=>?_) (fun _=>?_) | refine bL.ret ?_ | refine sE.l ?_ | refine sE.r ?_)))
  exact ⟨hv.1,by omega⟩
theorem aKx {K:Nat} {r:cC} (h:Rd r):cR (nJ K r) (fun v=>(Rd v.2∧mu v.2≤mu r - 1)∧(mu v.2≠0→v.1≠[])):=by
 refine cR.of ?_
 unfold nJ
 refine bL.cJ (by decide) (aC7 h) (fun v hv=>?_)
 refine bL.ite (fun e=>?_) (fun e=>?_)
 ·refine bL.call (iP h (by decide)) (fun v hv=>?_)
  (repeat' (first | (with_reducible first | refine bL.bO ?_ | refine bL.ite (fun _=>?_) (fun _=>?_) | refine bL.bX ?_) | with_reducible refine bL.bW (by (first | rfl | assumption | omega | (simp [cY,room,c5,eW] at *;omega))) ?_ | (with_reducible first | refine bL.ret ?_ | refine sE.l ?_ | refine sE.r ?_) | (refine (And.intro (a:=IntKind.i64.wrap _=_) (wrap64 (by omega) (by omega)) ?_))))
  exact ⟨⟨hv.1,by have:=hv.2;dsimp only;omega⟩,fun e=>absurd hv.2 e⟩
 ·have h1:=hv (by simpa using e)
  obtain ⟨h2,h3⟩:=aFJ h h1
  have hw:IntKind.i64.wrap (r.qJ+1)=r.qJ+1:=wr (by have:=h.lo;omega) (by have:=h.hi;have:=h.n;omega)
  have hw2:IntKind.i64.wrap (IntKind.i64.wrap (r.qJ+1) - 1)=r.qJ:=by rw[hw,wr (by have:=h.lo;omega) (by have:=h.hi;have:=h.n;omega)];omega
  rw[hw2]
  have:=h.lo
  (repeat' (first | (with_reducible first | refine bL.bO ?_ | refine bL.ite (fun _=>?_) (fun _=>?_) | refine bL.bX ?_) | with_reducible refine bL.bW (by (first | rfl | assumption | omega | (simp [cY,room,c5,eW] at *;omega))) ?_ | (with_reducible first | refine bL.ret ?_ | refine sE.l ?_ | refine sE.r ?_) | (refine (And.intro (a:=IntKind.i64.wrap _=_) (wrap64 (by omega) (by omega)) ?_))))
  refine ⟨⟨h2,by dsimp only;omega⟩,fun _=>h.nm _ ?_⟩
  have h4:r.qJ.toNat<r.ft.length:=by have:=h1.2;omega
  rw[List.getD,aE h4]
  exact List.getElem_mem h4
theorem fG {K:Nat} {r:cC} (h:Rd r):cR (nJ K r) (fun v=>Rd v.2∧mu v.2≤mu r - 1):=(aKx h).yQ fun v hv=>hv.1
theorem qO {K:Nat} {r:cC} (h:Rd r):cR (aCH K r) (fun v=>Rd v.2∧mu v.2≤mu r - 1):=by
 refine cR.of ?_
 unfold aCH
 refine bL.cJ (by decide) (aC7 h) (fun v hv=>?_)
 refine bL.ite (fun e=>?_) (fun e=>?_)
 ·refine bL.call (iP h (by decide)) (fun v hv=>?_)
  (repeat' (first | (with_reducible first | refine bL.bO ?_ | refine bL.ite (fun _=>?_) (fun _=>?_) | refine bL.bX ?_) | with_reducible refine bL.bW (by (first | rfl | assumption | omega | (simp [cY,room,c5,eW] at *;omega))) ?_ | (with_reducible first | refine bL.ret ?_ | refine sE.l ?_ | refine sE.r ?_) | (refine (And.intro (a:=IntKind.i64.wrap _=_) (wrap64 (by omega) (by omega)) ?_))))
  exact ⟨hv.1,by have:=hv.2;dsimp only;omega⟩
 ·have h1:=hv (by simpa using e)
  obtain ⟨h2,h3⟩:=aFJ h h1
  have hw:IntKind.i64.wrap (r.qJ+1)=r.qJ+1:=wr (by have:=h.lo;omega) (by have:=h.hi;have:=h.n;omega)
  have hw2:IntKind.i64.wrap (IntKind.i64.wrap (r.qJ+1) - 1)=r.qJ:=by rw[hw,wr (by have:=h.lo;omega) (by have:=h.hi;have:=h.n;omega)];omega
  rw[hw2]
  have:=h.lo
  (repeat' (first | (with_reducible first | refine bL.bO ?_ | refine bL.ite (fun _=>?_) (fun _=>?_) | refine bL.bX ?_) | with_reducible refine bL.bW (by (first | rfl | assumption | omega | (simp [cY,room,c5,eW] at *;omega))) ?_ | (with_reducible first | refine bL.ret ?_ | refine sE.l ?_ | refine sE.r ?_) | (refine (And.intro (a:=IntKind.i64.wrap _=_) (wrap64 (by omega) (by omega)) ?_))))
  exact ⟨h2,by dsimp only;omega⟩
theorem cX {K:Nat} {r:cC} {s:Bytes} (h:Rd r):cR (F73 K r s) (fun v=>(v=true∧0<mu r)∨v=false) :=
 (aKv h).yQ fun v hv=>by cases v with
  | false=>exact .inr rfl
  | true=>exact .inl ⟨rfl,wG (hv rfl).1⟩
theorem cZ {K:Nat} {r:cC} {k:Int} (h:Rd r):cR (rW K r k) (fun v=>(v=true∧0<mu r)∨v=false) :=
 (aC7 h).yQ fun v hv=>by cases v with
  | false=>exact .inr rfl
  | true=>exact .inl ⟨rfl,wG (hv rfl).1⟩
theorem bL.fX {α R:Type} {d:R} {m:Option R} {f:R→Option α} {Q:α→Prop} {b:Bool} (hb:b=false) (hf:bL (f d) Q):bL ((cF b m d).bind f) Q:=by
 subst hb;exact hf
theorem oQ {K:Nat} {r:cC} (h:Rd r):cR (aFp K r) (fun v=>Rd v.2∧mu v.2≤mu r - 1):=by
 refine cR.of ?_
 unfold aFp
 (repeat' (first | with_reducible refine bL.dV (by decide) ?_ | with_reducible refine bL.dN (by decide) ?_ | (with_reducible refine bL.call (eA (by assumption)) ?_;rintro ⟨_,_⟩ h;dsimp only at h;rcases h with (⟨rfl,_,_⟩ | ⟨rfl,rfl⟩) <;> try dsimp only) | (with_reducible refine bL.call (qO (by assumption)) ?_;rintro ⟨_,_⟩ ⟨_,_⟩;try dsimp only at *) | (with_reducible first | refine bL.ite (fun _=>?_) (fun _=>?_) | refine bL.ret ?_ | refine sE.l ?_ | refine sE.r ?_)))
 all_goals exact ⟨by assumption,by dsimp only;omega⟩
theorem aQc {K:Nat} {r:cC} (hK:100<K) (h:Rd r):cR (aOD K r) (fun v=>Rd v.2∧mu v.2≤mu r):=by
 refine cR.of ?_
 unfold aOD
 (repeat' (first | (with_reducible first | refine bL.bO ?_ | refine bL.bP ?_ | refine bL.bN ?_ | refine bL.c7 ?_) | with_reducible refine bL.dV (by decide) ?_ | with_reducible refine bL.dN (by decide) ?_ | (with_reducible refine bL.call (eA (by assumption)) ?_;rintro ⟨_,_⟩ h;dsimp only at h;rcases h with (⟨rfl,_,_⟩ | ⟨rfl,rfl⟩) <;> try dsimp only) | (with_reducible first | refine bL.ite (fun _=>?_) (fun _=>?_) | refine bL.bX ?_) | with_reducible refine bL.bW (by (first | rfl | assumption | omega | (simp [cY,room,c5,eW] at *;omega))) ?_ | (with_reducible first | refine bL.ret ?_ | refine sE.l ?_ | refine sE.r ?_)))
 refine bL.loop (fun t:cC × Int=>t.1=r∧0≤t.2∧t.2≤8) (fun t=>(8 - t.2).toNat) ⟨rfl,by simp,by simp⟩ (by simp;omega) ?_
 rintro ⟨q,t⟩ ⟨rfl,h1,h2⟩
 dsimp only at h h1 h2 ⊢
 (simp (disch:=omega) only[wr,Int.ofNat_eq_natCast])
 (repeat' (first | (with_reducible first | refine bL.bO ?_ | refine bL.bP ?_ | refine bL.bN ?_ | refine bL.c7 ?_) | with_reducible refine bL.dV (by decide) ?_ | with_reducible refine bL.dN (by decide) ?_ | (with_reducible refine bL.call (eA (by assumption)) ?_;rintro ⟨_,_⟩ h;dsimp only at h;rcases h with (⟨rfl,_,_⟩ | ⟨rfl,rfl⟩) <;> try dsimp only) | (with_reducible first | refine bL.ite (fun _=>?_) (fun _=>?_) | refine bL.bX ?_) | with_reducible refine bL.bW (by (first | rfl | assumption | omega | (simp [cY,room,c5,eW] at *;omega))) ?_ | (with_reducible first | refine bL.ret ?_ | refine sE.l ?_ | refine sE.r ?_)))
 ·exact ⟨by assumption,by dsimp only;omega⟩
 ·rename_i x
  simp only[List.length_cons,List.length_nil,aB] at x
  exact ⟨⟨rfl,by dsimp only;omega,by dsimp only;omega⟩,by dsimp only;omega⟩
 ·exact ⟨h,aJ _⟩
theorem aHq {K:Nat} {r:cC} (hK:100<K) (h:Rd r):cR (aON K r) (fun v=>(v.1=0∧v.2=r)∨(v.1≠0∧Rd v.2∧mu v.2+1≤mu r)):=by
 refine cR.of ?_
 unfold aON
 (repeat' (first | (with_reducible first | refine bL.bO ?_ | refine bL.bP ?_ | refine bL.bN ?_ | refine bL.c7 ?_) | with_reducible refine bL.dV (by decide) ?_ | with_reducible refine bL.dN (by decide) ?_ | (with_reducible refine bL.call (eA (by assumption)) ?_;rintro ⟨_,_⟩ h;dsimp only at h;rcases h with (⟨rfl,_,_⟩ | ⟨rfl,rfl⟩) <;> try dsimp only) | (with_reducible first | refine bL.ite (fun _=>?_) (fun _=>?_) | refine bL.bX ?_) | with_reducible refine bL.bW (by (first | rfl | assumption | omega | (simp [cY,room,c5,eW] at *;omega))) ?_ | (with_reducible first | refine bL.ret ?_ | refine sE.l ?_ | refine sE.r ?_)))
 refine bL.loop (fun t:cC × Int=>t.1=r∧1≤t.2∧t.2≤15) (fun t=>(15 - t.2).toNat) ⟨rfl,by simp,by simp⟩ (by simp;omega) ?_
 rintro ⟨q,t⟩ ⟨rfl,h1,h2⟩
 dsimp only at h h1 h2 ⊢
 (simp (disch:=omega) only[wr,Int.ofNat_eq_natCast])
 (repeat' (first | (with_reducible first | refine bL.bO ?_ | refine bL.bP ?_ | refine bL.bN ?_ | refine bL.c7 ?_) | with_reducible refine bL.dV (by decide) ?_ | with_reducible refine bL.dN (by decide) ?_ | (with_reducible refine bL.call (eA (by assumption)) ?_;rintro ⟨_,_⟩ h;dsimp only at h;rcases h with (⟨rfl,_,_⟩ | ⟨rfl,rfl⟩) <;> try dsimp only) | (with_reducible first | refine bL.ite (fun _=>?_) (fun _=>?_) | refine bL.bX ?_) | with_reducible refine bL.bW (by (first | rfl | assumption | omega | (simp [cY,room,c5,eW] at *;omega))) ?_ | (with_reducible first | refine bL.ret ?_ | refine sE.l ?_ | refine sE.r ?_)))
 ·exact .inr ⟨by dsimp only;omega,by assumption,by dsimp only;omega⟩
 ·rename_i x
  simp only[List.length_cons,List.length_nil,aB] at x
  exact ⟨⟨rfl,by dsimp only;omega,by dsimp only;omega⟩,by dsimp only;omega⟩
 ·exact .inl ⟨rfl,rfl⟩
theorem aBv {K:Nat} {r:cC} (hK:100<K) (h:Rd r):cR (aLB K r) (fun v=>(v=true∧0<mu r)∨v=false):=by
 refine cR.of ?_
 unfold aLB
 (repeat' (first | (with_reducible first | refine bL.bO ?_ | refine bL.bP ?_ | refine bL.bN ?_ | refine bL.c7 ?_) | with_reducible refine bL.dV (by decide) ?_ | with_reducible refine bL.dN (by decide) ?_ | ((with_reducible first | refine bL.call (cZ (by assumption)) ?_ | refine bL.call (cX (by assumption)) ?_ | refine bL.cJ (by decide) (cZ (by assumption)) ?_ | refine bL.cJ (by decide) (cX (by assumption)) ?_);rintro _ (⟨rfl,_⟩ | rfl)) | (with_reducible first | refine bL.ite (fun _=>?_) (fun _=>?_) | refine bL.bX ?_) | with_reducible refine bL.bW (by (first | rfl | assumption | omega | (simp [cY,room,c5,eW] at *;omega))) ?_ | (with_reducible first | refine bL.ret ?_ | refine sE.l ?_ | refine sE.r ?_)))
 refine bL.loop (fun t:Int=>0≤t∧t≤9) (fun t=>(9 - t).toNat) ⟨by simp,by simp⟩ (by simp;omega) ?_
 rintro t ⟨h1,h2⟩
 (simp (disch:=omega) only[wr,Int.ofNat_eq_natCast])
 (repeat' (first | (with_reducible first | refine bL.bO ?_ | refine bL.bP ?_ | refine bL.bN ?_ | refine bL.c7 ?_) | with_reducible refine bL.dV (by decide) ?_ | with_reducible refine bL.dN (by decide) ?_ | ((with_reducible first | refine bL.call (cZ (by assumption)) ?_ | refine bL.call (cX (by assumption)) ?_ | refine bL.cJ (by decide) (cZ (by assumption)) ?_ | refine bL.cJ (by decide) (cX (by assumption)) ?_);rintro _ (⟨rfl,_⟩ | rfl)) | (with_reducible first | refine bL.ite (fun _=>?_) (fun _=>?_) | refine bL.bX ?_) | with_reducible refine bL.bW (by (first | rfl | assumption | omega | (simp [cY,room,c5,eW] at *;omega))) ?_ | (with_reducible first | refine bL.ret ?_ | refine sE.l ?_ | refine sE.r ?_)))
 ·exact .inl ⟨rfl,by assumption⟩
 ·rename_i x
  simp only[List.length_cons,List.length_nil,aB] at x
  exact ⟨⟨by omega,by omega⟩,by omega⟩
 ·exact .inl ⟨rfl,by assumption⟩
 ·exact .inr rfl
theorem uN {K:Nat} {r:cC} (hK:100<K) (h:Rd r):cR (aIK K r) (fun v=>(v=true∧0<mu r)∨v=false):=by
 refine cR.of ?_
 unfold aIK
 (repeat' (first | (with_reducible first | refine bL.bO ?_ | refine bL.bP ?_ | refine bL.bN ?_ | refine bL.c7 ?_) | with_reducible refine bL.dV (by decide) ?_ | with_reducible refine bL.dN (by decide) ?_ | ((with_reducible first | refine bL.call (cZ (by assumption)) ?_ | refine bL.call (cX (by assumption)) ?_ | refine bL.cJ (by decide) (cZ (by assumption)) ?_ | refine bL.cJ (by decide) (cX (by assumption)) ?_);rintro _ (⟨rfl,_⟩ | rfl)) | with_reducible refine bL.fX (by decide) ?_ | (with_reducible first | refine bL.ite (fun _=>?_) (fun _=>?_) | refine bL.bX ?_) | with_reducible refine bL.bW (by (first | rfl | assumption | omega | (simp [cY,room,c5,eW] at *;omega))) ?_ | (with_reducible first | refine bL.ret ?_ | refine sE.l ?_ | refine sE.r ?_)))
 ·exact .inl ⟨rfl,by assumption⟩
 ·exact .inl ⟨rfl,by assumption⟩
 refine bL.loop (fun t:Int=>0≤t∧t≤12) (fun t=>(12 - t).toNat) ⟨by simp,by simp⟩ (by simp;omega) ?_
 rintro t ⟨h1,h2⟩
 (simp (disch:=omega) only[wr,Int.ofNat_eq_natCast])
 (repeat' (first | (with_reducible first | refine bL.bO ?_ | refine bL.bP ?_ | refine bL.bN ?_ | refine bL.c7 ?_) | with_reducible refine bL.dV (by decide) ?_ | with_reducible refine bL.dN (by decide) ?_ | ((with_reducible first | refine bL.call (cZ (by assumption)) ?_ | refine bL.call (cX (by assumption)) ?_ | refine bL.cJ (by decide) (cZ (by assumption)) ?_ | refine bL.cJ (by decide) (cX (by assumption)) ?_);rintro _ (⟨rfl,_⟩ | rfl)) | with_reducible refine bL.fX (by decide) ?_ | (with_reducible first | refine bL.ite (fun _=>?_) (fun _=>?_) | refine bL.bX ?_) | with_reducible refine bL.bW (by (first | rfl | assumption | omega | (simp [cY,room,c5,eW] at *;omega))) ?_ | (with_reducible first | refine bL.ret ?_ | refine sE.l ?_ | refine sE.r ?_)))
 ·exact .inl ⟨rfl,by assumption⟩
 ·rename_i x
  simp only[List.length_cons,List.length_nil,aB] at x
  exact ⟨⟨by omega,by omega⟩,by omega⟩
 ·exact .inr rfl
theorem qP {K:Nat} {r:cC} (hK:100<K) (h:Rd r):cR (aIC K r) (fun v=>Rd v.2∧mu v.2≤mu r):=by
 refine cR.of ?_
 unfold aIC
 (repeat' (first | (with_reducible first | refine bL.bP ?_ | refine bL.bN ?_) | with_reducible refine bL.dV (by decide) ?_ | with_reducible refine bL.dN (by decide) ?_ | ((with_reducible first | refine bL.call (aQc (by omega) (by assumption)) ?_ | refine bL.call (oQ (by assumption)) ?_ | refine bL.call (qO (by assumption)) ?_ | refine bL.call (fG (by assumption)) ?_);rintro ⟨_,_⟩ ⟨_,_⟩;try dsimp only at *) | ((with_reducible first | refine bL.call (cZ (by assumption)) ?_ | refine bL.cJ (by decide) (cZ (by assumption)) ?_);rintro _ (⟨rfl,_⟩ | rfl)) | (with_reducible refine bL.call (eA (by assumption)) ?_;rintro ⟨_,_⟩ h;dsimp only at h;rcases h with (⟨rfl,_,_⟩ | ⟨rfl,rfl⟩) <;> try dsimp only) | ((with_reducible first | refine bL.call (eN (by assumption)) ?_ | refine bL.call (iP (by assumption) (by decide)) ?_);rintro _ h;(try dsimp only at h);obtain ⟨_,_⟩:=h;try dsimp only) | with_reducible refine bL.fX (by decide) ?_ | (with_reducible first | refine bL.ite (fun _=>?_) (fun _=>?_) | refine bL.ret ?_ | refine sE.l ?_ | refine sE.r ?_)))
 (all_goals first | trivial | (refine ⟨by assumption,?_⟩;dsimp only;omega) | (refine ⟨⟨by assumption,?_⟩,?_⟩ <;> dsimp only <;> omega) | (refine ⟨⟨by assumption,?_,?_⟩,?_⟩ <;> dsimp only <;> omega))
theorem mX {K:Nat} {r:cC} (hK:100<K) (h:Rd r):cR (aLz K r) (fun v=>Rd v.2∧mu v.2≤mu r):=by
 refine cR.of ?_
 unfold aLz
 (repeat' (first | with_reducible refine bL.dV (by decide) ?_ | with_reducible refine bL.dN (by decide) ?_ | (with_reducible refine bL.call (qP (by omega) (by assumption)) ?_;rintro ⟨_,_⟩ ⟨_,_⟩;try dsimp only at *) | (with_reducible refine bL.call (eA (by assumption)) ?_;rintro ⟨_,_⟩ h;dsimp only at h;rcases h with (⟨rfl,_,_⟩ | ⟨rfl,rfl⟩) <;> try dsimp only) | (with_reducible first | refine bL.ite (fun _=>?_) (fun _=>?_) | refine bL.ret ?_ | refine sE.l ?_ | refine sE.r ?_)))
 (all_goals first | trivial | (refine ⟨by assumption,?_⟩;dsimp only;omega) | (refine ⟨⟨by assumption,?_⟩,?_⟩ <;> dsimp only <;> omega) | (refine ⟨⟨by assumption,?_,?_⟩,?_⟩ <;> dsimp only <;> omega))
theorem aQd {K:Nat} {r:cC} (h:Rd r):cR (aIJ K r) (fun v=>Rd v.2∧mu v.2≤mu r - 1):=by
 refine cR.of ?_
 unfold aIJ
 (repeat' (first | (with_reducible refine bL.call (fG (by assumption)) ?_;rintro ⟨_,_⟩ ⟨_,_⟩;try dsimp only at *) | (with_reducible refine bL.call (eN (by assumption)) ?_;rintro _ h;(try dsimp only at h);obtain ⟨_,_⟩:=h;try dsimp only) | (with_reducible first | refine bL.ret ?_ | refine sE.l ?_ | refine sE.r ?_)))
 (all_goals first | trivial | (refine ⟨by assumption,?_⟩;dsimp only;omega) | (refine ⟨⟨by assumption,?_⟩,?_⟩ <;> dsimp only <;> omega) | (refine ⟨⟨by assumption,?_,?_⟩,?_⟩ <;> dsimp only <;> omega))
end Go.Proofs.YtdbfbedholdjaaaGreat

namespace Go.Proofs.YtdbfbedholdjaaaGreat
open Go Go.Dl
variable [dK]
set_option maxRecDepth 100000
set_option maxHeartbeats 8000000
theorem cI.aQe (x:cI):x.sz=1+cI.hG x.fM:=by cases x;rw[cI.sz]
theorem cG.aQe (x:cG):x.sz=1+cI.hG x.cT+oN x.eT+cG.j9 x.bY:=by cases x;rw[cG.sz]
theorem Tq {p:Prop} (h:p:=by first | trivial | (refine ⟨by assumption,?_⟩;(((try simp only[aD,List.length_cons,List.length_nil,cI.sz,cI.hG,mO,cG.sz,cG.hG,cG.j9,tS,pK,oN,qN,iT.sz,wL,uM,gX.sz,yZ,pI]);(try dsimp only);omega))) | (refine ⟨⟨by assumption,?_⟩,?_⟩ <;> (((try simp only[aD,List.length_cons,List.length_nil,cI.sz,cI.hG,mO,cG.sz,cG.hG,cG.j9,tS,pK,oN,qN,iT.sz,wL,uM,gX.sz,yZ,pI]);(try dsimp only);omega))) | (refine ⟨⟨by assumption,?_,?_⟩,?_⟩ <;> (((try simp only[aD,List.length_cons,List.length_nil,cI.sz,cI.hG,mO,cG.sz,cG.hG,cG.j9,tS,pK,oN,qN,iT.sz,wL,uM,gX.sz,yZ,pI]);(try dsimp only);omega))) | (refine ⟨by assumption,?_⟩;dsimp only;simp only[cI.aQe,cG.aQe] at *;omega) | (exfalso;simp only[beq_iff_eq] at *;omega)):p:=h
theorem mY {K:Nat} {r:cC} (hK:100000<K) (h:Rd r):cR (aLy K r) (fun v=>Rd v.2∧v.1.length+mu v.2≤mu r):=by
 have hm:=l8 h
 refine cR.of ?_
 unfold aLy
 (repeat' (first | (with_reducible first | refine bL.bP ?_ | refine bL.bN ?_ | refine bL.c7 ?_) | with_reducible refine bL.dV (by decide) ?_ | with_reducible refine bL.dN (by decide) ?_ | ((with_reducible first | refine bL.call (qP (by omega) (by assumption)) ?_ | refine bL.call (fG (by assumption)) ?_);rintro ⟨_,_⟩ ⟨_,_⟩;try dsimp only at *) | ((with_reducible first | refine bL.call (cZ (by assumption)) ?_ | refine bL.cJ (by decide) (cZ (by assumption)) ?_);rintro _ (⟨rfl,_⟩ | rfl)) | (with_reducible refine bL.call (eA (by assumption)) ?_;rintro ⟨_,_⟩ h;dsimp only at h;rcases h with (⟨rfl,_,_⟩ | ⟨rfl,rfl⟩) <;> try dsimp only) | ((with_reducible first | refine bL.call (eN (by assumption)) ?_ | refine bL.call (eU (by assumption)) ?_);rintro _ h;(try dsimp only at h);obtain ⟨_,_⟩:=h;try dsimp only) | with_reducible refine bL.fX (by decide) ?_ | (with_reducible first | refine bL.ite (fun _=>?_) (fun _=>?_) | refine bL.bX ?_) | with_reducible refine bL.bW (by (first | rfl | assumption | omega | (simp [cY,room,c5,eW] at *;omega))) ?_ | (with_reducible first | refine bL.ret ?_ | refine sE.l ?_ | refine sE.r ?_)))
 ·exact ⟨by assumption,by simp;omega⟩
 ·rename_i r1 h1 h2
  refine bL.loop (fun t:cC × List fE=>Rd t.1∧t.2.length+mu t.1≤mu r1) (fun t=>mu t.1) ⟨h1,by simp⟩ (by simp;omega) ?_
  rintro ⟨q,l⟩ ⟨g1,g2⟩
  dsimp only at g1 g2 ⊢
  refine bL.ite (fun e=>?_) (fun e=>?_)
  ·have hp:=wG (by simpa using e)
   (repeat' (first | (with_reducible first | refine bL.bP ?_ | refine bL.bN ?_ | refine bL.c7 ?_) | with_reducible refine bL.dV (by decide) ?_ | with_reducible refine bL.dN (by decide) ?_ | ((with_reducible first | refine bL.call (qP (by omega) (by assumption)) ?_ | refine bL.call (fG (by assumption)) ?_);rintro ⟨_,_⟩ ⟨_,_⟩;try dsimp only at *) | ((with_reducible first | refine bL.call (cZ (by assumption)) ?_ | refine bL.cJ (by decide) (cZ (by assumption)) ?_);rintro _ (⟨rfl,_⟩ | rfl)) | (with_reducible refine bL.call (eA (by assumption)) ?_;rintro ⟨_,_⟩ h;dsimp only at h;rcases h with (⟨rfl,_,_⟩ | ⟨rfl,rfl⟩) <;> try dsimp only) | ((with_reducible first | refine bL.call (eN (by assumption)) ?_ | refine bL.call (eU (by assumption)) ?_);rintro _ h;(try dsimp only at h);obtain ⟨_,_⟩:=h;try dsimp only) | with_reducible refine bL.fX (by decide) ?_ | (with_reducible first | refine bL.ite (fun _=>?_) (fun _=>?_) | refine bL.bX ?_) | with_reducible refine bL.bW (by (first | rfl | assumption | omega | (simp [cY,room,c5,eW] at *;omega))) ?_ | (with_reducible first | refine bL.ret ?_ | refine sE.l ?_ | refine sE.r ?_)))
   (all_goals exact Tq)
  ·(repeat' (first | (with_reducible first | refine bL.bP ?_ | refine bL.bN ?_ | refine bL.c7 ?_) | with_reducible refine bL.dV (by decide) ?_ | with_reducible refine bL.dN (by decide) ?_ | ((with_reducible first | refine bL.call (qP (by omega) (by assumption)) ?_ | refine bL.call (fG (by assumption)) ?_);rintro ⟨_,_⟩ ⟨_,_⟩;try dsimp only at *) | ((with_reducible first | refine bL.call (cZ (by assumption)) ?_ | refine bL.cJ (by decide) (cZ (by assumption)) ?_);rintro _ (⟨rfl,_⟩ | rfl)) | (with_reducible refine bL.call (eA (by assumption)) ?_;rintro ⟨_,_⟩ h;dsimp only at h;rcases h with (⟨rfl,_,_⟩ | ⟨rfl,rfl⟩) <;> try dsimp only) | ((with_reducible first | refine bL.call (eN (by assumption)) ?_ | refine bL.call (eU (by assumption)) ?_);rintro _ h;(try dsimp only at h);obtain ⟨_,_⟩:=h;try dsimp only) | with_reducible refine bL.fX (by decide) ?_ | (with_reducible first | refine bL.ite (fun _=>?_) (fun _=>?_) | refine bL.bX ?_) | with_reducible refine bL.bW (by (first | rfl | assumption | omega | (simp [cY,room,c5,eW] at *;omega))) ?_ | (with_reducible first | refine bL.ret ?_ | refine sE.l ?_ | refine sE.r ?_)))
   (all_goals exact Tq)
theorem mZ {K:Nat} {r:cC} (hK:100000<K) (h:Rd r):cR (aIG K r) (fun v=>Rd v.2∧v.1.length+mu v.2≤mu r):=by
 have hm:=l8 h
 refine cR.of ?_
 unfold aIG
 (repeat' (first | (with_reducible first | refine bL.bP ?_ | refine bL.bN ?_ | refine bL.c7 ?_) | with_reducible refine bL.dV (by decide) ?_ | with_reducible refine bL.dN (by decide) ?_ | ((with_reducible first | refine bL.call (qP (by omega) (by assumption)) ?_ | refine bL.call (oQ (by assumption)) ?_ | refine bL.call (qO (by assumption)) ?_ | refine bL.call (fG (by assumption)) ?_);rintro ⟨_,_⟩ ⟨_,_⟩;try dsimp only at *) | ((with_reducible first | refine bL.call (cX (by assumption)) ?_ | refine bL.cJ (by decide) (cX (by assumption)) ?_);rintro _ (⟨rfl,_⟩ | rfl)) | (with_reducible refine bL.call (eA (by assumption)) ?_;rintro ⟨_,_⟩ h;dsimp only at h;rcases h with (⟨rfl,_,_⟩ | ⟨rfl,rfl⟩) <;> try dsimp only) | ((with_reducible first | refine bL.call (eN (by assumption)) ?_ | refine bL.call (eU (by assumption)) ?_);rintro _ h;(try dsimp only at h);obtain ⟨_,_⟩:=h;try dsimp only) | with_reducible refine bL.fX (by decide) ?_ | (with_reducible first | refine bL.ite (fun _=>?_) (fun _=>?_) | refine bL.bX ?_) | with_reducible refine bL.bW (by (first | rfl | assumption | omega | (simp [cY,room,c5,eW] at *;omega))) ?_ | (with_reducible first | refine bL.ret ?_ | refine sE.l ?_ | refine sE.r ?_)))
 refine bL.loop (fun t:cC × List fE=>Rd t.1∧t.2.length+mu t.1≤mu r) (fun t=>mu t.1) ⟨h,by simp⟩ (by simp;omega) ?_
 rintro ⟨q,l⟩ ⟨g1,g2⟩
 dsimp only at g1 g2 ⊢
 (repeat' (first | (with_reducible first | refine bL.bP ?_ | refine bL.bN ?_ | refine bL.c7 ?_) | with_reducible refine bL.dV (by decide) ?_ | with_reducible refine bL.dN (by decide) ?_ | ((with_reducible first | refine bL.call (qP (by omega) (by assumption)) ?_ | refine bL.call (oQ (by assumption)) ?_ | refine bL.call (qO (by assumption)) ?_ | refine bL.call (fG (by assumption)) ?_);rintro ⟨_,_⟩ ⟨_,_⟩;try dsimp only at *) | ((with_reducible first | refine bL.call (cX (by assumption)) ?_ | refine bL.cJ (by decide) (cX (by assumption)) ?_);rintro _ (⟨rfl,_⟩ | rfl)) | (with_reducible refine bL.call (eA (by assumption)) ?_;rintro ⟨_,_⟩ h;dsimp only at h;rcases h with (⟨rfl,_,_⟩ | ⟨rfl,rfl⟩) <;> try dsimp only) | ((with_reducible first | refine bL.call (eN (by assumption)) ?_ | refine bL.call (eU (by assumption)) ?_);rintro _ h;(try dsimp only at h);obtain ⟨_,_⟩:=h;try dsimp only) | with_reducible refine bL.fX (by decide) ?_ | (with_reducible first | refine bL.ite (fun _=>?_) (fun _=>?_) | refine bL.bX ?_) | with_reducible refine bL.bW (by (first | rfl | assumption | omega | (simp [cY,room,c5,eW] at *;omega))) ?_ | (with_reducible first | refine bL.ret ?_ | refine sE.l ?_ | refine sE.r ?_)))
 (all_goals exact Tq)
theorem aQf {K:Nat} {r:cC} (hK:100000<K) (h:Rd r):cR (aOL K r) (fun v=>Rd v.2∧(v.1.sz+4 * mu v.2≤4 * mu r+1∧v.1.bR=1)):=by
 have hm:=l8 h
 refine cR.of ?_
 unfold aOL
 (repeat' (first | (with_reducible first | refine bL.bP ?_ | refine bL.bN ?_ | refine bL.c7 ?_) | with_reducible refine bL.dV (by decide) ?_ | with_reducible refine bL.dN (by decide) ?_ | ((with_reducible first | refine bL.call (mY (by omega) (by assumption)) ?_ | refine bL.call (mX (by omega) (by assumption)) ?_ | refine bL.call (fG (by assumption)) ?_);rintro ⟨_,_⟩ ⟨_,_⟩;try dsimp only at *) | ((with_reducible first | refine bL.call (cX (by assumption)) ?_ | refine bL.cJ (by decide) (cX (by assumption)) ?_);rintro _ (⟨rfl,_⟩ | rfl)) | ((with_reducible first | refine bL.call (eN (by assumption)) ?_ | refine bL.call (eU (by assumption)) ?_);rintro _ h;(try dsimp only at h);obtain ⟨_,_⟩:=h;try dsimp only) | with_reducible refine bL.fX (by decide) ?_ | (with_reducible first | refine bL.ite (fun _=>?_) (fun _=>?_) | refine bL.bX ?_) | with_reducible refine bL.bW (by (first | rfl | assumption | omega | (simp [cY,room,c5,eW] at *;omega))) ?_ | (with_reducible first | refine bL.ret ?_ | refine sE.l ?_ | refine sE.r ?_)))
 rename_i x r1 h1 h2 r2 h3 h4
 refine bL.loop (fun t:cC × List iT=>Rd t.1∧t.2.length≤wL t.2∧wL t.2+4 * mu t.1≤4 * mu r2) (fun t=>mu t.1) ⟨h3,by simp [wL],by simp [wL]⟩ (by simp;omega) ?_
 rintro ⟨q,l⟩ ⟨g1,g2,g3⟩
 dsimp only at g1 g2 g3 ⊢
 (repeat' (first | (with_reducible first | refine bL.bP ?_ | refine bL.bN ?_ | refine bL.c7 ?_) | with_reducible refine bL.dV (by decide) ?_ | with_reducible refine bL.dN (by decide) ?_ | ((with_reducible first | refine bL.call (mY (by omega) (by assumption)) ?_ | refine bL.call (mX (by omega) (by assumption)) ?_ | refine bL.call (fG (by assumption)) ?_);rintro ⟨_,_⟩ ⟨_,_⟩;try dsimp only at *) | ((with_reducible first | refine bL.call (cX (by assumption)) ?_ | refine bL.cJ (by decide) (cX (by assumption)) ?_);rintro _ (⟨rfl,_⟩ | rfl)) | ((with_reducible first | refine bL.call (eN (by assumption)) ?_ | refine bL.call (eU (by assumption)) ?_);rintro _ h;(try dsimp only at h);obtain ⟨_,_⟩:=h;try dsimp only) | with_reducible refine bL.fX (by decide) ?_ | (with_reducible first | refine bL.ite (fun _=>?_) (fun _=>?_) | refine bL.bX ?_) | with_reducible refine bL.bW (by (first | rfl | assumption | omega | (simp [cY,room,c5,eW] at *;omega))) ?_ | (with_reducible first | refine bL.ret ?_ | refine sE.l ?_ | refine sE.r ?_)))
 all_goals try (refine ⟨by assumption,?_,rfl⟩;(((try simp only[aD,List.length_cons,List.length_nil,cI.sz,cI.hG,mO,cG.sz,cG.hG,cG.j9,tS,pK,oN,qN,iT.sz,wL,uM,gX.sz,yZ,pI]);(try dsimp only);omega)))
 (all_goals exact Tq)
abbrev PE (r:cC) (v:cI × cC):Prop:=Rd v.2∧1≤v.1.sz∧v.1.sz+2 * mu v.2≤2 * mu r+1
theorem aI6:∀ k:Nat,(∀ (r:cC) (d:Int),Rd r→3 * mu r+100001<k→cR (oM k r d) (PE r))∧(∀ (r:cC) (e:cI) (d:Int),Rd r→3 * mu r+100002<k→cR (z7 k r e d) (PE r)) ∧
 (∀ (r:cC) (d:Int),Rd r→3 * mu r+100000<k→cR (aFw k r d) (PE r))
 | 0=>⟨fun _ _ _ h=>by omega,fun _ _ _ _ h=>by omega,fun _ _ _ h=>by omega⟩
 | k+1=>by
   obtain ⟨ihE,ihI,ihO⟩:=aI6 k
   refine ⟨fun r d h hk=>?_,fun r e d h hk=>?_,fun r d h hk=>?_⟩
   ·have hm:=l8 h
    refine cR.of ?_
    unfold oM
    by_cases hd:d > 6
    ·simp only[hd,decide_true,Bool.true_and]
     (repeat' (first | with_reducible refine bL.bP ?_ | with_reducible refine bL.dV (by decide) ?_ | with_reducible refine bL.dN (by decide) ?_ | (with_reducible refine bL.call (ihO _ _ (by assumption) (by omega)) ?_;rintro ⟨_,_⟩ ⟨_,_⟩;try dsimp only at *) | (with_reducible refine bL.cJ (by decide) (uN (by omega) (by assumption)) ?_;rintro _ (⟨rfl,_⟩ | rfl)) | (with_reducible refine bL.call (aHq (by omega) (by assumption)) ?_;rintro ⟨_,_⟩ h;dsimp only at h;rcases h with (⟨_,rfl⟩ | ⟨_,_,_⟩) <;> try dsimp only) | (with_reducible refine bL.call (eA (by assumption)) ?_;rintro ⟨_,_⟩ h;dsimp only at h;rcases h with (⟨rfl,_,_⟩ | ⟨rfl,rfl⟩) <;> try dsimp only) | (with_reducible refine bL.call (iP (by assumption) (by decide)) ?_;rintro _ h;(try dsimp only at h);obtain ⟨_,_⟩:=h;try dsimp only) | with_reducible refine bL.fX (by decide) ?_ | (with_reducible first | refine bL.ite (fun _=>?_) (fun _=>?_) | refine bL.ret ?_ | refine sE.l ?_ | refine sE.r ?_)))
     (all_goals exact Tq)
    ·simp only[hd,decide_false,Bool.false_and]
     (repeat' (first | with_reducible refine bL.bP ?_ | with_reducible refine bL.dV (by decide) ?_ | with_reducible refine bL.dN (by decide) ?_ | (with_reducible refine bL.call (ihO _ _ (by assumption) (by omega)) ?_;rintro ⟨_,_⟩ ⟨_,_⟩;try dsimp only at *) | (with_reducible refine bL.cJ (by decide) (uN (by omega) (by assumption)) ?_;rintro _ (⟨rfl,_⟩ | rfl)) | (with_reducible refine bL.call (aHq (by omega) (by assumption)) ?_;rintro ⟨_,_⟩ h;dsimp only at h;rcases h with (⟨_,rfl⟩ | ⟨_,_,_⟩) <;> try dsimp only) | (with_reducible refine bL.call (eA (by assumption)) ?_;rintro ⟨_,_⟩ h;dsimp only at h;rcases h with (⟨rfl,_,_⟩ | ⟨rfl,rfl⟩) <;> try dsimp only) | (with_reducible refine bL.call (iP (by assumption) (by decide)) ?_;rintro _ h;(try dsimp only at h);obtain ⟨_,_⟩:=h;try dsimp only) | with_reducible refine bL.fX (by decide) ?_ | (with_reducible first | refine bL.ite (fun _=>?_) (fun _=>?_) | refine bL.ret ?_ | refine sE.l ?_ | refine sE.r ?_)))
     (all_goals exact Tq)
   ·have hm:=l8 h
    refine cR.of ?_
    unfold z7
    (repeat' (first | (with_reducible first | refine bL.bP ?_ | refine bL.bN ?_ | refine bL.c7 ?_) | with_reducible refine bL.dV (by decide) ?_ | with_reducible refine bL.dN (by decide) ?_ | ((with_reducible first | refine bL.call (ihE _ _ (by assumption) (by omega)) ?_ | refine bL.call (fG (by assumption)) ?_);rintro ⟨_,_⟩ ⟨_,_⟩;try dsimp only at *) | (with_reducible refine bL.cJ (by decide) (uN (by omega) (by assumption)) ?_;rintro _ (⟨rfl,_⟩ | rfl)) | (with_reducible refine bL.call (eA (by assumption)) ?_;rintro ⟨_,_⟩ h;dsimp only at h;rcases h with (⟨rfl,_,_⟩ | ⟨rfl,rfl⟩) <;> try dsimp only) | ((with_reducible first | refine bL.call (eN (by assumption)) ?_ | refine bL.call (eU (by assumption)) ?_);rintro _ h;(try dsimp only at h);obtain ⟨_,_⟩:=h;try dsimp only) | with_reducible refine bL.fX (by decide) ?_ | (with_reducible first | refine bL.ite (fun _=>?_) (fun _=>?_) | refine bL.bX ?_) | with_reducible refine bL.bW (by (first | rfl | assumption | omega | (simp [cY,room,c5,eW] at *;omega))) ?_ | (with_reducible first | refine bL.ret ?_ | refine sE.l ?_ | refine sE.r ?_)))
    ·(all_goals exact Tq)
    ·rename_i x r2 h3 h4 r3 h5 h6
     refine bL.loop (fun t:cC × List cI=>Rd t.1∧t.2.length≤cI.hG t.2∧cI.hG t.2+2 * mu t.1≤2 * mu r3) (fun t=>mu t.1) ⟨h5,by simp,by simp [cI.hG]⟩ (by simp;omega) ?_
     rintro ⟨q,l⟩ ⟨g1,g2,g3⟩
     dsimp only at g1 g2 g3 ⊢
     refine bL.ite (fun e=>?_) (fun e=>?_)
     ·have hp:=wG (by simpa using e)
      (repeat' (first | (with_reducible first | refine bL.bP ?_ | refine bL.bN ?_ | refine bL.c7 ?_) | with_reducible refine bL.dV (by decide) ?_ | with_reducible refine bL.dN (by decide) ?_ | ((with_reducible first | refine bL.call (ihE _ _ (by assumption) (by omega)) ?_ | refine bL.call (fG (by assumption)) ?_);rintro ⟨_,_⟩ ⟨_,_⟩;try dsimp only at *) | (with_reducible refine bL.cJ (by decide) (uN (by omega) (by assumption)) ?_;rintro _ (⟨rfl,_⟩ | rfl)) | (with_reducible refine bL.call (eA (by assumption)) ?_;rintro ⟨_,_⟩ h;dsimp only at h;rcases h with (⟨rfl,_,_⟩ | ⟨rfl,rfl⟩) <;> try dsimp only) | ((with_reducible first | refine bL.call (eN (by assumption)) ?_ | refine bL.call (eU (by assumption)) ?_);rintro _ h;(try dsimp only at h);obtain ⟨_,_⟩:=h;try dsimp only) | with_reducible refine bL.fX (by decide) ?_ | (with_reducible first | refine bL.ite (fun _=>?_) (fun _=>?_) | refine bL.bX ?_) | with_reducible refine bL.bW (by (first | rfl | assumption | omega | (simp [cY,room,c5,eW] at *;omega))) ?_ | (with_reducible first | refine bL.ret ?_ | refine sE.l ?_ | refine sE.r ?_)))
      (all_goals exact Tq)
     ·(repeat' (first | (with_reducible first | refine bL.bP ?_ | refine bL.bN ?_ | refine bL.c7 ?_) | with_reducible refine bL.dV (by decide) ?_ | with_reducible refine bL.dN (by decide) ?_ | ((with_reducible first | refine bL.call (ihE _ _ (by assumption) (by omega)) ?_ | refine bL.call (fG (by assumption)) ?_);rintro ⟨_,_⟩ ⟨_,_⟩;try dsimp only at *) | (with_reducible refine bL.cJ (by decide) (uN (by omega) (by assumption)) ?_;rintro _ (⟨rfl,_⟩ | rfl)) | (with_reducible refine bL.call (eA (by assumption)) ?_;rintro ⟨_,_⟩ h;dsimp only at h;rcases h with (⟨rfl,_,_⟩ | ⟨rfl,rfl⟩) <;> try dsimp only) | ((with_reducible first | refine bL.call (eN (by assumption)) ?_ | refine bL.call (eU (by assumption)) ?_);rintro _ h;(try dsimp only at h);obtain ⟨_,_⟩:=h;try dsimp only) | with_reducible refine bL.fX (by decide) ?_ | (with_reducible first | refine bL.ite (fun _=>?_) (fun _=>?_) | refine bL.bX ?_) | with_reducible refine bL.bW (by (first | rfl | assumption | omega | (simp [cY,room,c5,eW] at *;omega))) ?_ | (with_reducible first | refine bL.ret ?_ | refine sE.l ?_ | refine sE.r ?_)))
      (all_goals exact Tq)
   ·have hm:=l8 h
    refine cR.of ?_
    unfold aFw
    (repeat' (first | (with_reducible first | refine bL.bP ?_ | refine bL.bN ?_) | with_reducible refine bL.dV (by decide) ?_ | with_reducible refine bL.dN (by decide) ?_ | ((with_reducible first | refine bL.call (ihI _ _ _ (by assumption) (by omega)) ?_ | refine bL.call (ihE _ _ (by assumption) (by omega)) ?_ | refine bL.call (aQd (by assumption)) ?_ | refine bL.call (qO (by assumption)) ?_ | refine bL.call (fG (by assumption)) ?_);rintro ⟨_,_⟩ ⟨_,_⟩;try dsimp only at *) | ((with_reducible first | refine bL.call (cZ (by assumption)) ?_ | refine bL.call (cX (by assumption)) ?_ | refine bL.cJ (by decide) (cZ (by assumption)) ?_ | refine bL.cJ (by decide) (cX (by assumption)) ?_);rintro _ (⟨rfl,_⟩ | rfl)) | (with_reducible refine bL.call (eA (by assumption)) ?_;rintro ⟨_,_⟩ h;dsimp only at h;rcases h with (⟨rfl,_,_⟩ | ⟨rfl,rfl⟩) <;> try dsimp only) | ((with_reducible first | refine bL.call (eN (by assumption)) ?_ | refine bL.call (iP (by assumption) (by decide)) ?_);rintro _ h;(try dsimp only at h);obtain ⟨_,_⟩:=h;try dsimp only) | with_reducible refine bL.fX (by decide) ?_ | (with_reducible first | refine bL.ite (fun _=>?_) (fun _=>?_) | refine bL.ret ?_ | refine sE.l ?_ | refine sE.r ?_)))
    (all_goals exact Tq)
theorem oR {K:Nat} {r:cC} {d:Int} (hK:200000<K) (h:Rd r):cR (oM K r d) (PE r):=(aI6 K).1 r d h (by have:=l8 h;omega)
theorem aHr {K:Nat} {r:cC} {e:cI} {d:Int} (hK:200000<K) (h:Rd r):cR (z7 K r e d) (PE r):=(aI6 K).2.1 r e d h (by have:=l8 h;omega)
theorem aQg {K:Nat} {r:cC} (hK:200000<K) (h:Rd r):cR (aO2 K r) (fun v=>Rd v.2∧v.1.sz+4 * mu v.2≤4 * (mu r - 1)+4):=by
 have hm:=l8 h
 refine cR.of ?_
 unfold aO2
 (repeat' (first | (with_reducible first | refine bL.bP ?_ | refine bL.bN ?_) | with_reducible refine bL.dV (by decide) ?_ | with_reducible refine bL.dN (by decide) ?_ | ((with_reducible first | refine bL.call (aHr (by omega) (by assumption)) ?_ | refine bL.call (oR (by omega) (by assumption)) ?_ | refine bL.call (fG (by assumption)) ?_);rintro ⟨_,_⟩ ⟨_,_⟩;try dsimp only at *) | ((with_reducible first | refine bL.call (cX (by assumption)) ?_ | refine bL.cJ (by decide) (cX (by assumption)) ?_);rintro _ (⟨rfl,_⟩ | rfl)) | (with_reducible refine bL.call (eA (by assumption)) ?_;rintro ⟨_,_⟩ h;dsimp only at h;rcases h with (⟨rfl,_,_⟩ | ⟨rfl,rfl⟩) <;> try dsimp only) | ((with_reducible first | refine bL.call (eN (by assumption)) ?_ | refine bL.call (iP (by assumption) (by decide)) ?_);rintro _ h;(try dsimp only at h);obtain ⟨_,_⟩:=h;try dsimp only) | with_reducible refine bL.fX (by decide) ?_ | (with_reducible first | refine bL.ite (fun _=>?_) (fun _=>?_) | refine bL.ret ?_ | refine sE.l ?_ | refine sE.r ?_)))
 (all_goals exact Tq)
end Go.Proofs.YtdbfbedholdjaaaGreat
