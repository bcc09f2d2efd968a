/- No conditions. -/
import Derived.Test.YtdbfbedholdjaaaGreatHTy
import Derived.Test.YtdbfbedholdjaaaGreatHDC
import Derived.Test.YtdbfbedholdjaaaGreatHLx
import Derived.Test.YtdbfbedholdjaaaGreatHLp
set_option linter.unusedVariables false
set_option linter.unusedSimpArgs false
set_option linter.unusedSectionVars false
namespace Go.Proofs.YtdbfbedholdjaaaGreat
open Go Go.Dl
variable [dO]
set_option maxRecDepth 100000
def bO {α:Type} (m:Option α) (Q:α→Prop):Prop:=∃ z,m=some z∧Q z
def sE {A T:Type} (p:A→Prop) (q:T→Prop):A ⊕ T→Prop
 | .inl a=>p a
 | .inr t=>q t
def cQ {R:Type} (m:Option (R ⊕ R)) (Q:R→Prop):Prop:=∃ v,bX m=some v∧Q v
section
variable {A T U R X Y:Type}
theorem sE.l {p:A→Prop} {q:T→Prop} {a:A} (h:p a):sE p q (.inl a):=h
theorem sE.r {p:A→Prop} {q:T→Prop} {t:T} (h:q t):sE p q (.inr t):=h
theorem bO.ret {α:Type} {Q:α→Prop} {z:α} (h:Q z):bO (some z) Q:=⟨z,rfl,h⟩
theorem bO.zG {α:Type} {m:Option α} {Q Q':α→Prop} (h:bO m Q) (hq:∀ z,Q z→Q' z):bO m Q':=by
 obtain ⟨z,h1,h2⟩:=h;exact ⟨z,h1,hq z h2⟩
theorem cQ.zG {m:Option (R ⊕ R)} {Q Q':R→Prop} (h:cQ m Q) (hq:∀ z,Q z→Q' z):cQ m Q':=by
 obtain ⟨z,h1,h2⟩:=h;exact ⟨z,h1,hq z h2⟩
theorem bO.bR {α:Type} {v:X} {f:X→Option α} {Q:α→Prop} (h:bO (f v) Q):bO (bR v f) Q:=h
theorem bO.ite {α:Type} {c:Prop} [Decidable c] {a b:Option α} {Q:α→Prop} (h1:c→bO a Q) (h2:¬ c→bO b Q):bO (if c then a else b) Q:=by
 split
 ·exact h1 ‹_›
 ·exact h2 ‹_›
theorem bO.dN {α:Type} {c:Prop} [Decidable c] {a b:Option α} {Q:α→Prop} (h:c) (h1:bO a Q):bO (if c then a else b) Q:=by rw[aE h];exact h1
theorem bO.dA {α:Type} {c:Prop} [Decidable c] {a b:Option α} {Q:α→Prop} (h:¬ c) (h1:bO b Q):bO (if c then a else b) Q:=by rw[aD h];exact h1
theorem bO.b7 {α:Type} {m:Option α} {Q:α→Prop} (h:bO m Q):bO (bY [] m) Q:=h
theorem bO.bY {α:Type} {v:Bool} {vs:List Bool} {m:Option α} {Q:α→Prop} (hv:v=true) (h:bO (bY vs m) Q):bO (bY (v::vs) m) Q:=by
 unfold Go.Dl.bY;rw[aE hv];exact h
theorem bO.bT {m:Option (A ⊕ T)} {f:T→Option (A ⊕ U)} {p:A→Prop} {q:U→Prop} (h:bO m (sE p (fun t=>bO (f t) (sE p q)))):bO (bT m f) (sE p q):=by
 obtain ⟨z,rfl,h⟩:=h
 match z,h with
 | .inl a,h=>exact ⟨_,rfl,h⟩
 | .inr t,h=>exact h
theorem bO.bQ {m:Option ((T ⊕ A) ⊕ T)} {p:A→Prop} {q:T→Prop} (h:bO m (sE (sE q p) q)):bO (bQ m) (sE p q):=by
 obtain ⟨z,rfl,h⟩:=h
 match z,h with
 | .inl (.inl t),h=>exact ⟨_,rfl,h⟩
 | .inl (.inr a),h=>exact ⟨_,rfl,h⟩
 | .inr t,h=>exact ⟨_,rfl,h⟩
theorem bO.cT {m:Option A} {p:A→Prop} {q:T→Prop} (h:bO m p):bO (m.map (Sum.inl:A→A ⊕ T)) (sE p q):=by
 obtain ⟨z,rfl,h⟩:=h;exact ⟨_,rfl,h⟩
theorem bO.b5 {m:Option (A ⊕ T)} {f:T→Option (A ⊕ U)} {p:A→Prop} {q:U→Prop} (I:T→Prop) (h:bO m (sE p I)) (hf:∀ t,I t→bO (f t) (sE p q)):bO (Go.Dl.bT m f) (sE p q):=by
 refine bO.bT (h.zG ?_)
 rintro (a | t) h
 ·exact h
 ·exact hf t h
theorem bO.eC {m:Option (A ⊕ T)} {f:T→Option (A ⊕ U)} {p:A→Prop} {q:U→Prop} (h:bO m (sE p (fun _=>True))) (hf:∀ t,bO (f t) (sE p q)):bO (Go.Dl.bT m f) (sE p q):=by
 refine bO.bT (h.zG ?_)
 rintro (a | t) h
 ·exact h
 ·exact hf t
theorem bO.call {α:Type} {m:Option (R ⊕ R)} {f:R→Option α} {Q:α→Prop} {P:R→Prop} (h:cQ m P) (hf:∀ v,P v→bO (f v) Q):bO ((bX m).bind f) Q:=by
 obtain ⟨v,h1,h2⟩:=h
 rw[h1];exact hf v h2
theorem bO.c8 {α:Type} {b:Bool} {d:R} {m:Option (R ⊕ R)} {f:R→Option α} {Q:α→Prop} {P:R→Prop} (h:b=true→cQ m P) (hf:∀ v,(b=true→P v)→bO (f v) Q):bO ((cE b (bX m) d).bind f) Q:=by
 unfold cE
 by_cases hb:b=true
 ·rw[aE hb];exact bO.call (h hb) (fun v hv=>hf v fun _=>hv)
 ·rw[aD hb];exact hf d (fun h=>absurd h hb)
theorem cQ.of {m:Option (R ⊕ R)} {Q:R→Prop} (h:bO m (sE Q Q)):cQ m Q:=by
 obtain ⟨z,rfl,h⟩:=h
 match z,h with
 | .inl a,h=>exact ⟨_,rfl,h⟩
 | .inr a,h=>exact ⟨_,rfl,h⟩
theorem bO.loop {K:Nat} {f:T→Option (A ⊕ T)} {t0:T} {p:A→Prop} (I:T→Prop) (μ:T→Nat) (h0:I t0) (hK:μ t0<K) (hs:∀ t,I t→bO (f t) (sE p (fun t'=>I t'∧μ t'<μ t))):bO (iter K f t0) p:=by
 induction K generalizing t0 with
 | zero=>omega
 | succ K ih =>
   unfold iter
   obtain ⟨z,hz,h⟩:=hs t0 h0
   rw[hz]
   match z,h with
   | .inl a,h=>exact ⟨_,rfl,h⟩
   | .inr t,h=>exact ih h.1 (by have:=h.2;omega)
theorem bO.upP {K:Nat} {f:Int→Option (A ⊕ Int)} {p:A→Prop} (n:Nat) (P:Nat→Prop) (hK:n<K) (hs:∀ i:Nat,i<n→bO (f i) (sE p (fun t=>t=(i:Int)+1∧P i))) (he:(∀ i,i<n→P i)→bO (f n) (sE p (fun _=>False))):bO (iter K f 0) p:=by
 refine bO.loop (fun t=>∃ i:Nat,t=i∧i≤n∧∀ j,j<i→P j) (fun t=>n - t.toNat) ⟨0,rfl,by omega,by simp⟩ (by simpa using hK) ?_
 rintro t ⟨i,rfl,hi,hP⟩
 by_cases h:i=n
 ·subst h
  refine (he hP).zG ?_
  rintro (a | t) h
  ·exact h
  ·exact h.elim
 ·refine (hs i (by omega)).zG ?_
  rintro (a | t) h
  ·exact h
  ·obtain ⟨h1,h2⟩:=h
   subst h1
   refine ⟨⟨i+1,by omega,by omega,fun j hj=>?_⟩,?_⟩
   ·by_cases h:j=i
    ·subst h;exact h2
    ·exact hP j (by omega)
   ·omega
theorem bO.up {K:Nat} {f:Int→Option (A ⊕ Int)} {p:A→Prop} (n:Nat) (hK:n<K) (hs:∀ i:Nat,i<n→bO (f i) (sE p (fun t=>t=(i:Int)+1∧True))) (he:bO (f n) (sE p (fun _=>False))):bO (iter K f 0) p :=
 bO.upP n (fun _=>True) hK hs (fun _=>he)
theorem jJ {l:List X} {d:X} {P:X→Prop} (h:∀ i,i<l.length→P (l.getD i d)):∀ x∈l,P x:=by
 intro x hx
 obtain ⟨i,hi,rfl⟩:=List.getElem_of_mem hx
 have:=h i hi
 rwa [List.getD,aF hi] at this
end
theorem wr {x:Int} (h1 : -1000000000000000000≤x) (h2:x≤1000000000000000000):IntKind.i64.wrap x=x:=wrap64 (by omega) (by omega)
end Go.Proofs.YtdbfbedholdjaaaGreat

namespace Go.Proofs.YtdbfbedholdjaaaGreat
open Go Go.Dl
variable [dO]
set_option maxRecDepth 100000
theorem aH6 {K:Nat} {a0 a1:Bytes} (hK:100000<K) (h0:a0.length≤10000) (h1:a1.length≤10000):cQ (aMU K a0 a1) (fun _=>True):=by
 refine cQ.of ?_
 unfold aMU
 (repeat' (first | (with_reducible first | refine bO.bR ?_ | refine bO.bT ?_ | refine bO.bQ ?_ | refine bO.cT ?_ | refine bO.ite (fun _=>?_) (fun _=>?_) | refine bO.b7 ?_) | with_reducible refine bO.bY (by (first | rfl | assumption | omega | (simp [cP,room,c5,e8] at *;omega))) ?_ | (with_reducible first | refine bO.ret ?_ | refine sE.l ?_ | refine sE.r ?_) | (refine (And.intro (a:=IntKind.i64.wrap _=_) (wrap64 (by omega) (by omega)) ?_))))
 refine bO.loop (fun t:Int=>0≤t∧t≤a0.length+1) (fun t=>(a0.length+1 - t).toNat) ⟨by omega,by omega⟩ (by omega) (fun t ⟨h0,h1⟩=>?_)
 (simp (disch:=omega) only[wr,Int.ofNat_eq_natCast])
 (repeat' (first | (with_reducible first | refine bO.bR ?_ | refine bO.bT ?_ | refine bO.bQ ?_ | refine bO.cT ?_ | refine bO.ite (fun _=>?_) (fun _=>?_) | refine bO.b7 ?_) | with_reducible refine bO.bY (by (first | rfl | assumption | omega | (simp [cP,room,c5,e8] at *;omega))) ?_ | (with_reducible first | refine bO.ret ?_ | refine sE.l ?_ | refine sE.r ?_) | (refine (And.intro (a:=IntKind.i64.wrap _=_) (wrap64 (by omega) (by omega)) ?_))))
 (all_goals (try (first | trivial | (intro h;cases h;done) | (first | rfl | assumption | omega | (simp [cP,room,c5,e8] at *;omega)))))
theorem aDD {K:Nat} {a0:Bytes} {a1:Int} (hK:100000<K) (h0:a0.length≤10000) (h1:0≤a1) (h2:a1<a0.length):cQ (aQI K a0 a1) (fun v=>v<0∨(a1<v∧v≤a0.length)):=by
 refine cQ.of ?_
 unfold aQI
 (repeat' (first | (with_reducible first | refine bO.bR ?_ | refine bO.bT ?_ | refine bO.bQ ?_ | refine bO.cT ?_ | refine bO.ite (fun _=>?_) (fun _=>?_) | refine bO.b7 ?_) | with_reducible refine bO.bY (by (first | rfl | assumption | omega | (simp [cP,room,c5,e8] at *;omega))) ?_ | (with_reducible first | refine bO.ret ?_ | refine sE.l ?_ | refine sE.r ?_) | (refine (And.intro (a:=IntKind.i64.wrap _=_) (wrap64 (by omega) (by omega)) ?_))))
 (simp (disch:=omega) only[wr,Int.ofNat_eq_natCast])
 refine bO.loop (fun t:Int=>a1+2≤t∧t≤a0.length+2) (fun t=>(a0.length+2 - t).toNat) ⟨by omega,by omega⟩ (by omega) (fun t ⟨h3,h4⟩=>?_)
 (simp (disch:=omega) only[wr,Int.ofNat_eq_natCast])
 (repeat' (first | (with_reducible first | refine bO.bR ?_ | refine bO.bT ?_ | refine bO.bQ ?_ | refine bO.cT ?_ | refine bO.ite (fun _=>?_) (fun _=>?_) | refine bO.b7 ?_) | with_reducible refine bO.bY (by (first | rfl | assumption | omega | (simp [cP,room,c5,e8] at *;omega))) ?_ | (with_reducible first | refine bO.ret ?_ | refine sE.l ?_ | refine sE.r ?_) | (refine (And.intro (a:=IntKind.i64.wrap _=_) (wrap64 (by omega) (by omega)) ?_))))
 (all_goals (try (first | trivial | (intro h;cases h;done) | (first | rfl | assumption | omega | (simp [cP,room,c5,e8] at *;omega)))))
def lx.f (c:UInt8):Bool:=(decide ((c.toNat:Int) ≥ 65) && decide ((c.toNat:Int)≤90)) || (decide ((c.toNat:Int) ≥ 97) && decide ((c.toNat:Int)≤122))
def lx.d (c:UInt8):Bool:=decide ((c.toNat:Int) ≥ 48) && decide ((c.toNat:Int)≤57)
theorem uF {K:Nat} {a0:UInt8}:cQ (aQJ K a0) (fun v=>v=lx.f a0):=⟨_,rfl,rfl⟩
theorem kV {K:Nat} {a0:UInt8}:cQ (aMV K a0) (fun v=>v=lx.d a0):=⟨_,rfl,rfl⟩
theorem jK {K:Nat} {a0:UInt8}:cQ (aMW K a0) (fun v=>lx.f a0=true→v=true):=by
 refine cQ.of ?_
 unfold aMW
 (repeat' (first | (with_reducible first | refine bO.bR ?_ | refine bO.ret ?_ | refine sE.l ?_ | refine sE.r ?_ | refine bO.c8 (fun _=>kV) (fun _ _=>?_) | refine bO.call kV (fun _ _=>?_) | refine bO.call uF (fun _ _=>?_))))
 intro h
 simp_all
theorem aH7 {K:Nat} {a0:Bytes} (hK:100000<K) (h0:a0.length≤10000):cQ (aQK K a0) (fun _=>True):=by
 refine cQ.of ?_
 unfold aQK
 (repeat' (first | (with_reducible first | refine bO.bR ?_ | refine bO.bT ?_ | refine bO.bQ ?_ | refine bO.cT ?_ | refine bO.ite (fun _=>?_) (fun _=>?_) | refine bO.b7 ?_) | with_reducible refine bO.bY (by (first | rfl | assumption | omega | (simp [cP,room,c5,e8] at *;omega))) ?_ | (with_reducible first | refine bO.ret ?_ | refine sE.l ?_ | refine sE.r ?_ | refine bO.c8 (fun _=>jK) (fun _ _=>?_) | refine bO.call jK (fun _ _=>?_)) | (refine (And.intro (a:=IntKind.i64.wrap _=_) (wrap64 (by omega) (by omega)) ?_))))
 refine bO.loop (fun t:Int=>0≤t∧t≤a0.length) (fun t=>(a0.length - t).toNat) ⟨by omega,by omega⟩ (by omega) (fun t ⟨h1,h2⟩=>?_)
 (simp (disch:=omega) only[wr,Int.ofNat_eq_natCast])
 (repeat' (first | (with_reducible first | refine bO.bR ?_ | refine bO.bT ?_ | refine bO.bQ ?_ | refine bO.cT ?_ | refine bO.ite (fun _=>?_) (fun _=>?_) | refine bO.b7 ?_) | with_reducible refine bO.bY (by (first | rfl | assumption | omega | (simp [cP,room,c5,e8] at *;omega))) ?_ | (with_reducible first | refine bO.ret ?_ | refine sE.l ?_ | refine sE.r ?_ | refine bO.c8 (fun _=>jK) (fun _ _=>?_) | refine bO.call jK (fun _ _=>?_)) | (refine (And.intro (a:=IntKind.i64.wrap _=_) (wrap64 (by omega) (by omega)) ?_))))
 (all_goals (try (first | trivial | (intro h;cases h;done) | (first | rfl | assumption | omega | (simp [cP,room,c5,e8] at *;omega)))))
theorem zK {K:Nat} {a0:Bytes} (hK:100000<K) (h0:a0.length≤6000):cQ (aQL K a0) (fun _=>True):=by
 refine cQ.of ?_
 unfold aQL
 (repeat' (first | (with_reducible first | refine bO.bR ?_ | refine bO.bT ?_ | refine bO.bQ ?_ | refine bO.cT ?_ | refine bO.ite (fun _=>?_) (fun _=>?_) | refine bO.b7 ?_) | with_reducible refine bO.bY (by (first | rfl | assumption | omega | (simp [cP,room,c5,e8] at *;omega))) ?_ | (with_reducible first | refine bO.ret ?_ | refine sE.l ?_ | refine sE.r ?_) | with_reducible refine bO.c8 (fun _=>aH7 (by omega) (by omega)) (fun _ _=>?_) | (refine (And.intro (a:=IntKind.i64.wrap _=_) (wrap64 (by omega) (by omega)) ?_))))
 (all_goals (try (first | trivial | (intro h;cases h;done) | (first | rfl | assumption | omega | (simp [cP,room,c5,e8] at *;omega)))))
 refine bO.loop (fun t:Int=>0≤t∧t≤400) (fun t=>(400 - t).toNat) ⟨by omega,by omega⟩ (by omega) (fun t ⟨h1,h2⟩=>?_)
 have hl:((([32]:Bytes)++a0)++([32]:Bytes)).length=a0.length+2:=by simp <;> omega
 rw[hl]
 (simp (disch:=omega) only[wr,Int.ofNat_eq_natCast])
 (repeat' (first | (with_reducible first | refine bO.bR ?_ | refine bO.bT ?_ | refine bO.bQ ?_ | refine bO.cT ?_ | refine bO.ite (fun _=>?_) (fun _=>?_) | refine bO.b7 ?_) | with_reducible refine bO.bY (by (first | rfl | assumption | omega | (simp [cP,room,c5,e8] at *;omega))) ?_ | (with_reducible first | refine bO.ret ?_ | refine sE.l ?_ | refine sE.r ?_) | with_reducible refine bO.c8 (fun _=>aH7 (by omega) (by omega)) (fun _ _=>?_) | (refine (And.intro (a:=IntKind.i64.wrap _=_) (wrap64 (by omega) (by omega)) ?_))))
 (all_goals (try (first | trivial | (intro h;cases h;done) | (first | rfl | assumption | omega | (simp [cP,room,c5,e8] at *;omega)))))
theorem zL {K:Nat} {a0:Bytes} {a1:Int} (hK:100000<K) (h0:a0.length≤6000) (h1:0≤a1) (h2:a1<a0.length):cQ (aQM K a0 a1) (fun v=>0≤v∧a1+v≤a0.length):=by
 refine cQ.of ?_
 unfold aQM
 (simp (disch:=omega) only[wr,Int.ofNat_eq_natCast])
 (repeat' (first | (with_reducible first | refine bO.bR ?_ | refine bO.ite (fun _=>?_) (fun _=>?_) | refine bO.b7 ?_) | with_reducible refine bO.bY (by (first | rfl | assumption | omega | (simp [cP,room,c5,e8] at *;omega))) ?_ | (with_reducible first | refine bO.ret ?_ | refine sE.l ?_ | refine sE.r ?_) | with_reducible refine bO.c8 (fun _=>aH6 (by omega) (by simp) (by simp <;> omega)) (fun _ _=>?_) | with_reducible refine bO.call (aH6 (by omega) (by simp) (by simp <;> omega)) (fun _ _=>?_) | (refine (And.intro (a:=IntKind.i64.wrap _=_) (wrap64 (by omega) (by omega)) ?_))))
 (all_goals (try (first | trivial | (intro h;cases h;done) | (first | rfl | assumption | omega | (simp [cP,room,c5,e8] at *;omega)))))
theorem aDE {K:Nat} {a0:Bytes} {a1:Int} (hK:100000<K) (h0:a0.length≤6000) (h1:0≤a1) (h2:a1<a0.length):cQ (aQN K a0 a1) (fun v=>v.2.2=0→a1<v.2.1∧v.2.1≤a0.length∧v.1.aDb=(a0.drop a1.toNat).take (v.2.1.toNat - a1.toNat)):=by
 refine cQ.of ?_
 unfold aQN
 (repeat' (first | (with_reducible first | refine bO.bR ?_ | refine bO.bT ?_ | refine bO.bQ ?_ | refine bO.cT ?_ | refine bO.ite (fun _=>?_) (fun _=>?_) | refine bO.b7 ?_) | with_reducible refine bO.bY (by (first | rfl | assumption | omega | (simp [cP,room,c5,e8] at *;omega))) ?_ | (with_reducible first | refine bO.ret ?_ | refine sE.l ?_ | refine sE.r ?_) | with_reducible refine bO.call (zL (by omega) (by assumption) (by omega) (by omega)) (fun _ _=>?_) | with_reducible refine bO.call (zK (by omega) (by simp <;> omega)) (fun _ _=>?_) | (with_reducible first | refine bO.c8 (fun _=>jK) (fun _ _=>?_) | refine bO.call jK (fun _ _=>?_) | refine bO.c8 (fun _=>kV) (fun _ _=>?_) | refine bO.call kV (fun _ _=>?_) | refine bO.call uF (fun _ _=>?_)) | (refine (And.intro (a:=IntKind.i64.wrap _=_) (wrap64 (by omega) (by omega)) ?_))))
 ·rename_i v1 hv1 hw
  rw[hw] at hv1
  refine bO.loop (fun t:Int=>a1≤t∧t≤a0.length) (fun t=>(a0.length - t).toNat) ⟨by omega,by omega⟩ (by omega) (fun t ⟨h3,h4⟩=>?_)
  (simp (disch:=omega) only[wr,Int.ofNat_eq_natCast])
  (repeat' (first | (with_reducible first | refine bO.bR ?_ | refine bO.bT ?_ | refine bO.bQ ?_ | refine bO.cT ?_ | refine bO.ite (fun _=>?_) (fun _=>?_) | refine bO.b7 ?_) | with_reducible refine bO.bY (by (first | rfl | assumption | omega | (simp [cP,room,c5,e8] at *;omega))) ?_ | (with_reducible first | refine bO.ret ?_ | refine sE.l ?_ | refine sE.r ?_) | with_reducible refine bO.call (zL (by omega) (by assumption) (by omega) (by omega)) (fun _ _=>?_) | with_reducible refine bO.call (zK (by omega) (by simp <;> omega)) (fun _ _=>?_) | (with_reducible first | refine bO.c8 (fun _=>jK) (fun _ _=>?_) | refine bO.call jK (fun _ _=>?_) | refine bO.c8 (fun _=>kV) (fun _ _=>?_) | refine bO.call kV (fun _ _=>?_) | refine bO.call uF (fun _ _=>?_)) | (refine (And.intro (a:=IntKind.i64.wrap _=_) (wrap64 (by omega) (by omega)) ?_))))
  all_goals try ((all_goals (try (first | trivial | (intro h;cases h;done) | (first | rfl | assumption | omega | (simp [cP,room,c5,e8] at *;omega)))));done)
  all_goals
   have hlt:∀ v:Bool,(decide (t<(a0.length:Int))=true→lx.f (a0.getD t.toNat 0)=true→v=true)→¬ (decide (t<(a0.length:Int)) && v)=true→a1<t:=fun v g1 g2=>by
    by_cases e:t=a1
    ·subst e
     have:=g1 (by simpa using h2) hv1.symm
     simp [this,h2] at g2
    ·omega
   intro _
   exact ⟨hlt _ (by assumption) (by assumption),h4,rfl⟩
 ·rename_i v1 hv1 hw v2 hv2 hw2
  rw[hw2] at hv2
  refine bO.loop (fun t:Int × Int=>a1≤t.2∧t.2≤a0.length) (fun t=>(a0.length - t.2).toNat) ⟨by simp,by simp;omega⟩ (by simp;omega) (fun t ⟨h3,h4⟩=>?_)
  obtain ⟨n,t⟩:=t
  dsimp only at h3 h4 ⊢
  (simp (disch:=omega) only[wr,Int.ofNat_eq_natCast])
  (repeat' (first | (with_reducible first | refine bO.bR ?_ | refine bO.bT ?_ | refine bO.bQ ?_ | refine bO.cT ?_ | refine bO.ite (fun _=>?_) (fun _=>?_) | refine bO.b7 ?_) | with_reducible refine bO.bY (by (first | rfl | assumption | omega | (simp [cP,room,c5,e8] at *;omega))) ?_ | (with_reducible first | refine bO.ret ?_ | refine sE.l ?_ | refine sE.r ?_) | with_reducible refine bO.call (zL (by omega) (by assumption) (by omega) (by omega)) (fun _ _=>?_) | with_reducible refine bO.call (zK (by omega) (by simp <;> omega)) (fun _ _=>?_) | (with_reducible first | refine bO.c8 (fun _=>jK) (fun _ _=>?_) | refine bO.call jK (fun _ _=>?_) | refine bO.c8 (fun _=>kV) (fun _ _=>?_) | refine bO.call kV (fun _ _=>?_) | refine bO.call uF (fun _ _=>?_)) | (refine (And.intro (a:=IntKind.i64.wrap _=_) (wrap64 (by omega) (by omega)) ?_))))
  all_goals try ((all_goals (try (first | trivial | (intro h;cases h;done) | (first | rfl | assumption | omega | (simp [cP,room,c5,e8] at *;omega)))));done)
  all_goals
   have hlt:∀ v:Bool,(decide (t<(a0.length:Int))=true→v=lx.d (a0.getD t.toNat 0))→¬ (decide (t<(a0.length:Int)) && v)=true→a1<t:=fun v g1 g2=>by
    by_cases e:t=a1
    ·subst e
     have:=g1 (by simpa using h2)
     rw[← hv2] at this
     simp [this,h2] at g2
    ·omega
   intro _
   exact ⟨hlt _ (by assumption) (by assumption),h4,rfl⟩
 ·rename_i v hv
  (simp (disch:=omega) only[wr,Int.ofNat_eq_natCast])
  (repeat' (first | (with_reducible first | refine bO.bR ?_ | refine bO.bT ?_ | refine bO.bQ ?_ | refine bO.cT ?_ | refine bO.ite (fun _=>?_) (fun _=>?_) | refine bO.b7 ?_) | with_reducible refine bO.bY (by (first | rfl | assumption | omega | (simp [cP,room,c5,e8] at *;omega))) ?_ | (with_reducible first | refine bO.ret ?_ | refine sE.l ?_ | refine sE.r ?_) | with_reducible refine bO.call (zL (by omega) (by assumption) (by omega) (by omega)) (fun _ _=>?_) | with_reducible refine bO.call (zK (by omega) (by simp <;> omega)) (fun _ _=>?_) | (with_reducible first | refine bO.c8 (fun _=>jK) (fun _ _=>?_) | refine bO.call jK (fun _ _=>?_) | refine bO.c8 (fun _=>kV) (fun _ _=>?_) | refine bO.call kV (fun _ _=>?_) | refine bO.call uF (fun _ _=>?_)) | (refine (And.intro (a:=IntKind.i64.wrap _=_) (wrap64 (by omega) (by omega)) ?_))))
  all_goals try ((all_goals (try (first | trivial | (intro h;cases h;done) | (first | rfl | assumption | omega | (simp [cP,room,c5,e8] at *;omega)))));done)
  all_goals
   rename_i h
   intro _
   simp only[beq_iff_eq] at h
   dsimp only
   refine ⟨by omega,by omega,rfl⟩
theorem aZc {l:Bytes} {a b:Int} (h0:0≤a) (h1:a<b) (h2:b≤l.length):(l.drop a.toNat).take (b.toNat - a.toNat)≠[]:=by
 intro h
 have:=congrArg List.length h
 rw[aK,bM,List.length_nil] at this
 omega
theorem aRR {K:Nat} {a0:Bytes} (hK:100000<K):cQ (aQG K a0) (fun v=>v.1.length≤1500∧∀ x∈v.1,x.aDb≠[]):=by
 refine cQ.of ?_
 unfold aQG
 (repeat' (first | (with_reducible first | refine bO.bR ?_ | refine bO.bT ?_ | refine bO.bQ ?_ | refine bO.cT ?_ | refine bO.ite (fun _=>?_) (fun _=>?_) | refine bO.b7 ?_) | with_reducible refine bO.bY (by (first | assumption | rfl | trivial | omega | (simp only[aB,aC,aL,Bool.not_eq_true,Bool.and_eq_false_iff,Bool.or_eq_false_iff,decide_eq_false_iff_not,Int.ofNat_eq_natCast,cP,room,c5,Int.toNat_natCast,aQ,Bool.not_true,Bool.not_false,Bool.not_eq_false',Bool.not_not,e8,aG,List.length_cons,List.length_nil,List.length_replicate,aK,bM,bne_iff_ne,beq_iff_eq,ne_eq] at *;first | assumption | omega | (split at * <;> omega)))) ?_ | (with_reducible first | refine bO.ret ?_ | refine sE.l ?_ | refine sE.r ?_) | with_reducible refine bO.call (aDE (by omega) (by assumption) (by omega) (by omega)) (fun _ _=>?_) | with_reducible refine bO.call (aDD (by omega) (by omega) (by omega) (by omega)) (fun _ _=>?_) | (refine (And.intro (a:=IntKind.i64.wrap _=_) (wrap64 (by omega) (by omega)) ?_))))
 ·exact ⟨by simp,fun x hx=>by cases hx⟩
 ·rename_i h
  simp only[aB,Int.ofNat_eq_natCast] at h
  have h0:a0.length≤6000:=by omega
  refine bO.loop (fun t:List qW × Int=>t.1.length≤1500∧0≤t.2∧t.2≤a0.length∧∀ x∈t.1,x.aDb≠[]) (fun t=>(a0.length - t.2).toNat) ⟨by simp,by simp,by simp,by simp⟩ (by simp;omega) (fun t ⟨h1,h2,h3,h9⟩=>?_)
  obtain ⟨l,t⟩:=t
  dsimp only at h1 h2 h3 h9 ⊢
  (simp (disch:=omega) only[wr,Int.ofNat_eq_natCast])
  (repeat' (first | (with_reducible first | refine bO.bR ?_ | refine bO.bT ?_ | refine bO.bQ ?_ | refine bO.cT ?_ | refine bO.ite (fun _=>?_) (fun _=>?_) | refine bO.b7 ?_) | with_reducible refine bO.bY (by (first | assumption | rfl | trivial | omega | (simp only[aB,aC,aL,Bool.not_eq_true,Bool.and_eq_false_iff,Bool.or_eq_false_iff,decide_eq_false_iff_not,Int.ofNat_eq_natCast,cP,room,c5,Int.toNat_natCast,aQ,Bool.not_true,Bool.not_false,Bool.not_eq_false',Bool.not_not,e8,aG,List.length_cons,List.length_nil,List.length_replicate,aK,bM,bne_iff_ne,beq_iff_eq,ne_eq] at *;first | assumption | omega | (split at * <;> omega)))) ?_ | (with_reducible first | refine bO.ret ?_ | refine sE.l ?_ | refine sE.r ?_) | with_reducible refine bO.call (aDE (by omega) (by assumption) (by omega) (by omega)) (fun _ _=>?_) | with_reducible refine bO.call (aDD (by omega) (by omega) (by omega) (by omega)) (fun _ _=>?_) | (refine (And.intro (a:=IntKind.i64.wrap _=_) (wrap64 (by omega) (by omega)) ?_))))
  all_goals try ((all_goals (try (first | trivial | (intro h;cases h;done) | (first | assumption | rfl | trivial | omega | (simp only[aB,aC,aL,Bool.not_eq_true,Bool.and_eq_false_iff,Bool.or_eq_false_iff,decide_eq_false_iff_not,Int.ofNat_eq_natCast,cP,room,c5,Int.toNat_natCast,aQ,Bool.not_true,Bool.not_false,Bool.not_eq_false',Bool.not_not,e8,aG,List.length_cons,List.length_nil,List.length_replicate,aK,bM,bne_iff_ne,beq_iff_eq,ne_eq] at *;first | assumption | omega | (split at * <;> omega))))));done)
  all_goals
   have hlt:t<(a0.length:Int):=of_decide_eq_true (by assumption)
   (repeat' (first | (with_reducible first | refine bO.bR ?_ | refine bO.bT ?_ | refine bO.bQ ?_ | refine bO.cT ?_ | refine bO.ite (fun _=>?_) (fun _=>?_) | refine bO.b7 ?_) | with_reducible refine bO.bY (by (first | assumption | rfl | trivial | omega | (simp only[aB,aC,aL,Bool.not_eq_true,Bool.and_eq_false_iff,Bool.or_eq_false_iff,decide_eq_false_iff_not,Int.ofNat_eq_natCast,cP,room,c5,Int.toNat_natCast,aQ,Bool.not_true,Bool.not_false,Bool.not_eq_false',Bool.not_not,e8,aG,List.length_cons,List.length_nil,List.length_replicate,aK,bM,bne_iff_ne,beq_iff_eq,ne_eq] at *;first | assumption | omega | (split at * <;> omega)))) ?_ | (with_reducible first | refine bO.ret ?_ | refine sE.l ?_ | refine sE.r ?_) | with_reducible refine bO.call (aDE (by omega) (by assumption) (by omega) (by omega)) (fun _ _=>?_) | with_reducible refine bO.call (aDD (by omega) (by omega) (by omega) (by omega)) (fun _ _=>?_) | (refine (And.intro (a:=IntKind.i64.wrap _=_) (wrap64 (by omega) (by omega)) ?_))))
  all_goals try ((all_goals (try (first | trivial | (intro h;cases h;done) | (first | assumption | rfl | trivial | omega | (simp only[aB,aC,aL,Bool.not_eq_true,Bool.and_eq_false_iff,Bool.or_eq_false_iff,decide_eq_false_iff_not,Int.ofNat_eq_natCast,cP,room,c5,Int.toNat_natCast,aQ,Bool.not_true,Bool.not_false,Bool.not_eq_false',Bool.not_not,e8,aG,List.length_cons,List.length_nil,List.length_replicate,aK,bM,bne_iff_ne,beq_iff_eq,ne_eq] at *;first | assumption | omega | (split at * <;> omega))))));done)
  all_goals try (exact ⟨by simp,fun x hx=>by cases hx⟩)
  all_goals try (exact ⟨h1,h9⟩)
  all_goals try (exact ⟨⟨by dsimp only;omega,by dsimp only;omega,by dsimp only;omega,h9⟩,by dsimp only;omega⟩)
  ·rename_i w1 w2 v hv w3
   simp only[aB] at w3
   exact ⟨⟨by dsimp only;omega,by dsimp only;omega,by dsimp only;omega,h9⟩,by dsimp only;omega⟩
  ·rename_i w1 w2 v hv w3 w4
   simp only[bne_iff_ne,ne_eq,Decidable.not_not] at w3
   simp only[aB,Int.ofNat_eq_natCast] at w4
   obtain ⟨k1,k2,k3⟩:=hv w3
   refine ⟨⟨by simp only[aG,List.length_singleton];omega,by dsimp only;omega,by dsimp only;omega,fun x hx=>?_⟩,by dsimp only;omega⟩
   rcases aZ.1 hx with hx | hx
   ·exact h9 x hx
   ·rw[aJ.1 hx,k3]
    exact aZc h2 k1 k2
end Go.Proofs.YtdbfbedholdjaaaGreat

namespace Go.Proofs.YtdbfbedholdjaaaGreat
open Go Go.Dl
variable [dO]
set_option maxRecDepth 100000
mutual
def cM.sz:cM→Nat
 | ⟨_,_,_,_,a⟩=>1+cM.gZ a
def cM.gZ:List cM→Nat
 | []=>0
 | x::r=>cM.sz x+cM.gZ r
end
theorem mR:∀ (a b:List cM),cM.gZ (a++b)=cM.gZ a+cM.gZ b
 | [],b=>by simp [cM.gZ]
 | x::a,b=>by rw[List.cons_append,cM.gZ,cM.gZ,mR a b];omega
theorem cM.aDH (e:cM):1≤e.sz:=by cases e;rw[cM.sz];omega
theorem mQ:∀ l:List cM,l.length≤cM.gZ l
 | []=>by simp [cM.gZ]
 | x::r=>by rw[List.length_cons,cM.gZ];have:=mQ r;have:=x.aDH;omega
def oQ:List (List Int)→Nat
 | []=>0
 | x::r=>1+x.length+oQ r
theorem qY:∀ (a b:List (List Int)),oQ (a++b)=oQ a+oQ b
 | [],b=>by simp [oQ]
 | x::a,b=>by rw[List.cons_append,oQ,oQ,qY a b];omega
theorem aDw:∀ l:List (List Int),l.length≤oQ l
 | []=>by simp [oQ]
 | x::r=>by rw[List.length_cons,oQ];have:=aDw r;omega
mutual
def cI.sz:cI→Nat
 | ⟨_,_,_,e,l,b⟩=>1+cM.gZ e+oQ l+cI.kH b
def cI.gZ:List cI→Nat
 | []=>0
 | x::r=>cI.sz x+cI.gZ r
def cI.kH:List (List cI)→Nat
 | []=>0
 | x::r=>1+cI.gZ x+cI.kH r
end
theorem uD:∀ (a b:List cI),cI.gZ (a++b)=cI.gZ a+cI.gZ b
 | [],b=>by simp [cI.gZ]
 | x::a,b=>by rw[List.cons_append,cI.gZ,cI.gZ,uD a b];omega
theorem pO:∀ (a b:List (List cI)),cI.kH (a++b)=cI.kH a+cI.kH b
 | [],b=>by simp [cI.kH]
 | x::a,b=>by rw[List.cons_append,cI.kH,cI.kH,pO a b];omega
theorem cI.aDH (e:cI):1≤e.sz:=by cases e;rw[cI.sz];omega
theorem aJH:∀ l:List cI,l.length≤cI.gZ l
 | []=>by simp [cI.gZ]
 | x::r=>by rw[List.length_cons,cI.gZ];have:=aJH r;have:=x.aDH;omega
theorem aBS:∀ l:List (List cI),l.length≤cI.kH l
 | []=>by simp [cI.kH]
 | x::r=>by rw[List.length_cons,cI.kH];have:=aBS r;omega
def hU.sz (m:hU):Nat:=1+m.cG.length+m.cA.length+cI.gZ m.sC
def xB:List hU→Nat
 | []=>0
 | x::r=>x.sz+xB r
theorem uY:∀ (a b:List hU),xB (a++b)=xB a+xB b
 | [],b=>by simp [xB]
 | x::a,b=>by rw[List.cons_append,xB,xB,uY a b];omega
theorem aLs:∀ l:List hU,l.length≤xB l
 | []=>by simp [xB]
 | x::r=>by rw[List.length_cons,xB,hU.sz];have:=aLs r;omega
def iR.sz (d:iR):Nat:=1+d.cL.length+d.cA.length+xB d.bS+cI.gZ d.sC
def dsz:List iR→Nat
 | []=>0
 | x::r=>x.sz+dsz r
theorem rW:∀ (a b:List iR),dsz (a++b)=dsz a+dsz b
 | [],b=>by simp [dsz]
 | x::a,b=>by rw[List.cons_append,dsz,dsz,rW a b];omega
theorem aLt:∀ l:List iR,l.length≤dsz l
 | []=>by simp [dsz]
 | x::r=>by rw[List.length_cons,dsz,iR.sz];have:=aLt r;omega
structure Rd (r:cF):Prop where
 lo:0≤r.qT
 hi:r.qT≤r.ft.length
 n:r.ft.length≤1500
 nm:∀ t∈r.ft,t.aDb≠[]
def mu (r:cF):Nat:=if r.iQ=0 then (r.ft.length - r.qT).toNat+1 else 0
theorem mA {r:cF} (h:Rd r):mu r≤1501:=by
 unfold mu;have:=h.n;have:=h.lo;split <;> omega
theorem bO.cH {α R:Type} {b:Bool} {d:R} {m:Option (R ⊕ R)} {f:R→Option α} {Q:α→Prop} {P:R→Prop} (hb:b=true) (h:cQ m P) (hf:∀ v,P v→bO (f v) Q):bO ((cE b (bX m) d).bind f) Q :=
 bO.c8 (fun _=>h) fun v hv=>hf v (hv hb)
theorem aLu {K:Nat} {r:cF} {s:Bytes} (h:Rd r):cQ (F73 K r s) (fun v=>v=true→r.iQ=0∧r.qT<r.ft.length):=by
 obtain ⟨h1,h2,h3,h9⟩:=h
 refine cQ.of ?_
 unfold F73
 (repeat' (first | (with_reducible first | refine bO.bR ?_ | refine bO.ite (fun _=>?_) (fun _=>?_) | refine bO.b7 ?_) | with_reducible refine bO.bY (by (first | rfl | assumption | omega | (simp [cP,room,c5,e8] at *;omega))) ?_ | (with_reducible first | refine bO.ret ?_ | refine sE.l ?_ | refine sE.r ?_)))
 ·(all_goals (try (first | trivial | (intro h;cases h;done) | (first | rfl | assumption | omega | (simp [cP,room,c5,e8] at *;omega)))))
 ·rename_i h
  simp only[aL,bne_iff_ne,aB,not_or,ge_iff_le,Int.not_le,Int.ofNat_eq_natCast,ne_eq,Decidable.not_not] at h
  exact fun _=>h
theorem aDI {K:Nat} {r:cF} {k:Int} (h:Rd r):cQ (sQ K r k) (fun v=>v=true→r.iQ=0∧r.qT<r.ft.length):=by
 obtain ⟨h1,h2,h3,h9⟩:=h
 refine cQ.of ?_
 unfold sQ
 (repeat' (first | (with_reducible first | refine bO.bR ?_ | refine bO.b7 ?_) | with_reducible refine bO.bY (by (first | rfl | assumption | omega | (simp [cP,room,c5,e8] at *;omega))) ?_ | (with_reducible first | refine bO.ret ?_ | refine sE.l ?_ | refine sE.r ?_)))
 intro hv
 simp only[aC,beq_iff_eq,aB,Int.ofNat_eq_natCast] at hv
 exact hv.1
theorem aLv {K:Nat} {r:cF} (h:Rd r):cQ (F75 K r) (fun v=>v.2=r):=by
 obtain ⟨h1,h2,h3,h9⟩:=h
 refine cQ.of ?_
 unfold F75
 (repeat' (first | (with_reducible first | refine bO.bR ?_ | refine bO.ite (fun _=>?_) (fun _=>?_) | refine bO.b7 ?_) | with_reducible refine bO.bY (by (first | rfl | assumption | omega | (simp [cP,room,c5,e8] at *;omega))) ?_ | (with_reducible first | refine bO.ret ?_ | refine sE.l ?_ | refine sE.r ?_)))
 all_goals rfl
theorem wZ {r:cF} (h:r.iQ=0):0<mu r:=by unfold mu;rw[aE h];omega
theorem aGl {r:cF} (h:Rd r) (h1:r.iQ=0∧r.qT<r.ft.length):Rd ⟨r.ft,IntKind.i64.wrap (r.qT+1),r.aHw,r.iQ,r.aHx⟩∧mu ⟨r.ft,IntKind.i64.wrap (r.qT+1),r.aHw,r.iQ,r.aHx⟩+1≤mu r:=by
 obtain ⟨h2,h3,h4,h9⟩:=h
 obtain ⟨h5,h6⟩:=h1
 have hw:IntKind.i64.wrap (r.qT+1)=r.qT+1:=wr (by omega) (by omega)
 rw[hw]
 refine ⟨⟨by dsimp only;omega,by dsimp only;omega,h4,h9⟩,?_⟩
 unfold mu
 dsimp only
 rw[aE h5,aE h5];omega
theorem iM {K:Nat} {r:cF} {c:Int} (h:Rd r) (hc:c≠0):cQ (yV K r c) (fun v=>Rd v∧mu v=0):=by
 have h0:=h
 obtain ⟨h1,h2,h3,h9⟩:=h
 refine cQ.of ?_
 unfold yV
 refine bO.ite (fun e=>?_) (fun e=>?_)
 ·refine bO.call (aLv h0) (fun v hv=>?_)
  obtain ⟨p,v⟩:=v
  obtain rfl:v=r:=hv
  (repeat' (first | (with_reducible first | refine bO.ite (fun _=>?_) (fun _=>?_) | refine bO.ret ?_ | refine sE.l ?_ | refine sE.r ?_)))
  refine ⟨⟨by simp,by simp,h3,h9⟩,?_⟩
  unfold mu;rw[aD hc]
 ·(repeat' (first | (with_reducible first | refine bO.ite (fun _=>?_) (fun _=>?_) | refine bO.ret ?_ | refine sE.l ?_ | refine sE.r ?_)))
  refine ⟨h0,?_⟩
  unfold mu;rw[aD (by simpa using e)]
theorem e9 {K:Nat} {r:cF} {a b:Int} (h:Rd r):cQ (F74 K r a b) (fun v=>Rd v∧mu v≤mu r):=by
 refine cQ.of ?_
 unfold F74
 refine bO.ite (fun e=>?_) (fun e=>?_)
 ·refine bO.call (iM h (by decide)) (fun v hv=>?_)
  (repeat' (first | (with_reducible first | refine bO.ite (fun _=>?_) (fun _=>?_) | refine bO.ret ?_ | refine sE.l ?_ | refine sE.r ?_)))
  exact ⟨hv.1,by rw[hv.2];exact Nat.zero_le _⟩
 ·(repeat' (first | (with_reducible first | refine bO.ite (fun _=>?_) (fun _=>?_) | refine bO.ret ?_ | refine sE.l ?_ | refine sE.r ?_)))
  exact ⟨h,aM _⟩
theorem eF {K:Nat} {r:cF} {s:Bytes} (h:Rd r):cQ (fV K r s) (fun v=>(v.1=true∧Rd v.2∧mu v.2+1≤mu r)∨(v.1=false∧v.2=r)):=by
 refine cQ.of ?_
 unfold fV
 refine bO.cH (by decide) (aLu h) (fun v hv=>?_)
 refine bO.ite (fun e=>?_) (fun e=>?_)
 ·(repeat' (first | (with_reducible first | refine bO.ite (fun _=>?_) (fun _=>?_) | refine bO.ret ?_ | refine sE.l ?_ | refine sE.r ?_) | (refine (And.intro (a:=IntKind.i64.wrap _=_) (wrap64 (by omega) (by omega)) ?_))))
  exact .inl ⟨rfl,aGl h (hv e)⟩
 ·(repeat' (first | (with_reducible first | refine bO.ite (fun _=>?_) (fun _=>?_) | refine bO.ret ?_ | refine sE.l ?_ | refine sE.r ?_) | (refine (And.intro (a:=IntKind.i64.wrap _=_) (wrap64 (by omega) (by omega)) ?_))))
  exact .inr ⟨rfl,rfl⟩
theorem eR {K:Nat} {r:cF} {s:Bytes} (h:Rd r):cQ (fR K r s) (fun v=>Rd v∧mu v≤mu r - 1):=by
 refine cQ.of ?_
 unfold fR
 refine bO.call (eF h) ?_
 rintro ⟨b,v⟩ (⟨h1,h2,h3⟩ | ⟨h1,h2⟩)
 ·dsimp only at h1 h2 h3 ⊢
  subst h1
  refine bO.dA (by simp) ?_
  (repeat' (first | (with_reducible first | refine bO.ite (fun _=>?_) (fun _=>?_) | refine bO.ret ?_ | refine sE.l ?_ | refine sE.r ?_)))
  exact ⟨h2,by omega⟩
 ·dsimp only at h1 h2 ⊢
  subst h1;subst h2
  refine bO.dN (by simp) ?_
  refine bO.call (iM h (by decide)) (fun v hv=>?_)
  (repeat' (first | (with_reducible first | refine bO.ite (fun _=>?_) (fun _=>?_) | refine bO.ret ?_ | refine sE.l ?_ | refine sE.r ?_)))
  exact ⟨hv.1,by omega⟩
theorem aLw {K:Nat} {r:cF} (h:Rd r):cQ (nL K r) (fun v=>(Rd v.2∧mu v.2≤mu r - 1)∧(mu v.2≠0→v.1≠[])):=by
 refine cQ.of ?_
 unfold nL
 refine bO.cH (by decide) (aDI h) (fun v hv=>?_)
 refine bO.ite (fun e=>?_) (fun e=>?_)
 ·refine bO.call (iM h (by decide)) (fun v hv=>?_)
  (repeat' (first | (with_reducible first | refine bO.bR ?_ | refine bO.ite (fun _=>?_) (fun _=>?_) | refine bO.b7 ?_) | with_reducible refine bO.bY (by (first | rfl | assumption | omega | (simp [cP,room,c5,e8] at *;omega))) ?_ | (with_reducible first | refine bO.ret ?_ | refine sE.l ?_ | refine sE.r ?_) | (refine (And.intro (a:=IntKind.i64.wrap _=_) (wrap64 (by omega) (by omega)) ?_))))
  exact ⟨⟨hv.1,by have:=hv.2;dsimp only;omega⟩,fun e=>absurd hv.2 e⟩
 ·have h1:=hv (by simpa using e)
  obtain ⟨h2,h3⟩:=aGl h h1
  have hw:IntKind.i64.wrap (r.qT+1)=r.qT+1:=wr (by have:=h.lo;omega) (by have:=h.hi;have:=h.n;omega)
  have hw2:IntKind.i64.wrap (IntKind.i64.wrap (r.qT+1) - 1)=r.qT:=by rw[hw,wr (by have:=h.lo;omega) (by have:=h.hi;have:=h.n;omega)];omega
  rw[hw2]
  have:=h.lo
  (repeat' (first | (with_reducible first | refine bO.bR ?_ | refine bO.ite (fun _=>?_) (fun _=>?_) | refine bO.b7 ?_) | with_reducible refine bO.bY (by (first | rfl | assumption | omega | (simp [cP,room,c5,e8] at *;omega))) ?_ | (with_reducible first | refine bO.ret ?_ | refine sE.l ?_ | refine sE.r ?_) | (refine (And.intro (a:=IntKind.i64.wrap _=_) (wrap64 (by omega) (by omega)) ?_))))
  refine ⟨⟨h2,by dsimp only;omega⟩,fun _=>h.nm _ ?_⟩
  have h4:r.qT.toNat<r.ft.length:=by have:=h1.2;omega
  rw[List.getD,aF h4]
  exact List.getElem_mem h4
theorem fJ {K:Nat} {r:cF} (h:Rd r):cQ (nL K r) (fun v=>Rd v.2∧mu v.2≤mu r - 1):=(aLw h).zG fun v hv=>hv.1
theorem qZ {K:Nat} {r:cF} (h:Rd r):cQ (aDc K r) (fun v=>Rd v.2∧mu v.2≤mu r - 1):=by
 refine cQ.of ?_
 unfold aDc
 refine bO.cH (by decide) (aDI h) (fun v hv=>?_)
 refine bO.ite (fun e=>?_) (fun e=>?_)
 ·refine bO.call (iM h (by decide)) (fun v hv=>?_)
  (repeat' (first | (with_reducible first | refine bO.bR ?_ | refine bO.ite (fun _=>?_) (fun _=>?_) | refine bO.b7 ?_) | with_reducible refine bO.bY (by (first | rfl | assumption | omega | (simp [cP,room,c5,e8] at *;omega))) ?_ | (with_reducible first | refine bO.ret ?_ | refine sE.l ?_ | refine sE.r ?_) | (refine (And.intro (a:=IntKind.i64.wrap _=_) (wrap64 (by omega) (by omega)) ?_))))
  exact ⟨hv.1,by have:=hv.2;dsimp only;omega⟩
 ·have h1:=hv (by simpa using e)
  obtain ⟨h2,h3⟩:=aGl h h1
  have hw:IntKind.i64.wrap (r.qT+1)=r.qT+1:=wr (by have:=h.lo;omega) (by have:=h.hi;have:=h.n;omega)
  have hw2:IntKind.i64.wrap (IntKind.i64.wrap (r.qT+1) - 1)=r.qT:=by rw[hw,wr (by have:=h.lo;omega) (by have:=h.hi;have:=h.n;omega)];omega
  rw[hw2]
  have:=h.lo
  (repeat' (first | (with_reducible first | refine bO.bR ?_ | refine bO.ite (fun _=>?_) (fun _=>?_) | refine bO.b7 ?_) | with_reducible refine bO.bY (by (first | rfl | assumption | omega | (simp [cP,room,c5,e8] at *;omega))) ?_ | (with_reducible first | refine bO.ret ?_ | refine sE.l ?_ | refine sE.r ?_) | (refine (And.intro (a:=IntKind.i64.wrap _=_) (wrap64 (by omega) (by omega)) ?_))))
  exact ⟨h2,by dsimp only;omega⟩
theorem cY {K:Nat} {r:cF} {s:Bytes} (h:Rd r):cQ (F73 K r s) (fun v=>(v=true∧0<mu r)∨v=false) :=
 (aLu h).zG fun v hv=>by cases v with
  | false=>exact .inr rfl
  | true=>exact .inl ⟨rfl,wZ (hv rfl).1⟩
theorem c4 {K:Nat} {r:cF} {k:Int} (h:Rd r):cQ (sQ K r k) (fun v=>(v=true∧0<mu r)∨v=false) :=
 (aDI h).zG fun v hv=>by cases v with
  | false=>exact .inr rfl
  | true=>exact .inl ⟨rfl,wZ (hv rfl).1⟩
theorem bO.fZ {α R:Type} {d:R} {m:Option R} {f:R→Option α} {Q:α→Prop} {b:Bool} (hb:b=false) (hf:bO (f d) Q):bO ((cE b m d).bind f) Q:=by
 subst hb;exact hf
theorem oS {K:Nat} {r:cF} (h:Rd r):cQ (aFX K r) (fun v=>Rd v.2∧mu v.2≤mu r - 1):=by
 refine cQ.of ?_
 unfold aFX
 (repeat' (first | with_reducible refine bO.dN (by decide) ?_ | with_reducible refine bO.dA (by decide) ?_ | (with_reducible refine bO.call (eF (by assumption)) ?_;rintro ⟨_,_⟩ h;dsimp only at h;rcases h with (⟨rfl,_,_⟩ | ⟨rfl,rfl⟩) <;> try dsimp only) | (with_reducible refine bO.call (qZ (by assumption)) ?_;rintro ⟨_,_⟩ ⟨_,_⟩;try dsimp only at *) | (with_reducible first | refine bO.ite (fun _=>?_) (fun _=>?_) | refine bO.ret ?_ | refine sE.l ?_ | refine sE.r ?_)))
 all_goals exact ⟨by assumption,by dsimp only;omega⟩
theorem aRT {K:Nat} {r:cF} (hK:100<K) (h:Rd r):cQ (aPX K r) (fun v=>Rd v.2∧mu v.2≤mu r):=by
 refine cQ.of ?_
 unfold aPX
 (repeat' (first | (with_reducible first | refine bO.bR ?_ | refine bO.bT ?_ | refine bO.bQ ?_ | refine bO.cT ?_) | with_reducible refine bO.dN (by decide) ?_ | with_reducible refine bO.dA (by decide) ?_ | (with_reducible refine bO.call (eF (by assumption)) ?_;rintro ⟨_,_⟩ h;dsimp only at h;rcases h with (⟨rfl,_,_⟩ | ⟨rfl,rfl⟩) <;> try dsimp only) | (with_reducible first | refine bO.ite (fun _=>?_) (fun _=>?_) | refine bO.b7 ?_) | with_reducible refine bO.bY (by (first | rfl | assumption | omega | (simp [cP,room,c5,e8] at *;omega))) ?_ | (with_reducible first | refine bO.ret ?_ | refine sE.l ?_ | refine sE.r ?_)))
 refine bO.loop (fun t:cF × Int=>t.1=r∧0≤t.2∧t.2≤8) (fun t=>(8 - t.2).toNat) ⟨rfl,by simp,by simp⟩ (by simp;omega) ?_
 rintro ⟨q,t⟩ ⟨rfl,h1,h2⟩
 dsimp only at h h1 h2 ⊢
 (simp (disch:=omega) only[wr,Int.ofNat_eq_natCast])
 (repeat' (first | (with_reducible first | refine bO.bR ?_ | refine bO.bT ?_ | refine bO.bQ ?_ | refine bO.cT ?_) | with_reducible refine bO.dN (by decide) ?_ | with_reducible refine bO.dA (by decide) ?_ | (with_reducible refine bO.call (eF (by assumption)) ?_;rintro ⟨_,_⟩ h;dsimp only at h;rcases h with (⟨rfl,_,_⟩ | ⟨rfl,rfl⟩) <;> try dsimp only) | (with_reducible first | refine bO.ite (fun _=>?_) (fun _=>?_) | refine bO.b7 ?_) | with_reducible refine bO.bY (by (first | rfl | assumption | omega | (simp [cP,room,c5,e8] at *;omega))) ?_ | (with_reducible first | refine bO.ret ?_ | refine sE.l ?_ | refine sE.r ?_)))
 ·exact ⟨by assumption,by dsimp only;omega⟩
 ·rename_i x
  simp only[List.length_cons,List.length_nil,aB] at x
  exact ⟨⟨rfl,by dsimp only;omega,by dsimp only;omega⟩,by dsimp only;omega⟩
 ·exact ⟨h,aM _⟩
theorem aH8 {K:Nat} {r:cF} (hK:100<K) (h:Rd r):cQ (aP7 K r) (fun v=>(v.1=0∧v.2=r)∨(v.1≠0∧Rd v.2∧mu v.2+1≤mu r)):=by
 refine cQ.of ?_
 unfold aP7
 (repeat' (first | (with_reducible first | refine bO.bR ?_ | refine bO.bT ?_ | refine bO.bQ ?_ | refine bO.cT ?_) | with_reducible refine bO.dN (by decide) ?_ | with_reducible refine bO.dA (by decide) ?_ | (with_reducible refine bO.call (eF (by assumption)) ?_;rintro ⟨_,_⟩ h;dsimp only at h;rcases h with (⟨rfl,_,_⟩ | ⟨rfl,rfl⟩) <;> try dsimp only) | (with_reducible first | refine bO.ite (fun _=>?_) (fun _=>?_) | refine bO.b7 ?_) | with_reducible refine bO.bY (by (first | rfl | assumption | omega | (simp [cP,room,c5,e8] at *;omega))) ?_ | (with_reducible first | refine bO.ret ?_ | refine sE.l ?_ | refine sE.r ?_)))
 refine bO.loop (fun t:cF × Int=>t.1=r∧1≤t.2∧t.2≤15) (fun t=>(15 - t.2).toNat) ⟨rfl,by simp,by simp⟩ (by simp;omega) ?_
 rintro ⟨q,t⟩ ⟨rfl,h1,h2⟩
 dsimp only at h h1 h2 ⊢
 (simp (disch:=omega) only[wr,Int.ofNat_eq_natCast])
 (repeat' (first | (with_reducible first | refine bO.bR ?_ | refine bO.bT ?_ | refine bO.bQ ?_ | refine bO.cT ?_) | with_reducible refine bO.dN (by decide) ?_ | with_reducible refine bO.dA (by decide) ?_ | (with_reducible refine bO.call (eF (by assumption)) ?_;rintro ⟨_,_⟩ h;dsimp only at h;rcases h with (⟨rfl,_,_⟩ | ⟨rfl,rfl⟩) <;> try dsimp only) | (with_reducible first | refine bO.ite (fun _=>?_) (fun _=>?_) | refine bO.b7 ?_) | with_reducible refine bO.bY (by (first | rfl | assumption | omega | (simp [cP,room,c5,e8] at *;omega))) ?_ | (with_reducible first | refine bO.ret ?_ | refine sE.l ?_ | refine sE.r ?_)))
 ·exact .inr ⟨by dsimp only;omega,by assumption,by dsimp only;omega⟩
 ·rename_i x
  simp only[List.length_cons,List.length_nil,aB] at x
  exact ⟨⟨rfl,by dsimp only;omega,by dsimp only;omega⟩,by dsimp only;omega⟩
 ·exact .inl ⟨rfl,rfl⟩
theorem aBT {K:Nat} {r:cF} (hK:100<K) (h:Rd r):cQ (aMD K r) (fun v=>(v=true∧0<mu r)∨v=false):=by
 refine cQ.of ?_
 unfold aMD
 (repeat' (first | (with_reducible first | refine bO.bR ?_ | refine bO.bT ?_ | refine bO.bQ ?_ | refine bO.cT ?_) | with_reducible refine bO.dN (by decide) ?_ | with_reducible refine bO.dA (by decide) ?_ | ((with_reducible first | refine bO.call (c4 (by assumption)) ?_ | refine bO.call (cY (by assumption)) ?_ | refine bO.cH (by decide) (c4 (by assumption)) ?_ | refine bO.cH (by decide) (cY (by assumption)) ?_);rintro _ (⟨rfl,_⟩ | rfl)) | (with_reducible first | refine bO.ite (fun _=>?_) (fun _=>?_) | refine bO.b7 ?_) | with_reducible refine bO.bY (by (first | rfl | assumption | omega | (simp [cP,room,c5,e8] at *;omega))) ?_ | (with_reducible first | refine bO.ret ?_ | refine sE.l ?_ | refine sE.r ?_)))
 refine bO.loop (fun t:Int=>0≤t∧t≤9) (fun t=>(9 - t).toNat) ⟨by simp,by simp⟩ (by simp;omega) ?_
 rintro t ⟨h1,h2⟩
 (simp (disch:=omega) only[wr,Int.ofNat_eq_natCast])
 (repeat' (first | (with_reducible first | refine bO.bR ?_ | refine bO.bT ?_ | refine bO.bQ ?_ | refine bO.cT ?_) | with_reducible refine bO.dN (by decide) ?_ | with_reducible refine bO.dA (by decide) ?_ | ((with_reducible first | refine bO.call (c4 (by assumption)) ?_ | refine bO.call (cY (by assumption)) ?_ | refine bO.cH (by decide) (c4 (by assumption)) ?_ | refine bO.cH (by decide) (cY (by assumption)) ?_);rintro _ (⟨rfl,_⟩ | rfl)) | (with_reducible first | refine bO.ite (fun _=>?_) (fun _=>?_) | refine bO.b7 ?_) | with_reducible refine bO.bY (by (first | rfl | assumption | omega | (simp [cP,room,c5,e8] at *;omega))) ?_ | (with_reducible first | refine bO.ret ?_ | refine sE.l ?_ | refine sE.r ?_)))
 ·exact .inl ⟨rfl,by assumption⟩
 ·rename_i x
  simp only[List.length_cons,List.length_nil,aB] at x
  exact ⟨⟨by omega,by omega⟩,by omega⟩
 ·exact .inl ⟨rfl,by assumption⟩
 ·exact .inr rfl
theorem uZ {K:Nat} {r:cF} (hK:100<K) (h:Rd r):cQ (aJp K r) (fun v=>(v=true∧0<mu r)∨v=false):=by
 refine cQ.of ?_
 unfold aJp
 (repeat' (first | (with_reducible first | refine bO.bR ?_ | refine bO.bT ?_ | refine bO.bQ ?_ | refine bO.cT ?_) | with_reducible refine bO.dN (by decide) ?_ | with_reducible refine bO.dA (by decide) ?_ | ((with_reducible first | refine bO.call (c4 (by assumption)) ?_ | refine bO.call (cY (by assumption)) ?_ | refine bO.cH (by decide) (c4 (by assumption)) ?_ | refine bO.cH (by decide) (cY (by assumption)) ?_);rintro _ (⟨rfl,_⟩ | rfl)) | with_reducible refine bO.fZ (by decide) ?_ | (with_reducible first | refine bO.ite (fun _=>?_) (fun _=>?_) | refine bO.b7 ?_) | with_reducible refine bO.bY (by (first | rfl | assumption | omega | (simp [cP,room,c5,e8] at *;omega))) ?_ | (with_reducible first | refine bO.ret ?_ | refine sE.l ?_ | refine sE.r ?_)))
 ·exact .inl ⟨rfl,by assumption⟩
 ·exact .inl ⟨rfl,by assumption⟩
 refine bO.loop (fun t:Int=>0≤t∧t≤12) (fun t=>(12 - t).toNat) ⟨by simp,by simp⟩ (by simp;omega) ?_
 rintro t ⟨h1,h2⟩
 (simp (disch:=omega) only[wr,Int.ofNat_eq_natCast])
 (repeat' (first | (with_reducible first | refine bO.bR ?_ | refine bO.bT ?_ | refine bO.bQ ?_ | refine bO.cT ?_) | with_reducible refine bO.dN (by decide) ?_ | with_reducible refine bO.dA (by decide) ?_ | ((with_reducible first | refine bO.call (c4 (by assumption)) ?_ | refine bO.call (cY (by assumption)) ?_ | refine bO.cH (by decide) (c4 (by assumption)) ?_ | refine bO.cH (by decide) (cY (by assumption)) ?_);rintro _ (⟨rfl,_⟩ | rfl)) | with_reducible refine bO.fZ (by decide) ?_ | (with_reducible first | refine bO.ite (fun _=>?_) (fun _=>?_) | refine bO.b7 ?_) | with_reducible refine bO.bY (by (first | rfl | assumption | omega | (simp [cP,room,c5,e8] at *;omega))) ?_ | (with_reducible first | refine bO.ret ?_ | refine sE.l ?_ | refine sE.r ?_)))
 ·exact .inl ⟨rfl,by assumption⟩
 ·rename_i x
  simp only[List.length_cons,List.length_nil,aB] at x
  exact ⟨⟨by omega,by omega⟩,by omega⟩
 ·exact .inr rfl
theorem q8 {K:Nat} {r:cF} (hK:100<K) (h:Rd r):cQ (aJh K r) (fun v=>Rd v.2∧mu v.2≤mu r):=by
 refine cQ.of ?_
 unfold aJh
 (repeat' (first | (with_reducible first | refine bO.bT ?_ | refine bO.bQ ?_) | with_reducible refine bO.dN (by decide) ?_ | with_reducible refine bO.dA (by decide) ?_ | ((with_reducible first | refine bO.call (aRT (by omega) (by assumption)) ?_ | refine bO.call (oS (by assumption)) ?_ | refine bO.call (qZ (by assumption)) ?_ | refine bO.call (fJ (by assumption)) ?_);rintro ⟨_,_⟩ ⟨_,_⟩;try dsimp only at *) | ((with_reducible first | refine bO.call (c4 (by assumption)) ?_ | refine bO.cH (by decide) (c4 (by assumption)) ?_);rintro _ (⟨rfl,_⟩ | rfl)) | (with_reducible refine bO.call (eF (by assumption)) ?_;rintro ⟨_,_⟩ h;dsimp only at h;rcases h with (⟨rfl,_,_⟩ | ⟨rfl,rfl⟩) <;> try dsimp only) | ((with_reducible first | refine bO.call (eR (by assumption)) ?_ | refine bO.call (iM (by assumption) (by decide)) ?_);rintro _ h;(try dsimp only at h);obtain ⟨_,_⟩:=h;try dsimp only) | with_reducible refine bO.fZ (by decide) ?_ | (with_reducible first | refine bO.ite (fun _=>?_) (fun _=>?_) | refine bO.ret ?_ | refine sE.l ?_ | refine sE.r ?_)))
 (all_goals first | trivial | (refine ⟨by assumption,?_⟩;dsimp only;omega) | (refine ⟨⟨by assumption,?_⟩,?_⟩ <;> dsimp only <;> omega) | (refine ⟨⟨by assumption,?_,?_⟩,?_⟩ <;> dsimp only <;> omega))
theorem nA {K:Nat} {r:cF} (hK:100<K) (h:Rd r):cQ (aMB K r) (fun v=>Rd v.2∧mu v.2≤mu r):=by
 refine cQ.of ?_
 unfold aMB
 (repeat' (first | with_reducible refine bO.dN (by decide) ?_ | with_reducible refine bO.dA (by decide) ?_ | (with_reducible refine bO.call (q8 (by omega) (by assumption)) ?_;rintro ⟨_,_⟩ ⟨_,_⟩;try dsimp only at *) | (with_reducible refine bO.call (eF (by assumption)) ?_;rintro ⟨_,_⟩ h;dsimp only at h;rcases h with (⟨rfl,_,_⟩ | ⟨rfl,rfl⟩) <;> try dsimp only) | (with_reducible first | refine bO.ite (fun _=>?_) (fun _=>?_) | refine bO.ret ?_ | refine sE.l ?_ | refine sE.r ?_)))
 (all_goals first | trivial | (refine ⟨by assumption,?_⟩;dsimp only;omega) | (refine ⟨⟨by assumption,?_⟩,?_⟩ <;> dsimp only <;> omega) | (refine ⟨⟨by assumption,?_,?_⟩,?_⟩ <;> dsimp only <;> omega))
theorem aRU {K:Nat} {r:cF} (h:Rd r):cQ (aJo K r) (fun v=>Rd v.2∧mu v.2≤mu r - 1):=by
 refine cQ.of ?_
 unfold aJo
 (repeat' (first | (with_reducible refine bO.call (fJ (by assumption)) ?_;rintro ⟨_,_⟩ ⟨_,_⟩;try dsimp only at *) | (with_reducible refine bO.call (eR (by assumption)) ?_;rintro _ h;(try dsimp only at h);obtain ⟨_,_⟩:=h;try dsimp only) | (with_reducible first | refine bO.ret ?_ | refine sE.l ?_ | refine sE.r ?_)))
 (all_goals first | trivial | (refine ⟨by assumption,?_⟩;dsimp only;omega) | (refine ⟨⟨by assumption,?_⟩,?_⟩ <;> dsimp only <;> omega) | (refine ⟨⟨by assumption,?_,?_⟩,?_⟩ <;> dsimp only <;> omega))
end Go.Proofs.YtdbfbedholdjaaaGreat

namespace Go.Proofs.YtdbfbedholdjaaaGreat
open Go Go.Dl
variable [dO]
set_option maxRecDepth 100000
set_option maxHeartbeats 8000000
theorem cM.aRV (x:cM):x.sz=1+cM.gZ x.fP:=by cases x;rw[cM.sz]
theorem cI.aRV (x:cI):x.sz=1+cM.gZ x.cU+oQ x.eY+cI.kH x.b8:=by cases x;rw[cI.sz]
theorem Tq {p:Prop} (h:p:=by first | trivial | (refine ⟨by assumption,?_⟩;(((try simp only[aG,List.length_cons,List.length_nil,cM.sz,cM.gZ,mR,cI.sz,cI.gZ,cI.kH,uD,pO,oQ,qY,hU.sz,xB,uY,iR.sz,dsz,rW]);(try dsimp only);omega))) | (refine ⟨⟨by assumption,?_⟩,?_⟩ <;> (((try simp only[aG,List.length_cons,List.length_nil,cM.sz,cM.gZ,mR,cI.sz,cI.gZ,cI.kH,uD,pO,oQ,qY,hU.sz,xB,uY,iR.sz,dsz,rW]);(try dsimp only);omega))) | (refine ⟨⟨by assumption,?_,?_⟩,?_⟩ <;> (((try simp only[aG,List.length_cons,List.length_nil,cM.sz,cM.gZ,mR,cI.sz,cI.gZ,cI.kH,uD,pO,oQ,qY,hU.sz,xB,uY,iR.sz,dsz,rW]);(try dsimp only);omega))) | (refine ⟨by assumption,?_⟩;dsimp only;simp only[cM.aRV,cI.aRV] at *;omega) | (exfalso;simp only[beq_iff_eq] at *;omega)):p:=h
theorem nB {K:Nat} {r:cF} (hK:100000<K) (h:Rd r):cQ (aMA K r) (fun v=>Rd v.2∧v.1.length+mu v.2≤mu r):=by
 have hm:=mA h
 refine cQ.of ?_
 unfold aMA
 (repeat' (first | (with_reducible first | refine bO.bT ?_ | refine bO.bQ ?_ | refine bO.cT ?_) | with_reducible refine bO.dN (by decide) ?_ | with_reducible refine bO.dA (by decide) ?_ | ((with_reducible first | refine bO.call (q8 (by omega) (by assumption)) ?_ | refine bO.call (fJ (by assumption)) ?_);rintro ⟨_,_⟩ ⟨_,_⟩;try dsimp only at *) | ((with_reducible first | refine bO.call (c4 (by assumption)) ?_ | refine bO.cH (by decide) (c4 (by assumption)) ?_);rintro _ (⟨rfl,_⟩ | rfl)) | (with_reducible refine bO.call (eF (by assumption)) ?_;rintro ⟨_,_⟩ h;dsimp only at h;rcases h with (⟨rfl,_,_⟩ | ⟨rfl,rfl⟩) <;> try dsimp only) | ((with_reducible first | refine bO.call (eR (by assumption)) ?_ | refine bO.call (e9 (by assumption)) ?_);rintro _ h;(try dsimp only at h);obtain ⟨_,_⟩:=h;try dsimp only) | with_reducible refine bO.fZ (by decide) ?_ | (with_reducible first | refine bO.ite (fun _=>?_) (fun _=>?_) | refine bO.b7 ?_) | with_reducible refine bO.bY (by (first | rfl | assumption | omega | (simp [cP,room,c5,e8] at *;omega))) ?_ | (with_reducible first | refine bO.ret ?_ | refine sE.l ?_ | refine sE.r ?_)))
 ·exact ⟨by assumption,by simp;omega⟩
 ·rename_i r1 h1 h2
  refine bO.loop (fun t:cF × List eZ=>Rd t.1∧t.2.length+mu t.1≤mu r1) (fun t=>mu t.1) ⟨h1,by simp⟩ (by simp;omega) ?_
  rintro ⟨q,l⟩ ⟨g1,g2⟩
  dsimp only at g1 g2 ⊢
  refine bO.ite (fun e=>?_) (fun e=>?_)
  ·have hp:=wZ (by simpa using e)
   (repeat' (first | (with_reducible first | refine bO.bT ?_ | refine bO.bQ ?_ | refine bO.cT ?_) | with_reducible refine bO.dN (by decide) ?_ | with_reducible refine bO.dA (by decide) ?_ | ((with_reducible first | refine bO.call (q8 (by omega) (by assumption)) ?_ | refine bO.call (fJ (by assumption)) ?_);rintro ⟨_,_⟩ ⟨_,_⟩;try dsimp only at *) | ((with_reducible first | refine bO.call (c4 (by assumption)) ?_ | refine bO.cH (by decide) (c4 (by assumption)) ?_);rintro _ (⟨rfl,_⟩ | rfl)) | (with_reducible refine bO.call (eF (by assumption)) ?_;rintro ⟨_,_⟩ h;dsimp only at h;rcases h with (⟨rfl,_,_⟩ | ⟨rfl,rfl⟩) <;> try dsimp only) | ((with_reducible first | refine bO.call (eR (by assumption)) ?_ | refine bO.call (e9 (by assumption)) ?_);rintro _ h;(try dsimp only at h);obtain ⟨_,_⟩:=h;try dsimp only) | with_reducible refine bO.fZ (by decide) ?_ | (with_reducible first | refine bO.ite (fun _=>?_) (fun _=>?_) | refine bO.b7 ?_) | with_reducible refine bO.bY (by (first | rfl | assumption | omega | (simp [cP,room,c5,e8] at *;omega))) ?_ | (with_reducible first | refine bO.ret ?_ | refine sE.l ?_ | refine sE.r ?_)))
   (all_goals exact Tq)
  ·(repeat' (first | (with_reducible first | refine bO.bT ?_ | refine bO.bQ ?_ | refine bO.cT ?_) | with_reducible refine bO.dN (by decide) ?_ | with_reducible refine bO.dA (by decide) ?_ | ((with_reducible first | refine bO.call (q8 (by omega) (by assumption)) ?_ | refine bO.call (fJ (by assumption)) ?_);rintro ⟨_,_⟩ ⟨_,_⟩;try dsimp only at *) | ((with_reducible first | refine bO.call (c4 (by assumption)) ?_ | refine bO.cH (by decide) (c4 (by assumption)) ?_);rintro _ (⟨rfl,_⟩ | rfl)) | (with_reducible refine bO.call (eF (by assumption)) ?_;rintro ⟨_,_⟩ h;dsimp only at h;rcases h with (⟨rfl,_,_⟩ | ⟨rfl,rfl⟩) <;> try dsimp only) | ((with_reducible first | refine bO.call (eR (by assumption)) ?_ | refine bO.call (e9 (by assumption)) ?_);rintro _ h;(try dsimp only at h);obtain ⟨_,_⟩:=h;try dsimp only) | with_reducible refine bO.fZ (by decide) ?_ | (with_reducible first | refine bO.ite (fun _=>?_) (fun _=>?_) | refine bO.b7 ?_) | with_reducible refine bO.bY (by (first | rfl | assumption | omega | (simp [cP,room,c5,e8] at *;omega))) ?_ | (with_reducible first | refine bO.ret ?_ | refine sE.l ?_ | refine sE.r ?_)))
   (all_goals exact Tq)
theorem nC {K:Nat} {r:cF} (hK:100000<K) (h:Rd r):cQ (aJl K r) (fun v=>Rd v.2∧v.1.length+mu v.2≤mu r):=by
 have hm:=mA h
 refine cQ.of ?_
 unfold aJl
 (repeat' (first | (with_reducible first | refine bO.bT ?_ | refine bO.bQ ?_ | refine bO.cT ?_) | with_reducible refine bO.dN (by decide) ?_ | with_reducible refine bO.dA (by decide) ?_ | ((with_reducible first | refine bO.call (q8 (by omega) (by assumption)) ?_ | refine bO.call (oS (by assumption)) ?_ | refine bO.call (qZ (by assumption)) ?_ | refine bO.call (fJ (by assumption)) ?_);rintro ⟨_,_⟩ ⟨_,_⟩;try dsimp only at *) | ((with_reducible first | refine bO.call (cY (by assumption)) ?_ | refine bO.cH (by decide) (cY (by assumption)) ?_);rintro _ (⟨rfl,_⟩ | rfl)) | (with_reducible refine bO.call (eF (by assumption)) ?_;rintro ⟨_,_⟩ h;dsimp only at h;rcases h with (⟨rfl,_,_⟩ | ⟨rfl,rfl⟩) <;> try dsimp only) | ((with_reducible first | refine bO.call (eR (by assumption)) ?_ | refine bO.call (e9 (by assumption)) ?_);rintro _ h;(try dsimp only at h);obtain ⟨_,_⟩:=h;try dsimp only) | with_reducible refine bO.fZ (by decide) ?_ | (with_reducible first | refine bO.ite (fun _=>?_) (fun _=>?_) | refine bO.b7 ?_) | with_reducible refine bO.bY (by (first | rfl | assumption | omega | (simp [cP,room,c5,e8] at *;omega))) ?_ | (with_reducible first | refine bO.ret ?_ | refine sE.l ?_ | refine sE.r ?_)))
 refine bO.loop (fun t:cF × List eZ=>Rd t.1∧t.2.length+mu t.1≤mu r) (fun t=>mu t.1) ⟨h,by simp⟩ (by simp;omega) ?_
 rintro ⟨q,l⟩ ⟨g1,g2⟩
 dsimp only at g1 g2 ⊢
 (repeat' (first | (with_reducible first | refine bO.bT ?_ | refine bO.bQ ?_ | refine bO.cT ?_) | with_reducible refine bO.dN (by decide) ?_ | with_reducible refine bO.dA (by decide) ?_ | ((with_reducible first | refine bO.call (q8 (by omega) (by assumption)) ?_ | refine bO.call (oS (by assumption)) ?_ | refine bO.call (qZ (by assumption)) ?_ | refine bO.call (fJ (by assumption)) ?_);rintro ⟨_,_⟩ ⟨_,_⟩;try dsimp only at *) | ((with_reducible first | refine bO.call (cY (by assumption)) ?_ | refine bO.cH (by decide) (cY (by assumption)) ?_);rintro _ (⟨rfl,_⟩ | rfl)) | (with_reducible refine bO.call (eF (by assumption)) ?_;rintro ⟨_,_⟩ h;dsimp only at h;rcases h with (⟨rfl,_,_⟩ | ⟨rfl,rfl⟩) <;> try dsimp only) | ((with_reducible first | refine bO.call (eR (by assumption)) ?_ | refine bO.call (e9 (by assumption)) ?_);rintro _ h;(try dsimp only at h);obtain ⟨_,_⟩:=h;try dsimp only) | with_reducible refine bO.fZ (by decide) ?_ | (with_reducible first | refine bO.ite (fun _=>?_) (fun _=>?_) | refine bO.b7 ?_) | with_reducible refine bO.bY (by (first | rfl | assumption | omega | (simp [cP,room,c5,e8] at *;omega))) ?_ | (with_reducible first | refine bO.ret ?_ | refine sE.l ?_ | refine sE.r ?_)))
 (all_goals exact Tq)
theorem aRW {K:Nat} {r:cF} (hK:100000<K) (h:Rd r):cQ (aP5 K r) (fun v=>Rd v.2∧(v.1.sz+4 * mu v.2≤4 * mu r+1∧v.1.bU=1)):=by
 have hm:=mA h
 refine cQ.of ?_
 unfold aP5
 (repeat' (first | (with_reducible first | refine bO.bT ?_ | refine bO.bQ ?_ | refine bO.cT ?_) | with_reducible refine bO.dN (by decide) ?_ | with_reducible refine bO.dA (by decide) ?_ | ((with_reducible first | refine bO.call (nB (by omega) (by assumption)) ?_ | refine bO.call (nA (by omega) (by assumption)) ?_ | refine bO.call (fJ (by assumption)) ?_);rintro ⟨_,_⟩ ⟨_,_⟩;try dsimp only at *) | ((with_reducible first | refine bO.call (cY (by assumption)) ?_ | refine bO.cH (by decide) (cY (by assumption)) ?_);rintro _ (⟨rfl,_⟩ | rfl)) | ((with_reducible first | refine bO.call (eR (by assumption)) ?_ | refine bO.call (e9 (by assumption)) ?_);rintro _ h;(try dsimp only at h);obtain ⟨_,_⟩:=h;try dsimp only) | with_reducible refine bO.fZ (by decide) ?_ | (with_reducible first | refine bO.ite (fun _=>?_) (fun _=>?_) | refine bO.b7 ?_) | with_reducible refine bO.bY (by (first | rfl | assumption | omega | (simp [cP,room,c5,e8] at *;omega))) ?_ | (with_reducible first | refine bO.ret ?_ | refine sE.l ?_ | refine sE.r ?_)))
 rename_i x r1 h1 h2 r2 h3 h4
 refine bO.loop (fun t:cF × List hU=>Rd t.1∧t.2.length≤xB t.2∧xB t.2+4 * mu t.1≤4 * mu r2) (fun t=>mu t.1) ⟨h3,by simp [xB],by simp [xB]⟩ (by simp;omega) ?_
 rintro ⟨q,l⟩ ⟨g1,g2,g3⟩
 dsimp only at g1 g2 g3 ⊢
 (repeat' (first | (with_reducible first | refine bO.bT ?_ | refine bO.bQ ?_ | refine bO.cT ?_) | with_reducible refine bO.dN (by decide) ?_ | with_reducible refine bO.dA (by decide) ?_ | ((with_reducible first | refine bO.call (nB (by omega) (by assumption)) ?_ | refine bO.call (nA (by omega) (by assumption)) ?_ | refine bO.call (fJ (by assumption)) ?_);rintro ⟨_,_⟩ ⟨_,_⟩;try dsimp only at *) | ((with_reducible first | refine bO.call (cY (by assumption)) ?_ | refine bO.cH (by decide) (cY (by assumption)) ?_);rintro _ (⟨rfl,_⟩ | rfl)) | ((with_reducible first | refine bO.call (eR (by assumption)) ?_ | refine bO.call (e9 (by assumption)) ?_);rintro _ h;(try dsimp only at h);obtain ⟨_,_⟩:=h;try dsimp only) | with_reducible refine bO.fZ (by decide) ?_ | (with_reducible first | refine bO.ite (fun _=>?_) (fun _=>?_) | refine bO.b7 ?_) | with_reducible refine bO.bY (by (first | rfl | assumption | omega | (simp [cP,room,c5,e8] at *;omega))) ?_ | (with_reducible first | refine bO.ret ?_ | refine sE.l ?_ | refine sE.r ?_)))
 all_goals try (refine ⟨by assumption,?_,rfl⟩;(((try simp only[aG,List.length_cons,List.length_nil,cM.sz,cM.gZ,mR,cI.sz,cI.gZ,cI.kH,uD,pO,oQ,qY,hU.sz,xB,uY,iR.sz,dsz,rW]);(try dsimp only);omega)))
 (all_goals exact Tq)
abbrev PE (r:cF) (v:cM × cF):Prop:=Rd v.2∧1≤v.1.sz∧v.1.sz+2 * mu v.2≤2 * mu r+1
theorem aJM:∀ k:Nat,(∀ (r:cF) (d:Int),Rd r→3 * mu r+100001<k→cQ (oP k r d) (PE r))∧(∀ (r:cF) (e:cM) (d:Int),Rd r→3 * mu r+100002<k→cQ (aAs k r e d) (PE r)) ∧
 (∀ (r:cF) (d:Int),Rd r→3 * mu r+100000<k→cQ (aF4 k r d) (PE r))
 | 0=>⟨fun _ _ _ h=>by omega,fun _ _ _ _ h=>by omega,fun _ _ _ h=>by omega⟩
 | k+1=>by
   obtain ⟨ihE,ihI,ihO⟩:=aJM k
   refine ⟨fun r d h hk=>?_,fun r e d h hk=>?_,fun r d h hk=>?_⟩
   ·have hm:=mA h
    refine cQ.of ?_
    unfold oP
    by_cases hd:d > 6
    ·simp only[hd,decide_true,Bool.true_and]
     (repeat' (first | with_reducible refine bO.bT ?_ | with_reducible refine bO.dN (by decide) ?_ | with_reducible refine bO.dA (by decide) ?_ | (with_reducible refine bO.call (ihO _ _ (by assumption) (by omega)) ?_;rintro ⟨_,_⟩ ⟨_,_⟩;try dsimp only at *) | (with_reducible refine bO.cH (by decide) (uZ (by omega) (by assumption)) ?_;rintro _ (⟨rfl,_⟩ | rfl)) | (with_reducible refine bO.call (aH8 (by omega) (by assumption)) ?_;rintro ⟨_,_⟩ h;dsimp only at h;rcases h with (⟨_,rfl⟩ | ⟨_,_,_⟩) <;> try dsimp only) | (with_reducible refine bO.call (eF (by assumption)) ?_;rintro ⟨_,_⟩ h;dsimp only at h;rcases h with (⟨rfl,_,_⟩ | ⟨rfl,rfl⟩) <;> try dsimp only) | (with_reducible refine bO.call (iM (by assumption) (by decide)) ?_;rintro _ h;(try dsimp only at h);obtain ⟨_,_⟩:=h;try dsimp only) | with_reducible refine bO.fZ (by decide) ?_ | (with_reducible first | refine bO.ite (fun _=>?_) (fun _=>?_) | refine bO.ret ?_ | refine sE.l ?_ | refine sE.r ?_)))
     (all_goals exact Tq)
    ·simp only[hd,decide_false,Bool.false_and]
     (repeat' (first | with_reducible refine bO.bT ?_ | with_reducible refine bO.dN (by decide) ?_ | with_reducible refine bO.dA (by decide) ?_ | (with_reducible refine bO.call (ihO _ _ (by assumption) (by omega)) ?_;rintro ⟨_,_⟩ ⟨_,_⟩;try dsimp only at *) | (with_reducible refine bO.cH (by decide) (uZ (by omega) (by assumption)) ?_;rintro _ (⟨rfl,_⟩ | rfl)) | (with_reducible refine bO.call (aH8 (by omega) (by assumption)) ?_;rintro ⟨_,_⟩ h;dsimp only at h;rcases h with (⟨_,rfl⟩ | ⟨_,_,_⟩) <;> try dsimp only) | (with_reducible refine bO.call (eF (by assumption)) ?_;rintro ⟨_,_⟩ h;dsimp only at h;rcases h with (⟨rfl,_,_⟩ | ⟨rfl,rfl⟩) <;> try dsimp only) | (with_reducible refine bO.call (iM (by assumption) (by decide)) ?_;rintro _ h;(try dsimp only at h);obtain ⟨_,_⟩:=h;try dsimp only) | with_reducible refine bO.fZ (by decide) ?_ | (with_reducible first | refine bO.ite (fun _=>?_) (fun _=>?_) | refine bO.ret ?_ | refine sE.l ?_ | refine sE.r ?_)))
     (all_goals exact Tq)
   ·have hm:=mA h
    refine cQ.of ?_
    unfold aAs
    (repeat' (first | (with_reducible first | refine bO.bT ?_ | refine bO.bQ ?_ | refine bO.cT ?_) | with_reducible refine bO.dN (by decide) ?_ | with_reducible refine bO.dA (by decide) ?_ | ((with_reducible first | refine bO.call (ihE _ _ (by assumption) (by omega)) ?_ | refine bO.call (fJ (by assumption)) ?_);rintro ⟨_,_⟩ ⟨_,_⟩;try dsimp only at *) | (with_reducible refine bO.cH (by decide) (uZ (by omega) (by assumption)) ?_;rintro _ (⟨rfl,_⟩ | rfl)) | (with_reducible refine bO.call (eF (by assumption)) ?_;rintro ⟨_,_⟩ h;dsimp only at h;rcases h with (⟨rfl,_,_⟩ | ⟨rfl,rfl⟩) <;> try dsimp only) | ((with_reducible first | refine bO.call (eR (by assumption)) ?_ | refine bO.call (e9 (by assumption)) ?_);rintro _ h;(try dsimp only at h);obtain ⟨_,_⟩:=h;try dsimp only) | with_reducible refine bO.fZ (by decide) ?_ | (with_reducible first | refine bO.ite (fun _=>?_) (fun _=>?_) | refine bO.b7 ?_) | with_reducible refine bO.bY (by (first | rfl | assumption | omega | (simp [cP,room,c5,e8] at *;omega))) ?_ | (with_reducible first | refine bO.ret ?_ | refine sE.l ?_ | refine sE.r ?_)))
    ·(all_goals exact Tq)
    ·rename_i x r2 h3 h4 r3 h5 h6
     refine bO.loop (fun t:cF × List cM=>Rd t.1∧t.2.length≤cM.gZ t.2∧cM.gZ t.2+2 * mu t.1≤2 * mu r3) (fun t=>mu t.1) ⟨h5,by simp,by simp [cM.gZ]⟩ (by simp;omega) ?_
     rintro ⟨q,l⟩ ⟨g1,g2,g3⟩
     dsimp only at g1 g2 g3 ⊢
     refine bO.ite (fun e=>?_) (fun e=>?_)
     ·have hp:=wZ (by simpa using e)
      (repeat' (first | (with_reducible first | refine bO.bT ?_ | refine bO.bQ ?_ | refine bO.cT ?_) | with_reducible refine bO.dN (by decide) ?_ | with_reducible refine bO.dA (by decide) ?_ | ((with_reducible first | refine bO.call (ihE _ _ (by assumption) (by omega)) ?_ | refine bO.call (fJ (by assumption)) ?_);rintro ⟨_,_⟩ ⟨_,_⟩;try dsimp only at *) | (with_reducible refine bO.cH (by decide) (uZ (by omega) (by assumption)) ?_;rintro _ (⟨rfl,_⟩ | rfl)) | (with_reducible refine bO.call (eF (by assumption)) ?_;rintro ⟨_,_⟩ h;dsimp only at h;rcases h with (⟨rfl,_,_⟩ | ⟨rfl,rfl⟩) <;> try dsimp only) | ((with_reducible first | refine bO.call (eR (by assumption)) ?_ | refine bO.call (e9 (by assumption)) ?_);rintro _ h;(try dsimp only at h);obtain ⟨_,_⟩:=h;try dsimp only) | with_reducible refine bO.fZ (by decide) ?_ | (with_reducible first | refine bO.ite (fun _=>?_) (fun _=>?_) | refine bO.b7 ?_) | with_reducible refine bO.bY (by (first | rfl | assumption | omega | (simp [cP,room,c5,e8] at *;omega))) ?_ | (with_reducible first | refine bO.ret ?_ | refine sE.l ?_ | refine sE.r ?_)))
      (all_goals exact Tq)
     ·(repeat' (first | (with_reducible first | refine bO.bT ?_ | refine bO.bQ ?_ | refine bO.cT ?_) | with_reducible refine bO.dN (by decide) ?_ | with_reducible refine bO.dA (by decide) ?_ | ((with_reducible first | refine bO.call (ihE _ _ (by assumption) (by omega)) ?_ | refine bO.call (fJ (by assumption)) ?_);rintro ⟨_,_⟩ ⟨_,_⟩;try dsimp only at *) | (with_reducible refine bO.cH (by decide) (uZ (by omega) (by assumption)) ?_;rintro _ (⟨rfl,_⟩ | rfl)) | (with_reducible refine bO.call (eF (by assumption)) ?_;rintro ⟨_,_⟩ h;dsimp only at h;rcases h with (⟨rfl,_,_⟩ | ⟨rfl,rfl⟩) <;> try dsimp only) | ((with_reducible first | refine bO.call (eR (by assumption)) ?_ | refine bO.call (e9 (by assumption)) ?_);rintro _ h;(try dsimp only at h);obtain ⟨_,_⟩:=h;try dsimp only) | with_reducible refine bO.fZ (by decide) ?_ | (with_reducible first | refine bO.ite (fun _=>?_) (fun _=>?_) | refine bO.b7 ?_) | with_reducible refine bO.bY (by (first | rfl | assumption | omega | (simp [cP,room,c5,e8] at *;omega))) ?_ | (with_reducible first | refine bO.ret ?_ | refine sE.l ?_ | refine sE.r ?_)))
      (all_goals exact Tq)
   ·have hm:=mA h
    refine cQ.of ?_
    unfold aF4
    (repeat' (first | (with_reducible first | refine bO.bT ?_ | refine bO.bQ ?_) | with_reducible refine bO.dN (by decide) ?_ | with_reducible refine bO.dA (by decide) ?_ | ((with_reducible first | refine bO.call (ihI _ _ _ (by assumption) (by omega)) ?_ | refine bO.call (ihE _ _ (by assumption) (by omega)) ?_ | refine bO.call (aRU (by assumption)) ?_ | refine bO.call (qZ (by assumption)) ?_ | refine bO.call (fJ (by assumption)) ?_);rintro ⟨_,_⟩ ⟨_,_⟩;try dsimp only at *) | ((with_reducible first | refine bO.call (c4 (by assumption)) ?_ | refine bO.call (cY (by assumption)) ?_ | refine bO.cH (by decide) (c4 (by assumption)) ?_ | refine bO.cH (by decide) (cY (by assumption)) ?_);rintro _ (⟨rfl,_⟩ | rfl)) | (with_reducible refine bO.call (eF (by assumption)) ?_;rintro ⟨_,_⟩ h;dsimp only at h;rcases h with (⟨rfl,_,_⟩ | ⟨rfl,rfl⟩) <;> try dsimp only) | ((with_reducible first | refine bO.call (eR (by assumption)) ?_ | refine bO.call (iM (by assumption) (by decide)) ?_);rintro _ h;(try dsimp only at h);obtain ⟨_,_⟩:=h;try dsimp only) | with_reducible refine bO.fZ (by decide) ?_ | (with_reducible first | refine bO.ite (fun _=>?_) (fun _=>?_) | refine bO.ret ?_ | refine sE.l ?_ | refine sE.r ?_)))
    (all_goals exact Tq)
theorem oT {K:Nat} {r:cF} {d:Int} (hK:200000<K) (h:Rd r):cQ (oP K r d) (PE r):=(aJM K).1 r d h (by have:=mA h;omega)
theorem aH9 {K:Nat} {r:cF} {e:cM} {d:Int} (hK:200000<K) (h:Rd r):cQ (aAs K r e d) (PE r):=(aJM K).2.1 r e d h (by have:=mA h;omega)
theorem aRX {K:Nat} {r:cF} (hK:200000<K) (h:Rd r):cQ (aQm K r) (fun v=>Rd v.2∧v.1.sz+4 * mu v.2≤4 * (mu r - 1)+4):=by
 have hm:=mA h
 refine cQ.of ?_
 unfold aQm
 (repeat' (first | (with_reducible first | refine bO.bT ?_ | refine bO.bQ ?_) | with_reducible refine bO.dN (by decide) ?_ | with_reducible refine bO.dA (by decide) ?_ | ((with_reducible first | refine bO.call (aH9 (by omega) (by assumption)) ?_ | refine bO.call (oT (by omega) (by assumption)) ?_ | refine bO.call (fJ (by assumption)) ?_);rintro ⟨_,_⟩ ⟨_,_⟩;try dsimp only at *) | ((with_reducible first | refine bO.call (cY (by assumption)) ?_ | refine bO.cH (by decide) (cY (by assumption)) ?_);rintro _ (⟨rfl,_⟩ | rfl)) | (with_reducible refine bO.call (eF (by assumption)) ?_;rintro ⟨_,_⟩ h;dsimp only at h;rcases h with (⟨rfl,_,_⟩ | ⟨rfl,rfl⟩) <;> try dsimp only) | ((with_reducible first | refine bO.call (eR (by assumption)) ?_ | refine bO.call (iM (by assumption) (by decide)) ?_);rintro _ h;(try dsimp only at h);obtain ⟨_,_⟩:=h;try dsimp only) | with_reducible refine bO.fZ (by decide) ?_ | (with_reducible first | refine bO.ite (fun _=>?_) (fun _=>?_) | refine bO.ret ?_ | refine sE.l ?_ | refine sE.r ?_)))
 (all_goals exact Tq)
end Go.Proofs.YtdbfbedholdjaaaGreat
