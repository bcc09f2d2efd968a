/- No conditions. -/
import Derived.Test.YtngjamedgphjiaaGreatDoorVf
set_option linter.unusedVariables false
set_option linter.unusedSimpArgs false
set_option linter.unusedSectionVars false
namespace Go.Proofs.YtngjamedgphjiaaGreatDoor
open Go Go.Dl
set_option maxRecDepth 100000
def bF {α:Type} (m:Option α) (Q:α→Prop):Prop:=∃ z,m=some z∧Q z
def sE {A T:Type} (p:A→Prop) (q:T→Prop):A ⊕ T→Prop
|.inl a=>p a
|.inr t=>q t
def eA {R:Type} (m:Option (R ⊕ R)) (Q:R→Prop):Prop:=∃ v,cT m=some v∧Q v
section
variable {A T U R X Y:Type}
theorem sE.l {p:A→Prop} {q:T→Prop} {a:A} (h:p a):sE p q (.inl a):=h
theorem sE.r {p:A→Prop} {q:T→Prop} {t:T} (h:q t):sE p q (.inr t):=h
theorem bF.ret {α:Type} {Q:α→Prop} {z:α} (h:Q z):bF (some z) Q:=⟨z,rfl,h⟩
theorem bF.tI {α:Type} {m:Option α} {Q Q':α→Prop} (h:bF m Q) (hq:∀ z,Q z→Q' z):bF m Q':=by
 obtain ⟨z,h1,h2⟩:=h;exact ⟨z,h1,hq z h2⟩
theorem eA.tI {m:Option (R ⊕ R)} {Q Q':R→Prop} (h:eA m Q) (hq:∀ z,Q z→Q' z):eA m Q':=by
 obtain ⟨z,h1,h2⟩:=h;exact ⟨z,h1,hq z h2⟩
theorem bF.bO {α:Type} {v:X} {f:X→Option α} {Q:α→Prop} (h:bF (f v) Q):bF (bO v f) Q:=h
theorem bF.ite {α:Type} {c:Prop} [Decidable c] {a b:Option α} {Q:α→Prop} (h1:c→bF a Q) (h2:¬ c→bF b Q):bF (if c then a else b) Q:=by
 split
 ·exact h1 ‹_›
 ·exact h2 ‹_›
theorem bF.dF {α:Type} {c:Prop} [Decidable c] {a b:Option α} {Q:α→Prop} (h:c) (h1:bF a Q):bF (if c then a else b) Q:=by rw[aO h];exact h1
theorem bF.dB {α:Type} {c:Prop} [Decidable c] {a b:Option α} {Q:α→Prop} (h:¬ c) (h1:bF b Q):bF (if c then a else b) Q:=by rw[aH h];exact h1
theorem bF.cJ {α:Type} {m:Option α} {Q:α→Prop} (h:bF m Q):bF (c5 [] m) Q:=h
theorem bF.c5 {α:Type} {v:Bool} {vs:List Bool} {m:Option α} {Q:α→Prop} (hv:v=true) (h:bF (c5 vs m) Q):bF (c5 (v::vs) m) Q:=by
 unfold Go.Dl.c5;rw[aO hv];exact h
theorem bF.bL {m:Option (A ⊕ T)} {f:T→Option (A ⊕ U)} {p:A→Prop} {q:U→Prop} (h:bF m (sE p (fun t=>bF (f t) (sE p q)))):bF (bL m f) (sE p q):=by
 obtain ⟨z,rfl,h⟩:=h
 match z,h with
|.inl a,h=>exact ⟨_,rfl,h⟩
|.inr t,h=>exact h
theorem bF.bI {m:Option ((T ⊕ A) ⊕ T)} {p:A→Prop} {q:T→Prop} (h:bF m (sE (sE q p) q)):bF (bI m) (sE p q):=by
 obtain ⟨z,rfl,h⟩:=h
 match z,h with
|.inl (.inl t),h=>exact ⟨_,rfl,h⟩
|.inl (.inr a),h=>exact ⟨_,rfl,h⟩
|.inr t,h=>exact ⟨_,rfl,h⟩
theorem bF.dX {m:Option A} {p:A→Prop} {q:T→Prop} (h:bF m p):bF (m.map (Sum.inl:A→A ⊕ T)) (sE p q):=by
 obtain ⟨z,rfl,h⟩:=h;exact ⟨_,rfl,h⟩
theorem bF.mS {m:Option (A ⊕ T)} {f:T→Option (A ⊕ U)} {p:A→Prop} {q:U→Prop} (h:bF m (sE p (fun _=>True))) (hf:∀ t,bF (f t) (sE p q)):bF (Go.Dl.bL m f) (sE p q):=by
 refine bF.bL (h.tI ?_)
 rintro (a|t) h
 ·exact h
 ·exact hf t
theorem bF.call {α:Type} {m:Option (R ⊕ R)} {f:R→Option α} {Q:α→Prop} {P:R→Prop} (h:eA m P) (hf:∀ v,P v→bF (f v) Q):bF ((cT m).bind f) Q:=by
 obtain ⟨v,h1,h2⟩:=h
 rw[h1];exact hf v h2
theorem bF.cF {α:Type} {b:Bool} {d:R} {m:Option (R ⊕ R)} {f:R→Option α} {Q:α→Prop} {P:R→Prop} (h:b=true→eA m P) (hf:∀ v,(b=true→P v)→bF (f v) Q):bF ((eF b (cT m) d).bind f) Q:=by
 unfold eF
 by_cases hb:b=true
 ·rw[aO hb];exact bF.call (h hb) (fun v hv=>hf v fun _=>hv)
 ·rw[aH hb];exact hf d (fun h=>absurd h hb)
theorem eA.of {m:Option (R ⊕ R)} {Q:R→Prop} (h:bF m (sE Q Q)):eA m Q:=by
 obtain ⟨z,rfl,h⟩:=h
 match z,h with
|.inl a,h=>exact ⟨_,rfl,h⟩
|.inr a,h=>exact ⟨_,rfl,h⟩
theorem bF.jE {m1:Option (A ⊕ Unit)} {m2:Option A} {p:A→Prop} (h:bF m1 (sE p (fun _=>bF m2 p))):bF (jE m1 m2) p:=by
 obtain ⟨z,rfl,h⟩:=h
 match z,h with
|.inl a,h=>exact ⟨_,rfl,h⟩
|.inr t,h=>exact h
theorem bF.loop {K:Nat} {f:T→Option (A ⊕ T)} {t0:T} {p:A→Prop} (I:T→Prop) (μ:T→Nat) (h0:I t0) (hK:μ t0<K) (hs:∀ t,I t→bF (f t) (sE p (fun t'=>I t'∧μ t'<μ t))):bF (iter K f t0) p:=by
 induction K generalizing t0 with
|zero=>omega
|succ K ih =>
   unfold iter
   obtain ⟨z,hz,h⟩:=hs t0 h0
   rw[hz]
   match z,h with
  |.inl a,h=>exact ⟨_,rfl,h⟩
  |.inr t,h=>exact ih h.1 (by have:=h.2;omega)
theorem bF.upP {K:Nat} {f:Int→Option (A ⊕ Int)} {p:A→Prop} (n:Nat) (P:Nat→Prop) (hK:n<K) (hs:∀ i:Nat,i<n→bF (f i) (sE p (fun t=>t=(i:Int)+1∧P i))) (he:(∀ i,i<n→P i)→bF (f n) (sE p (fun _=>False))):bF (iter K f 0) p:=by
 refine bF.loop (fun t=>∃ i:Nat,t=i∧i≤n∧∀ j,j<i→P j) (fun t=>n - t.toNat) ⟨0,rfl,by omega,by simp⟩ (by simpa using hK) ?_
 rintro t ⟨i,rfl,hi,hP⟩
 by_cases h:i=n
 ·subst h
  refine (he hP).tI ?_
  rintro (a|t) h
  ·exact h
  ·exact h.elim
 ·refine (hs i (by omega)).tI ?_
  rintro (a|t) h
  ·exact h
  ·obtain ⟨h1,h2⟩:=h
   subst h1
   refine ⟨⟨i+1,by omega,by omega,fun j hj=>?_⟩,?_⟩
   ·by_cases h:j=i
    ·subst h;exact h2
    ·exact hP j (by omega)
   ·omega
theorem bF.up {K:Nat} {f:Int→Option (A ⊕ Int)} {p:A→Prop} (n:Nat) (hK:n<K) (hs:∀ i:Nat,i<n→bF (f i) (sE p (fun t=>t=(i:Int)+1∧True))) (he:bF (f n) (sE p (fun _=>False))):bF (iter K f 0) p :=
 bF.upP n (fun _=>True) hK hs (fun _=>he)
theorem jT {l:List X} {d:X} {P:X→Prop} (h:∀ i,i<l.length→P (l.getD i d)):∀ x∈l,P x:=by
 intro x hx
 obtain ⟨i,hi,rfl⟩:=List.getElem_of_mem hx
 have:=h i hi
 rwa [List.getD,aE hi] at this
theorem eV {l:List X} {d:X} {P:X→Prop} (h:∀ x∈l,P x) {i:Nat} (hi:i<l.length):P (l.getD i d):=by
 rw[List.getD,aE hi];exact h _ (List.getElem_mem hi)
end
theorem rV {p q n:Int}:cH p q > n↔p > n∨q > n:=by unfold cH;split <;> omega
theorem eN {K:Nat} {a0:List Bytes} {a1 a2:Int} (hK:100<K) (ha:a1≤60):eA (F11 K a0 a1 a2) (fun v=>v=false→a0.length≤a1∧∀ x∈a0,x.length≤a2):=by
 refine eA.of ?_
 unfold F11
 by_cases hl:(a0.length:Int)≤a1
 ·(repeat' (first|(with_reducible first|apply bF.bO|apply bF.bL|apply bF.bI|apply bF.dX|refine bF.ite (fun _=>?_) (fun _=>?_)|apply bF.cJ|apply bF.ret|apply sE.l|apply sE.r)|with_reducible refine bF.c5 (by (first|assumption|trivial|omega|(simp [cR,room,cK,cH] at *;first|done|omega|(split at * <;> omega)))) ?_|(refine (And.intro (a:=IntKind.i64.wrap _=_) (wrap64 (by omega) (by omega)) ?_))))
  refine bF.upP a0.length (fun i=>((a0.getD i default).length:Int)≤a2) (by omega) (fun i hi=>?_) (fun hp=>?_)
  ·(repeat' (first|(with_reducible first|apply bF.bO|apply bF.bL|apply bF.bI|apply bF.dX|refine bF.ite (fun _=>?_) (fun _=>?_)|apply bF.cJ|apply bF.ret|apply sE.l|apply sE.r)|with_reducible refine bF.c5 (by (first|assumption|trivial|omega|(simp [cR,room,cK,cH] at *;first|done|omega|(split at * <;> omega)))) ?_|(refine (And.intro (a:=IntKind.i64.wrap _=_) (wrap64 (by omega) (by omega)) ?_))))
   (all_goals (try (first|trivial|(intro h;cases h;done)|(first|assumption|trivial|omega|(simp [cR,room,cK,cH] at *;first|done|omega|(split at * <;> omega))))))
  ·(repeat' (first|(with_reducible first|apply bF.bO|apply bF.bL|apply bF.bI|apply bF.dX|refine bF.ite (fun _=>?_) (fun _=>?_)|apply bF.cJ|apply bF.ret|apply sE.l|apply sE.r)|with_reducible refine bF.c5 (by (first|assumption|trivial|omega|(simp [cR,room,cK,cH] at *;first|done|omega|(split at * <;> omega)))) ?_|(refine (And.intro (a:=IntKind.i64.wrap _=_) (wrap64 (by omega) (by omega)) ?_))))
   (all_goals (try (first|trivial|(intro h;cases h;done)|(first|assumption|trivial|omega|(simp [cR,room,cK,cH] at *;first|done|omega|(split at * <;> omega))))))
   exact fun _=>⟨hl,jT (P:=fun x:Bytes=>(x.length:Int)≤a2) hp⟩
 ·(repeat' (first|(with_reducible first|apply bF.bO|apply bF.bL|apply bF.bI|apply bF.dX|refine bF.ite (fun _=>?_) (fun _=>?_)|apply bF.cJ|apply bF.ret|apply sE.l|apply sE.r)|with_reducible refine bF.c5 (by (first|assumption|trivial|omega|(simp [cR,room,cK,cH] at *;first|done|omega|(split at * <;> omega)))) ?_|(refine (And.intro (a:=IntKind.i64.wrap _=_) (wrap64 (by omega) (by omega)) ?_))))
  refine bF.up 0 (by omega) (fun i hi=>by omega) ?_
  (repeat' (first|(with_reducible first|apply bF.bO|apply bF.bL|apply bF.bI|apply bF.dX|refine bF.ite (fun _=>?_) (fun _=>?_)|apply bF.cJ|apply bF.ret|apply sE.l|apply sE.r)|with_reducible refine bF.c5 (by (first|assumption|trivial|omega|(simp [cR,room,cK,cH] at *;first|done|omega|(split at * <;> omega)))) ?_|(refine (And.intro (a:=IntKind.i64.wrap _=_) (wrap64 (by omega) (by omega)) ?_))))
  (all_goals (try (first|trivial|(intro h;cases h;done)|(first|assumption|trivial|omega|(simp [cR,room,cK,cH] at *;first|done|omega|(split at * <;> omega))))))
structure SmT (l:List Bytes) (n:Nat):Prop where
 n:l.length≤n
 t:∀ x∈l,x.length≤60
structure SmD (d:pK) (m:Nat):Prop where
 f:d.gD.length≤60
 i:d.cG.length≤60
 v:d.iI.length≤60+m
 t:d.eO.length≤60
 s:SmT d.eQ (40+m)
 l:∀ t∈d.eO,t.hO.length≤40
structure SmC (c:gY):Prop where
 p:c.b9.length≤60
 l:c.cD.length≤60
 o:c.bT.length≤200
structure Sm (im:eW) (m:Nat):Prop where
 aGw:im.bR.length≤40
 kX:im.bE.length≤40
 tJ:im.bB.length≤40
 aJy:im.bX.length≤40+61 * m
 init:im.cG.length≤40+m
 blocks:im.bQ.length≤40
 ins:im.cU.length≤40
 outs:im.b8.length≤40
 aHo:im.bU.length≤40
 globals:im.bM.length≤60+m
 aJz:∀ l∈im.bR,SmT l 20
 cls:∀ d∈im.bE,SmD d m
 code:∀ c∈im.bB,SmC c
theorem aHp {K:Nat} {a0:eW} (hK:1000<K):eA (F6 K a0) (fun v=>v=false→Sm a0 0):=by
 refine eA.of ?_
 unfold F6
 (repeat' (first|(with_reducible first|apply bF.bO|apply bF.bL|apply bF.bI|apply bF.dX|refine bF.ite (fun _=>?_) (fun _=>?_)|apply bF.cJ|apply bF.ret|apply sE.l|apply sE.r)|with_reducible refine bF.c5 (by (first|assumption|trivial|omega|(simp [cR,room,cK,cH] at *;first|done|omega|(split at * <;> omega)))) ?_|(with_reducible first|refine bF.cF (fun _=>eN (by omega) (by omega)) (fun _ _=>?_)|refine bF.call (eN (by omega) (by omega)) (fun _ _=>?_))|(refine (And.intro (a:=IntKind.i64.wrap _=_) (wrap64 (by omega) (by omega)) ?_))))
 ·(all_goals (try (first|trivial|(intro h;cases h;done)|(first|assumption|trivial|omega|(simp [cR,room,cK,cH] at *;first|done|omega|(split at * <;> omega))))))
 ·rename_i h0
  simp only[aP,aC,rV,aD] at h0
  refine bF.upP a0.bR.length (fun i=>SmT (a0.bR.getD i default) 20) (by omega) (fun i hi=>?_) (fun hp1=>?_)
  ·(repeat' (first|(with_reducible first|apply bF.bO|apply bF.bL|apply bF.bI|apply bF.dX|refine bF.ite (fun _=>?_) (fun _=>?_)|apply bF.cJ|apply bF.ret|apply sE.l|apply sE.r)|with_reducible refine bF.c5 (by (first|assumption|trivial|omega|(simp [cR,room,cK,cH] at *;first|done|omega|(split at * <;> omega)))) ?_|(with_reducible first|refine bF.cF (fun _=>eN (by omega) (by omega)) (fun _ _=>?_)|refine bF.call (eN (by omega) (by omega)) (fun _ _=>?_))|(refine (And.intro (a:=IntKind.i64.wrap _=_) (wrap64 (by omega) (by omega)) ?_))))
   (all_goals (try (first|trivial|(intro h;cases h;done)|(first|assumption|trivial|omega|(simp [cR,room,cK,cH] at *;first|done|omega|(split at * <;> omega))))))
   rename_i v hv hc
   simp only[Bool.not_eq_true,aM] at hv hc
   obtain ⟨h1,h2⟩:=hv hc
   exact ⟨by omega,fun x hx=>by have:=h2 x hx;omega⟩
  ·(repeat' (first|(with_reducible first|apply bF.bO|apply bF.bL|apply bF.bI|apply bF.dX|refine bF.ite (fun _=>?_) (fun _=>?_)|apply bF.cJ|apply bF.ret|apply sE.l|apply sE.r)|with_reducible refine bF.c5 (by (first|assumption|trivial|omega|(simp [cR,room,cK,cH] at *;first|done|omega|(split at * <;> omega)))) ?_|(with_reducible first|refine bF.cF (fun _=>eN (by omega) (by omega)) (fun _ _=>?_)|refine bF.call (eN (by omega) (by omega)) (fun _ _=>?_))|(refine (And.intro (a:=IntKind.i64.wrap _=_) (wrap64 (by omega) (by omega)) ?_))))
   (all_goals (try (first|trivial|(intro h;cases h;done)|(first|assumption|trivial|omega|(simp [cR,room,cK,cH] at *;first|done|omega|(split at * <;> omega))))))
   refine bF.upP a0.bE.length (fun i=>SmD (a0.bE.getD i default) 0) (by omega) (fun i hi=>?_) (fun hp2=>?_)
   ·(repeat' (first|(with_reducible first|apply bF.bO|apply bF.bL|apply bF.bI|apply bF.dX|refine bF.ite (fun _=>?_) (fun _=>?_)|apply bF.cJ|apply bF.ret|apply sE.l|apply sE.r)|with_reducible refine bF.c5 (by (first|assumption|trivial|omega|(simp [cR,room,cK,cH] at *;first|done|omega|(split at * <;> omega)))) ?_|(with_reducible first|refine bF.cF (fun _=>eN (by omega) (by omega)) (fun _ _=>?_)|refine bF.call (eN (by omega) (by omega)) (fun _ _=>?_))|(refine (And.intro (a:=IntKind.i64.wrap _=_) (wrap64 (by omega) (by omega)) ?_))))
    (all_goals (try (first|trivial|(intro h;cases h;done)|(first|assumption|trivial|omega|(simp [cR,room,cK,cH] at *;first|done|omega|(split at * <;> omega))))))
    rename_i v hv hc
    simp only[aM,Bool.not_eq_true',Bool.or_eq_false_iff,decide_eq_false_iff_not,Bool.not_eq_true,rV,aD] at hv hc
    obtain ⟨⟨hc1,hc2⟩,hc3⟩:=hc
    obtain ⟨h1,h2⟩:=hv ⟨hc1,hc2⟩ hc3
    simp only[aM]
    refine bF.upP (a0.bE.getD i default).eO.length (fun j=>((a0.bE.getD i default).eO.getD j default).hO.length≤40) (by omega) (fun j hj=>?_) (fun hp3=>?_)
    ·(repeat' (first|(with_reducible first|apply bF.bO|apply bF.bL|apply bF.bI|apply bF.dX|refine bF.ite (fun _=>?_) (fun _=>?_)|apply bF.cJ|apply bF.ret|apply sE.l|apply sE.r)|with_reducible refine bF.c5 (by (first|assumption|trivial|omega|(simp [cR,room,cK,cH] at *;first|done|omega|(split at * <;> omega)))) ?_|(with_reducible first|refine bF.cF (fun _=>eN (by omega) (by omega)) (fun _ _=>?_)|refine bF.call (eN (by omega) (by omega)) (fun _ _=>?_))|(refine (And.intro (a:=IntKind.i64.wrap _=_) (wrap64 (by omega) (by omega)) ?_))))
     (all_goals (try (first|trivial|(intro h;cases h;done)|(first|assumption|trivial|omega|(simp [cR,room,cK,cH] at *;first|done|omega|(split at * <;> omega))))))
    ·(repeat' (first|(with_reducible first|apply bF.bO|apply bF.bL|apply bF.bI|apply bF.dX|refine bF.ite (fun _=>?_) (fun _=>?_)|apply bF.cJ|apply bF.ret|apply sE.l|apply sE.r)|with_reducible refine bF.c5 (by (first|assumption|trivial|omega|(simp [cR,room,cK,cH] at *;first|done|omega|(split at * <;> omega)))) ?_|(with_reducible first|refine bF.cF (fun _=>eN (by omega) (by omega)) (fun _ _=>?_)|refine bF.call (eN (by omega) (by omega)) (fun _ _=>?_))|(refine (And.intro (a:=IntKind.i64.wrap _=_) (wrap64 (by omega) (by omega)) ?_))))
     (all_goals (try (first|trivial|(intro h;cases h;done)|(first|assumption|trivial|omega|(simp [cR,room,cK,cH] at *;first|done|omega|(split at * <;> omega))))))
     refine ⟨by omega,by omega,by omega,by omega,⟨by omega,fun x hx=>by have:=h2 x hx;omega⟩,jT (P:=fun t:yE=>t.hO.length≤40) hp3⟩
   ·(repeat' (first|(with_reducible first|apply bF.bO|apply bF.bL|apply bF.bI|apply bF.dX|refine bF.ite (fun _=>?_) (fun _=>?_)|apply bF.cJ|apply bF.ret|apply sE.l|apply sE.r)|with_reducible refine bF.c5 (by (first|assumption|trivial|omega|(simp [cR,room,cK,cH] at *;first|done|omega|(split at * <;> omega)))) ?_|(with_reducible first|refine bF.cF (fun _=>eN (by omega) (by omega)) (fun _ _=>?_)|refine bF.call (eN (by omega) (by omega)) (fun _ _=>?_))|(refine (And.intro (a:=IntKind.i64.wrap _=_) (wrap64 (by omega) (by omega)) ?_))))
    (all_goals (try (first|trivial|(intro h;cases h;done)|(first|assumption|trivial|omega|(simp [cR,room,cK,cH] at *;first|done|omega|(split at * <;> omega))))))
    refine bF.upP a0.bB.length (fun i=>SmC (a0.bB.getD i default)) (by omega) (fun i hi=>?_) (fun hp4=>?_)
    ·(repeat' (first|(with_reducible first|apply bF.bO|apply bF.bL|apply bF.bI|apply bF.dX|refine bF.ite (fun _=>?_) (fun _=>?_)|apply bF.cJ|apply bF.ret|apply sE.l|apply sE.r)|with_reducible refine bF.c5 (by (first|assumption|trivial|omega|(simp [cR,room,cK,cH] at *;first|done|omega|(split at * <;> omega)))) ?_|(with_reducible first|refine bF.cF (fun _=>eN (by omega) (by omega)) (fun _ _=>?_)|refine bF.call (eN (by omega) (by omega)) (fun _ _=>?_))|(refine (And.intro (a:=IntKind.i64.wrap _=_) (wrap64 (by omega) (by omega)) ?_))))
     (all_goals (try (first|trivial|(intro h;cases h;done)|(first|assumption|trivial|omega|(simp [cR,room,cK,cH] at *;first|done|omega|(split at * <;> omega))))))
     rename_i hc
     simp only[aM,Bool.or_eq_false_iff,decide_eq_false_iff_not,Bool.not_eq_true,rV,aD] at hc
     exact ⟨by omega,by omega,by omega⟩
    ·(repeat' (first|(with_reducible first|apply bF.bO|apply bF.bL|apply bF.bI|apply bF.dX|refine bF.ite (fun _=>?_) (fun _=>?_)|apply bF.cJ|apply bF.ret|apply sE.l|apply sE.r)|with_reducible refine bF.c5 (by (first|assumption|trivial|omega|(simp [cR,room,cK,cH] at *;first|done|omega|(split at * <;> omega)))) ?_|(with_reducible first|refine bF.cF (fun _=>eN (by omega) (by omega)) (fun _ _=>?_)|refine bF.call (eN (by omega) (by omega)) (fun _ _=>?_))|(refine (And.intro (a:=IntKind.i64.wrap _=_) (wrap64 (by omega) (by omega)) ?_))))
     (all_goals (try (first|trivial|(intro h;cases h;done)|(first|assumption|trivial|omega|(simp [cR,room,cK,cH] at *;first|done|omega|(split at * <;> omega))))))
     exact fun _=>⟨by omega,by omega,by omega,by omega,by omega,by omega,by omega,by omega,by omega,by omega,jT (P:=fun l=>SmT l 20) hp1,jT (P:=fun l=>SmD l 0) hp2,jT (P:=SmC) hp4⟩
end Go.Proofs.YtngjamedgphjiaaGreatDoor

namespace Go.Proofs.YtngjamedgphjiaaGreatDoor
open Go Go.Dl
set_option maxRecDepth 100000
set_option maxHeartbeats 1000000
theorem kY {K:Nat} {a0:Int}:eA (F96 K a0) (fun _=>True):=by
 refine eA.of ?_
 unfold F96
 (repeat' (first|(with_reducible first|refine bF.mS ?_ (fun _=>?_)|apply bF.bI|refine bF.ite (fun _=>?_) (fun _=>?_)|apply bF.ret|apply sE.l|apply sE.r)))
 (all_goals (try (first|trivial|(intro h;cases h;done)|(first|assumption|trivial|omega|(simp [cR,room,cK,cH] at *;first|done|omega|(split at * <;> omega))))))
theorem gX {K:Nat} {a0 a1 a2:Int}:eA (F97 K a0 a1 a2) (fun _=>True):=by
 refine eA.of ?_
 unfold F97
 (repeat' (first|(with_reducible first|apply bF.bO|apply bF.ret|apply sE.l|apply sE.r)))
 (all_goals (try (first|trivial|(intro h;cases h;done)|(first|assumption|trivial|omega|(simp [cR,room,cK,cH] at *;first|done|omega|(split at * <;> omega))))))
theorem nD {K:Nat} {a0:jC}:eA (F83 K a0) (fun _=>True):=by
 refine eA.of ?_
 unfold F83
 (repeat' (first|(with_reducible first|refine bF.mS ?_ (fun _=>?_)|apply bF.bO|apply bF.bI|refine bF.ite (fun _=>?_) (fun _=>?_)|apply bF.ret|apply sE.l|apply sE.r|refine bF.call gX (fun _ _=>?_)|refine bF.cF (fun _=>gX) (fun _ _=>?_)|refine bF.call kY (fun _ _=>?_))))
 (all_goals (try (first|trivial|(intro h;cases h;done)|(first|assumption|trivial|omega|(simp [cR,room,cK,cH] at *;first|done|omega|(split at * <;> omega))))))
theorem aBd {K:Nat} {a0:Bytes} {a1:Bool} (h:a0.length≤1000):eA (F59 K a0 a1) (fun v=>v.length≤a0.length+2):=by
 refine eA.of ?_
 unfold F59
 (repeat' (first|(with_reducible first|refine bF.ite (fun _=>?_) (fun _=>?_)|apply bF.cJ|apply bF.ret|apply sE.l|apply sE.r)|with_reducible refine bF.c5 (by (first|assumption|trivial|omega|(simp [cR,room,cK,cH] at *;first|done|omega|(split at * <;> omega)))) ?_))
 (all_goals (try (first|trivial|(intro h;cases h;done)|(first|assumption|trivial|omega|(simp [cR,room,cK,cH] at *;first|done|omega|(split at * <;> omega))))))
 all_goals simp
theorem lU {K:Nat} {a0:gY}:eA (F87 K a0) (fun _=>True):=by
 refine eA.of ?_
 unfold F87
 (repeat' (first|(with_reducible first|apply bF.bO|apply bF.ret|apply sE.l|apply sE.r)|(refine (And.intro (a:=IntKind.i64.wrap _=_) (wrap64 (by omega) (by omega)) ?_))))
 (all_goals (try (first|trivial|(intro h;cases h;done)|(first|assumption|trivial|omega|(simp [cR,room,cK,cH] at *;first|done|omega|(split at * <;> omega))))))
theorem gI {K:Nat} {a0:Bytes} (h:a0.length≤1000):eA (F54 K a0 [105,114]) (fun _=>True):=by
 refine ⟨Lib.trimS a0 [105,114],?_,trivial⟩
 unfold F54;rw[aO ⟨rfl,by omega⟩];rfl
theorem fQ {K:Nat} {a0:Bytes} (h:a0.length≤1000):eA (F30 K a0) (fun _=>True):=by
 refine eA.of ?_
 unfold F30
 (repeat' (first|(with_reducible first|apply bF.ret|apply sE.l|apply sE.r)|with_reducible refine bF.cF (fun _=>gI (by (first|assumption|trivial|omega|(simp [cR,room,cK,cH] at *;first|done|omega|(split at * <;> omega))))) (fun _ _=>?_)|with_reducible refine bF.call (gI (by (first|assumption|trivial|omega|(simp [cR,room,cK,cH] at *;first|done|omega|(split at * <;> omega))))) (fun _ _=>?_)))
 (all_goals (try (first|trivial|(intro h;cases h;done)|(first|assumption|trivial|omega|(simp [cR,room,cK,cH] at *;first|done|omega|(split at * <;> omega))))))
theorem j8 {K:Nat} {a0:Bytes} {a1:List Int} (hK:1000<K) (h:a0.length≤900) (h1:a1.length≤900):eA (F32 K a0 a1) (fun _=>True):=by
 refine eA.of ?_
 unfold F32
 (repeat' (first|(with_reducible first|refine bF.mS ?_ (fun _=>?_)|apply bF.bO|apply bF.bI|apply bF.dX|refine bF.ite (fun _=>?_) (fun _=>?_)|apply bF.cJ|apply bF.ret|apply sE.l|apply sE.r)|with_reducible refine bF.c5 (by (first|assumption|trivial|omega|(simp [cR,room,cK,cH] at *;first|done|omega|(split at * <;> omega)))) ?_|with_reducible refine bF.cF (fun _=>fQ (by (first|assumption|trivial|omega|(simp [cR,room,cK,cH] at *;first|done|omega|(split at * <;> omega))))) (fun _ _=>?_)|with_reducible refine bF.call (fQ (by (first|assumption|trivial|omega|(simp [cR,room,cK,cH] at *;first|done|omega|(split at * <;> omega))))) (fun _ _=>?_)|(refine (And.intro (a:=IntKind.i64.wrap _=_) (wrap64 (by omega) (by omega)) ?_))))
 ·(all_goals (try (first|trivial|(intro h;cases h;done)|(first|assumption|trivial|omega|(simp [cR,room,cK,cH] at *;first|done|omega|(split at * <;> omega))))))
 ·rename_i hq
  simp only[aP,bne_iff_ne,not_or,Decidable.not_not,aD] at hq
  refine bF.up a1.length (by omega) (fun i hi=>?_) ?_
  ·have h2:cR (i:Int) a0.length=true:=gC (by omega)
   (repeat' (first|(with_reducible first|refine bF.mS ?_ (fun _=>?_)|apply bF.bO|apply bF.bI|apply bF.dX|refine bF.ite (fun _=>?_) (fun _=>?_)|apply bF.cJ|apply bF.ret|apply sE.l|apply sE.r)|with_reducible refine bF.c5 (by (first|assumption|trivial|omega|(simp [cR,room,cK,cH] at *;first|done|omega|(split at * <;> omega)))) ?_|with_reducible refine bF.cF (fun _=>fQ (by (first|assumption|trivial|omega|(simp [cR,room,cK,cH] at *;first|done|omega|(split at * <;> omega))))) (fun _ _=>?_)|with_reducible refine bF.call (fQ (by (first|assumption|trivial|omega|(simp [cR,room,cK,cH] at *;first|done|omega|(split at * <;> omega))))) (fun _ _=>?_)|(refine (And.intro (a:=IntKind.i64.wrap _=_) (wrap64 (by omega) (by omega)) ?_))))
   (all_goals (try (first|trivial|(intro h;cases h;done)|(first|assumption|trivial|omega|(simp [cR,room,cK,cH] at *;first|done|omega|(split at * <;> omega))))))
  ·(repeat' (first|(with_reducible first|refine bF.mS ?_ (fun _=>?_)|apply bF.bO|apply bF.bI|apply bF.dX|refine bF.ite (fun _=>?_) (fun _=>?_)|apply bF.cJ|apply bF.ret|apply sE.l|apply sE.r)|with_reducible refine bF.c5 (by (first|assumption|trivial|omega|(simp [cR,room,cK,cH] at *;first|done|omega|(split at * <;> omega)))) ?_|with_reducible refine bF.cF (fun _=>fQ (by (first|assumption|trivial|omega|(simp [cR,room,cK,cH] at *;first|done|omega|(split at * <;> omega))))) (fun _ _=>?_)|with_reducible refine bF.call (fQ (by (first|assumption|trivial|omega|(simp [cR,room,cK,cH] at *;first|done|omega|(split at * <;> omega))))) (fun _ _=>?_)|(refine (And.intro (a:=IntKind.i64.wrap _=_) (wrap64 (by omega) (by omega)) ?_))))
   (all_goals (try (first|trivial|(intro h;cases h;done)|(first|assumption|trivial|omega|(simp [cR,room,cK,cH] at *;first|done|omega|(split at * <;> omega))))))
 ·(all_goals (try (first|trivial|(intro h;cases h;done)|(first|assumption|trivial|omega|(simp [cR,room,cK,cH] at *;first|done|omega|(split at * <;> omega))))))
def ixF {X:Type} [Inhabited X] (K:Nat) (g:X→Option (Bool ⊕ Bool)) (a0:List X):Option (Int ⊕ Int) :=
 (bL (bI ((iter K (fun (cL:Int)=>(bO (decide ((cL:Int)<(Int.ofNat a0.length))) (fun (fY:Bool)=>(if fY=true then (bL (bI (c5 [cR cL a0.length] ((cT (g (a0.getD (cL:Int).toNat default))).bind (fun gO=>(if gO=true then (some (.inl (Sum.inr (Sum.inr (cL))))) else (some (.inr ()))))))) (fun (kB:Unit)=>(some (.inr ((IntKind.i64.wrap (cL+1))))))) else (some (.inl (Sum.inl ()))))))) (0)).map .inl)) (fun (kC:Unit)=>(some (.inl ((-1))))))
def cfF {X:Type} [Inhabited X] (K:Nat) (g:X→Option (Bool ⊕ Bool)) (a0:List X):Option (Bool ⊕ Bool) :=
 ((cT (ixF K g a0)).bind (fun r1=>(some (.inl ((decide ((r1:Int) ≥ 0)))))))
theorem aEZ {X:Type} [Inhabited X] {K:Nat} {g:X→Option (Bool ⊕ Bool)} {l:List X} {P:X→Bool→Prop} (hK:1000<K) (hl:l.length≤900) (h:∀ x∈l,eA (g x) (P x)):eA (ixF K g l) (fun v=>(v = -1∧∀ x∈l,P x false)∨(0≤v∧∃ x∈l,P x true)):=by
 refine eA.of ?_
 unfold ixF
 (repeat' (first|(with_reducible first|apply bF.bO|apply bF.bL|apply bF.bI|apply bF.dX|refine bF.ite (fun _=>?_) (fun _=>?_)|apply bF.cJ|apply bF.ret|apply sE.l|apply sE.r|apply bF.jE)|with_reducible refine bF.c5 (by (first|assumption|trivial|omega|(simp [cR,room,cK,cH] at *;first|done|omega|(split at * <;> omega)))) ?_|with_reducible refine bF.call (j8 (by omega) (by (first|assumption|trivial|omega|(simp [cR,room,cK,cH] at *;first|done|omega|(split at * <;> omega)))) (by (first|assumption|trivial|omega|(simp [cR,room,cK,cH] at *;first|done|omega|(split at * <;> omega))))) (fun _ _=>?_)|with_reducible refine bF.cF (fun _=>fQ (by (first|assumption|trivial|omega|(simp [cR,room,cK,cH] at *;first|done|omega|(split at * <;> omega))))) (fun _ _=>?_)|with_reducible refine bF.call (fQ (by (first|assumption|trivial|omega|(simp [cR,room,cK,cH] at *;first|done|omega|(split at * <;> omega))))) (fun _ _=>?_)|with_reducible refine bF.cF (fun _=>gI (by (first|assumption|trivial|omega|(simp [cR,room,cK,cH] at *;first|done|omega|(split at * <;> omega))))) (fun _ _=>?_)|with_reducible refine bF.call (gI (by (first|assumption|trivial|omega|(simp [cR,room,cK,cH] at *;first|done|omega|(split at * <;> omega))))) (fun _ _=>?_)|(with_reducible first|refine bF.cF (fun _=>lU) (fun _ _=>?_)|refine bF.call nD (fun _ _=>?_)|refine bF.call gX (fun _ _=>?_)|refine bF.cF (fun _=>gX) (fun _ _=>?_)|refine bF.call kY (fun _ _=>?_)|refine bF.cF (fun _=>eN (by omega) (by omega)) (fun _ _=>?_)|refine bF.call (eN (by omega) (by omega)) (fun _ _=>?_))|(refine (And.intro (a:=IntKind.i64.wrap _=_) (wrap64 (by omega) (by omega)) ?_))))
 refine bF.upP l.length (fun i=>P (l.getD i default) false) (by omega) (fun i hi=>?_) (fun hp=>?_)
 ·have hm:l.getD i default∈l:=by rw[List.getD,aE hi];exact List.getElem_mem hi
  (repeat' (first|(with_reducible first|apply bF.bO|apply bF.bL|apply bF.bI|apply bF.dX|refine bF.ite (fun _=>?_) (fun _=>?_)|apply bF.cJ|apply bF.ret|apply sE.l|apply sE.r|apply bF.jE)|with_reducible refine bF.c5 (by (first|assumption|trivial|omega|(simp [cR,room,cK,cH] at *;first|done|omega|(split at * <;> omega)))) ?_|with_reducible refine bF.call (j8 (by omega) (by (first|assumption|trivial|omega|(simp [cR,room,cK,cH] at *;first|done|omega|(split at * <;> omega)))) (by (first|assumption|trivial|omega|(simp [cR,room,cK,cH] at *;first|done|omega|(split at * <;> omega))))) (fun _ _=>?_)|with_reducible refine bF.cF (fun _=>fQ (by (first|assumption|trivial|omega|(simp [cR,room,cK,cH] at *;first|done|omega|(split at * <;> omega))))) (fun _ _=>?_)|with_reducible refine bF.call (fQ (by (first|assumption|trivial|omega|(simp [cR,room,cK,cH] at *;first|done|omega|(split at * <;> omega))))) (fun _ _=>?_)|with_reducible refine bF.cF (fun _=>gI (by (first|assumption|trivial|omega|(simp [cR,room,cK,cH] at *;first|done|omega|(split at * <;> omega))))) (fun _ _=>?_)|with_reducible refine bF.call (gI (by (first|assumption|trivial|omega|(simp [cR,room,cK,cH] at *;first|done|omega|(split at * <;> omega))))) (fun _ _=>?_)|(with_reducible first|refine bF.cF (fun _=>lU) (fun _ _=>?_)|refine bF.call nD (fun _ _=>?_)|refine bF.call gX (fun _ _=>?_)|refine bF.cF (fun _=>gX) (fun _ _=>?_)|refine bF.call kY (fun _ _=>?_)|refine bF.cF (fun _=>eN (by omega) (by omega)) (fun _ _=>?_)|refine bF.call (eN (by omega) (by omega)) (fun _ _=>?_))|(refine (And.intro (a:=IntKind.i64.wrap _=_) (wrap64 (by omega) (by omega)) ?_))))
  ·simp only[aM]
   refine bF.call (h _ hm) (fun v hv=>?_)
   cases v
   ·rw[aH (by simp)]
    (repeat' (first|(with_reducible first|apply bF.bO|apply bF.bL|apply bF.bI|apply bF.dX|refine bF.ite (fun _=>?_) (fun _=>?_)|apply bF.cJ|apply bF.ret|apply sE.l|apply sE.r|apply bF.jE)|with_reducible refine bF.c5 (by (first|assumption|trivial|omega|(simp [cR,room,cK,cH] at *;first|done|omega|(split at * <;> omega)))) ?_|with_reducible refine bF.call (j8 (by omega) (by (first|assumption|trivial|omega|(simp [cR,room,cK,cH] at *;first|done|omega|(split at * <;> omega)))) (by (first|assumption|trivial|omega|(simp [cR,room,cK,cH] at *;first|done|omega|(split at * <;> omega))))) (fun _ _=>?_)|with_reducible refine bF.cF (fun _=>fQ (by (first|assumption|trivial|omega|(simp [cR,room,cK,cH] at *;first|done|omega|(split at * <;> omega))))) (fun _ _=>?_)|with_reducible refine bF.call (fQ (by (first|assumption|trivial|omega|(simp [cR,room,cK,cH] at *;first|done|omega|(split at * <;> omega))))) (fun _ _=>?_)|with_reducible refine bF.cF (fun _=>gI (by (first|assumption|trivial|omega|(simp [cR,room,cK,cH] at *;first|done|omega|(split at * <;> omega))))) (fun _ _=>?_)|with_reducible refine bF.call (gI (by (first|assumption|trivial|omega|(simp [cR,room,cK,cH] at *;first|done|omega|(split at * <;> omega))))) (fun _ _=>?_)|(with_reducible first|refine bF.cF (fun _=>lU) (fun _ _=>?_)|refine bF.call nD (fun _ _=>?_)|refine bF.call gX (fun _ _=>?_)|refine bF.cF (fun _=>gX) (fun _ _=>?_)|refine bF.call kY (fun _ _=>?_)|refine bF.cF (fun _=>eN (by omega) (by omega)) (fun _ _=>?_)|refine bF.call (eN (by omega) (by omega)) (fun _ _=>?_))|(refine (And.intro (a:=IntKind.i64.wrap _=_) (wrap64 (by omega) (by omega)) ?_))))
    exact hv
   ·rw[aO rfl]
    (repeat' (first|(with_reducible first|apply bF.bO|apply bF.bL|apply bF.bI|apply bF.dX|refine bF.ite (fun _=>?_) (fun _=>?_)|apply bF.cJ|apply bF.ret|apply sE.l|apply sE.r|apply bF.jE)|with_reducible refine bF.c5 (by (first|assumption|trivial|omega|(simp [cR,room,cK,cH] at *;first|done|omega|(split at * <;> omega)))) ?_|with_reducible refine bF.call (j8 (by omega) (by (first|assumption|trivial|omega|(simp [cR,room,cK,cH] at *;first|done|omega|(split at * <;> omega)))) (by (first|assumption|trivial|omega|(simp [cR,room,cK,cH] at *;first|done|omega|(split at * <;> omega))))) (fun _ _=>?_)|with_reducible refine bF.cF (fun _=>fQ (by (first|assumption|trivial|omega|(simp [cR,room,cK,cH] at *;first|done|omega|(split at * <;> omega))))) (fun _ _=>?_)|with_reducible refine bF.call (fQ (by (first|assumption|trivial|omega|(simp [cR,room,cK,cH] at *;first|done|omega|(split at * <;> omega))))) (fun _ _=>?_)|with_reducible refine bF.cF (fun _=>gI (by (first|assumption|trivial|omega|(simp [cR,room,cK,cH] at *;first|done|omega|(split at * <;> omega))))) (fun _ _=>?_)|with_reducible refine bF.call (gI (by (first|assumption|trivial|omega|(simp [cR,room,cK,cH] at *;first|done|omega|(split at * <;> omega))))) (fun _ _=>?_)|(with_reducible first|refine bF.cF (fun _=>lU) (fun _ _=>?_)|refine bF.call nD (fun _ _=>?_)|refine bF.call gX (fun _ _=>?_)|refine bF.cF (fun _=>gX) (fun _ _=>?_)|refine bF.call kY (fun _ _=>?_)|refine bF.cF (fun _=>eN (by omega) (by omega)) (fun _ _=>?_)|refine bF.call (eN (by omega) (by omega)) (fun _ _=>?_))|(refine (And.intro (a:=IntKind.i64.wrap _=_) (wrap64 (by omega) (by omega)) ?_))))
    exact Or.inr ⟨by omega,_,hm,hv⟩
  ·(all_goals (try (first|trivial|(intro h;cases h;done)|(first|assumption|trivial|omega|(simp [cR,room,cK,cH] at *;first|done|omega|(split at * <;> omega))))))
 ·(repeat' (first|(with_reducible first|apply bF.bO|apply bF.bL|apply bF.bI|apply bF.dX|refine bF.ite (fun _=>?_) (fun _=>?_)|apply bF.cJ|apply bF.ret|apply sE.l|apply sE.r|apply bF.jE)|with_reducible refine bF.c5 (by (first|assumption|trivial|omega|(simp [cR,room,cK,cH] at *;first|done|omega|(split at * <;> omega)))) ?_|with_reducible refine bF.call (j8 (by omega) (by (first|assumption|trivial|omega|(simp [cR,room,cK,cH] at *;first|done|omega|(split at * <;> omega)))) (by (first|assumption|trivial|omega|(simp [cR,room,cK,cH] at *;first|done|omega|(split at * <;> omega))))) (fun _ _=>?_)|with_reducible refine bF.cF (fun _=>fQ (by (first|assumption|trivial|omega|(simp [cR,room,cK,cH] at *;first|done|omega|(split at * <;> omega))))) (fun _ _=>?_)|with_reducible refine bF.call (fQ (by (first|assumption|trivial|omega|(simp [cR,room,cK,cH] at *;first|done|omega|(split at * <;> omega))))) (fun _ _=>?_)|with_reducible refine bF.cF (fun _=>gI (by (first|assumption|trivial|omega|(simp [cR,room,cK,cH] at *;first|done|omega|(split at * <;> omega))))) (fun _ _=>?_)|with_reducible refine bF.call (gI (by (first|assumption|trivial|omega|(simp [cR,room,cK,cH] at *;first|done|omega|(split at * <;> omega))))) (fun _ _=>?_)|(with_reducible first|refine bF.cF (fun _=>lU) (fun _ _=>?_)|refine bF.call nD (fun _ _=>?_)|refine bF.call gX (fun _ _=>?_)|refine bF.cF (fun _=>gX) (fun _ _=>?_)|refine bF.call kY (fun _ _=>?_)|refine bF.cF (fun _=>eN (by omega) (by omega)) (fun _ _=>?_)|refine bF.call (eN (by omega) (by omega)) (fun _ _=>?_))|(refine (And.intro (a:=IntKind.i64.wrap _=_) (wrap64 (by omega) (by omega)) ?_))))
  (all_goals (try (first|trivial|(intro h;cases h;done)|(first|assumption|trivial|omega|(simp [cR,room,cK,cH] at *;first|done|omega|(split at * <;> omega))))))
  exact Or.inl ⟨rfl,jT (P:=fun x=>P x false) hp⟩
theorem wH {X:Type} [Inhabited X] {K:Nat} {g:X→Option (Bool ⊕ Bool)} {l:List X} {P:X→Bool→Prop} (hK:1000<K) (hl:l.length≤900) (h:∀ x∈l,eA (g x) (P x)):eA (cfF K g l) (fun v=>(v=false∧∀ x∈l,P x false)∨(v=true∧∃ x∈l,P x true)):=by
 refine eA.of ?_
 unfold cfF
 refine bF.call (aEZ hK hl h) (fun v hv=>?_)
 (repeat' (first|(with_reducible first|apply bF.bO|apply bF.bL|apply bF.bI|apply bF.dX|refine bF.ite (fun _=>?_) (fun _=>?_)|apply bF.cJ|apply bF.ret|apply sE.l|apply sE.r|apply bF.jE)|with_reducible refine bF.c5 (by (first|assumption|trivial|omega|(simp [cR,room,cK,cH] at *;first|done|omega|(split at * <;> omega)))) ?_|with_reducible refine bF.call (j8 (by omega) (by (first|assumption|trivial|omega|(simp [cR,room,cK,cH] at *;first|done|omega|(split at * <;> omega)))) (by (first|assumption|trivial|omega|(simp [cR,room,cK,cH] at *;first|done|omega|(split at * <;> omega))))) (fun _ _=>?_)|with_reducible refine bF.cF (fun _=>fQ (by (first|assumption|trivial|omega|(simp [cR,room,cK,cH] at *;first|done|omega|(split at * <;> omega))))) (fun _ _=>?_)|with_reducible refine bF.call (fQ (by (first|assumption|trivial|omega|(simp [cR,room,cK,cH] at *;first|done|omega|(split at * <;> omega))))) (fun _ _=>?_)|with_reducible refine bF.cF (fun _=>gI (by (first|assumption|trivial|omega|(simp [cR,room,cK,cH] at *;first|done|omega|(split at * <;> omega))))) (fun _ _=>?_)|with_reducible refine bF.call (gI (by (first|assumption|trivial|omega|(simp [cR,room,cK,cH] at *;first|done|omega|(split at * <;> omega))))) (fun _ _=>?_)|(with_reducible first|refine bF.cF (fun _=>lU) (fun _ _=>?_)|refine bF.call nD (fun _ _=>?_)|refine bF.call gX (fun _ _=>?_)|refine bF.cF (fun _=>gX) (fun _ _=>?_)|refine bF.call kY (fun _ _=>?_)|refine bF.cF (fun _=>eN (by omega) (by omega)) (fun _ _=>?_)|refine bF.call (eN (by omega) (by omega)) (fun _ _=>?_))|(refine (And.intro (a:=IntKind.i64.wrap _=_) (wrap64 (by omega) (by omega)) ?_))))
 rcases hv with ⟨h1,h2⟩|⟨h1,h2⟩
 ·exact Or.inl ⟨by rw[h1];rfl,h2⟩
 ·exact Or.inr ⟨by simpa using h1,h2⟩
theorem iZ {X:Type} [Inhabited X] {K:Nat} {g:X→Option (Bool ⊕ Bool)} {l:List X} (hK:1000<K) (hl:l.length≤900) (h:∀ x∈l,eA (g x) (fun _=>True)):eA (cfF K g l) (fun _=>True) :=
 (wH hK hl h).tI fun _ _=>trivial
theorem aE0 {K:Nat} {a0:gY}:eA (F23 K a0) (fun _=>True):=by
 refine eA.of ?_
 unfold F23
 (repeat' (first|(with_reducible first|apply bF.bO|apply bF.ret|apply sE.l|apply sE.r)))
 (all_goals (try (first|trivial|(intro h;cases h;done)|(first|assumption|trivial|omega|(simp [cR,room,cK,cH] at *;first|done|omega|(split at * <;> omega))))))
theorem aE1 {K:Nat} {a0:List Bytes}:eA (F24 K a0) (fun _=>True):=by
 refine eA.of ?_
 unfold F24
 (repeat' (first|(with_reducible first|apply bF.bO|apply bF.ret|apply sE.l|apply sE.r)))
 (all_goals (try (first|trivial|(intro h;cases h;done)|(first|assumption|trivial|omega|(simp [cR,room,cK,cH] at *;first|done|omega|(split at * <;> omega))))))
theorem aE2 {K:Nat} {a0:pK}:eA (F25 K a0) (fun _=>True):=by
 refine eA.of ?_
 unfold F25
 (repeat' (first|(with_reducible first|apply bF.bO|apply bF.ret|apply sE.l|apply sE.r)))
 (all_goals (try (first|trivial|(intro h;cases h;done)|(first|assumption|trivial|omega|(simp [cR,room,cK,cH] at *;first|done|omega|(split at * <;> omega))))))
theorem aE3 {K:Nat} {a0:gY} (h:SmC a0):eA (F29 K a0) (fun _=>True):=by
 obtain ⟨h1,h2,h3⟩:=h
 refine eA.of ?_
 unfold F29
 (repeat' (first|(with_reducible first|apply bF.bO|apply bF.ret|apply sE.l|apply sE.r)|with_reducible refine bF.cF (fun _=>fQ (by (first|assumption|trivial|omega|(simp [cR,room,cK,cH] at *;first|done|omega|(split at * <;> omega))))) (fun _ _=>?_)|with_reducible refine bF.call (fQ (by (first|assumption|trivial|omega|(simp [cR,room,cK,cH] at *;first|done|omega|(split at * <;> omega))))) (fun _ _=>?_)))
 (all_goals (try (first|trivial|(intro h;cases h;done)|(first|assumption|trivial|omega|(simp [cR,room,cK,cH] at *;first|done|omega|(split at * <;> omega))))))
theorem aE4 {K:Nat} {a0:pK} {m:Nat} (hK:1000<K) (h:SmD a0 m):eA (F31 K a0) (fun _=>True):=by
 have h1:=h.f
 have h2:=h.i
 refine eA.of ?_
 unfold F31
 (repeat' (first|(with_reducible first|apply bF.ret|apply sE.l|apply sE.r)|with_reducible refine bF.call (j8 (by omega) (by (first|assumption|trivial|omega|(simp [cR,room,cK,cH] at *;first|done|omega|(split at * <;> omega)))) (by (first|assumption|trivial|omega|(simp [cR,room,cK,cH] at *;first|done|omega|(split at * <;> omega))))) (fun _ _=>?_)))
 (all_goals (try (first|trivial|(intro h;cases h;done)|(first|assumption|trivial|omega|(simp [cR,room,cK,cH] at *;first|done|omega|(split at * <;> omega))))))
theorem aAi {K:Nat} {l:List gY} (hK:1000<K) (hl:l.length≤900):eA (oG K l) (fun _=>True):=iZ (g:=F23 K) hK hl fun _ _=>aE0
theorem aAj {K:Nat} {l:List (List Bytes)} (hK:1000<K) (hl:l.length≤900):eA (wI K l) (fun _=>True):=iZ (g:=F24 K) hK hl fun _ _=>aE1
theorem aAk {K:Nat} {l:List pK} (hK:1000<K) (hl:l.length≤900):eA (wJ K l) (fun _=>True):=iZ (g:=F25 K) hK hl fun _ _=>aE2
theorem aAl {K:Nat} {l:List gY} (hK:1000<K) (hl:l.length≤900) (h:∀ x∈l,SmC x):eA (oH K l) (fun _=>True):=iZ (g:=F29 K) hK hl fun x hx=>aE3 (h x hx)
theorem aAm {K:Nat} {l:List pK} {m:Nat} (hK:1000<K) (hl:l.length≤900) (h:∀ x∈l,SmD x m):eA (wK K l) (fun _=>True):=iZ (g:=F31 K) hK hl fun x hx=>aE4 hK (h x hx)
theorem aE5 {K:Nat} {a0:eW} {m:Nat} (hK:1000<K) (h:Sm a0 m):eA (F15 K a0) (fun _=>True):=by
 have h1:=h.tJ
 have h2:=h.aGw
 have h3:=h.kX
 refine eA.of ?_
 unfold F15
 (repeat' (first|(with_reducible first|apply bF.bO|refine bF.ite (fun _=>?_) (fun _=>?_)|apply bF.ret|apply sE.l|apply sE.r)))
 ·(all_goals (try (first|trivial|(intro h;cases h;done)|(first|assumption|trivial|omega|(simp [cR,room,cK,cH] at *;first|done|omega|(split at * <;> omega))))))
 ·refine bF.call (aAi hK (by omega)) (fun _ _=>?_)
  refine bF.cF (fun _=>aAj hK (by omega)) (fun _ _=>?_)
  refine bF.cF (fun _=>aAk hK (by omega)) (fun _ _=>?_)
  (repeat' (first|(with_reducible first|apply bF.bO|refine bF.ite (fun _=>?_) (fun _=>?_)|apply bF.ret|apply sE.l|apply sE.r)))
  (all_goals (try (first|trivial|(intro h;cases h;done)|(first|assumption|trivial|omega|(simp [cR,room,cK,cH] at *;first|done|omega|(split at * <;> omega))))))
theorem aE6 {K:Nat} {a0:eW} {m:Nat} (hK:1000<K) (hm:m≤1) (h:Sm a0 m):eA (F16 K a0) (fun _=>True):=by
 have h1:=h.tJ
 have h2:=h.globals
 have h3:=h.kX
 have h4:=h.init
 refine eA.of ?_
 unfold F16
 refine bF.call (j8 hK (by omega) (by omega)) (fun _ _=>?_)
 refine bF.cF (fun _=>aAl hK (by omega) h.code) (fun _ _=>?_)
 refine bF.cF (fun _=>aAm hK (by omega) h.cls) (fun _ _=>?_)
 (repeat' (first|(with_reducible first|apply bF.ret|apply sE.l|apply sE.r)|with_reducible refine bF.call (j8 (by omega) (by (first|assumption|trivial|omega|(simp [cR,room,cK,cH] at *;first|done|omega|(split at * <;> omega)))) (by (first|assumption|trivial|omega|(simp [cR,room,cK,cH] at *;first|done|omega|(split at * <;> omega))))) (fun _ _=>?_)))
 (all_goals (try (first|trivial|(intro h;cases h;done)|(first|assumption|trivial|omega|(simp [cR,room,cK,cH] at *;first|done|omega|(split at * <;> omega))))))
end Go.Proofs.YtngjamedgphjiaaGreatDoor

namespace Go.Proofs.YtngjamedgphjiaaGreatDoor
open Go Go.Dl
set_option maxRecDepth 100000
set_option maxHeartbeats 1000000
theorem aE7 {K:Nat} {a0 a1:Bytes} (h:a0.length≤900):eA (F80 K a0 a1) (fun v=>v.1.length≤a0.length):=by
 refine ⟨Lib.cut a0 a1,?_,?_⟩
 ·unfold F80;rw[aO (by omega)];rfl
 ·show (Lib.cut a0 a1).1.length≤a0.length
  unfold Lib.cut
  split
  ·simp;omega
  ·simp
theorem aBe {K:Nat} {a0:Bytes} (h:a0.length≤900):eA (F56 K a0) (fun v=>v.1.length≤a0.length):=by
 refine eA.of ?_
 unfold F56
 refine bF.call (aE7 h) (fun v hv=>?_)
 (repeat' (first|(with_reducible first|apply bF.bO|refine bF.ite (fun _=>?_) (fun _=>?_)|apply bF.ret|apply sE.l|apply sE.r)|with_reducible refine bF.cF (fun _=>gI (by (first|assumption|omega|(simp [cR,room,cH] at *;try omega)))) (fun _ _=>?_)|with_reducible refine bF.call (gI (by (first|assumption|omega|(simp [cR,room,cH] at *;try omega)))) (fun _ _=>?_)))
 (all_goals (try (first|trivial|(intro h;cases h;done)|(first|assumption|omega|(simp [cR,room,cH] at *;try omega)))))
 all_goals simp
theorem aE8 {K:Nat} {a0:Bytes} (h:a0.length≤900):eA (F34 K a0) (fun _=>True):=by
 refine eA.of ?_
 unfold F34
 (repeat' (first|(with_reducible first|apply bF.ret|apply sE.l|apply sE.r)|with_reducible refine bF.call (aBe (by (first|assumption|omega|(simp [cR,room,cH] at *;try omega)))) (fun _ _=>?_)))
 (all_goals (try (first|trivial|(intro h;cases h;done)|(first|assumption|omega|(simp [cR,room,cH] at *;try omega)))))
theorem tK {K:Nat} {l:List Bytes} {n:Nat} (hK:1000<K) (h:SmT l n) (hn:n≤900):eA (tL K l) (fun _=>True):=iZ (g:=F34 K) hK (by have:=h.n;omega) fun x hx=>aE8 (by have:=h.t x hx;omega)
theorem aE9 {K:Nat} {l:List Bytes} {n:Nat} (hK:1000<K) (h:SmT l n) (hn:n≤900):eA (F37 K l) (fun _=>True):=by
 refine eA.of ?_
 unfold F37
 refine bF.call (tK hK h hn) (fun v hv=>?_)
 (repeat' (first|(with_reducible first|apply bF.ret|apply sE.l|apply sE.r)))
 (all_goals (try (first|trivial|(intro h;cases h;done)|(first|assumption|omega|(simp [cR,room,cH] at *;try omega)))))
theorem aAn {K:Nat} {l:List (List Bytes)} {n:Nat} (hK:1000<K) (hl:l.length≤900) (h:∀ x∈l,SmT x n) (hn:n≤900):eA (wL K l) (fun _=>True):=iZ (g:=F37 K) hK hl fun x hx=>aE9 hK (h x hx) hn
theorem aFa {K:Nat} {a0 a1:List Bytes} (hK:1000<K) (h:a0.length≤900):eA (F36 K a0 a1) (fun _=>True):=by
 refine eA.of ?_
 unfold F36
 (repeat' (first|(with_reducible first|apply bF.bO|apply bF.bL|apply bF.bI|apply bF.dX|refine bF.ite (fun _=>?_) (fun _=>?_)|apply bF.cJ|apply bF.ret|apply sE.l|apply sE.r)|with_reducible refine bF.c5 (by (first|assumption|omega|(simp [cR,room,cH] at *;try omega))) ?_|(refine (And.intro (a:=IntKind.i64.wrap _=_) (wrap64 (by omega) (by omega)) ?_))))
 ·(all_goals (try (first|trivial|(intro h;cases h;done)|(first|assumption|omega|(simp [cR,room,cH] at *;try omega)))))
 ·rename_i hq
  simp only[bne_iff_ne,Decidable.not_not,aD] at hq
  refine bF.up a0.length (by omega) (fun i hi=>?_) ?_
  ·have h2:cR (i:Int) a1.length=true:=gC (by omega)
   (repeat' (first|(with_reducible first|apply bF.bO|apply bF.bL|apply bF.bI|apply bF.dX|refine bF.ite (fun _=>?_) (fun _=>?_)|apply bF.cJ|apply bF.ret|apply sE.l|apply sE.r)|with_reducible refine bF.c5 (by (first|assumption|omega|(simp [cR,room,cH] at *;try omega))) ?_|(refine (And.intro (a:=IntKind.i64.wrap _=_) (wrap64 (by omega) (by omega)) ?_))))
   (all_goals (try (first|trivial|(intro h;cases h;done)|(first|assumption|omega|(simp [cR,room,cH] at *;try omega)))))
  ·(repeat' (first|(with_reducible first|apply bF.bO|apply bF.bL|apply bF.bI|apply bF.dX|refine bF.ite (fun _=>?_) (fun _=>?_)|apply bF.cJ|apply bF.ret|apply sE.l|apply sE.r)|with_reducible refine bF.c5 (by (first|assumption|omega|(simp [cR,room,cH] at *;try omega))) ?_|(refine (And.intro (a:=IntKind.i64.wrap _=_) (wrap64 (by omega) (by omega)) ?_))))
   (all_goals (try (first|trivial|(intro h;cases h;done)|(first|assumption|omega|(simp [cR,room,cH] at *;try omega)))))
theorem aFb {K:Nat} {a0 a1:Bytes}:eA (F35 K a0 a1) (fun _=>True):=⟨_,rfl,trivial⟩
def aBf (im:eW):Prop:=∀ i,i<im.bE.length→-1≤(im.bE.getD i default).eX∧(im.bE.getD i default).eX<i
theorem aFc {K:Nat} {a0:eW} {m:Nat} (hK:1000<K) (hm:m≤1) (h:Sm a0 m):eA (F17 K a0) (fun v=>v=true→aBf a0):=by
 have h1:=h.kX
 have h2:=h.aGw
 refine eA.of ?_
 unfold F17
 (repeat' (first|(with_reducible first|apply bF.bO|apply bF.bL|apply bF.bI|apply bF.dX|refine bF.ite (fun _=>?_) (fun _=>?_)|apply bF.cJ|apply bF.ret|apply sE.l|apply sE.r)|with_reducible refine bF.c5 (by (first|assumption|omega|(simp [cR,room,cH] at *;try omega))) ?_|(refine (And.intro (a:=IntKind.i64.wrap _=_) (wrap64 (by omega) (by omega)) ?_))))
 refine bF.upP a0.bE.length (fun i=>-1≤(a0.bE.getD i default).eX∧(a0.bE.getD i default).eX<i) (by omega) (fun i hi=>?_) (fun hp=>?_)
 ·have hd:=eV (d:=default) h.cls hi
  (refine bF.bO ?_;refine bF.dF (by simp only[aD,aC];omega) ?_;simp only[aM];(repeat' (first|(with_reducible first|apply bF.bO|apply bF.bL|apply bF.bI|apply bF.dX|refine bF.ite (fun _=>?_) (fun _=>?_)|apply bF.cJ|apply bF.ret|apply sE.l|apply sE.r)|with_reducible refine bF.c5 (by (first|assumption|omega|(simp [cR,room,cH] at *;try omega))) ?_|(refine (And.intro (a:=IntKind.i64.wrap _=_) (wrap64 (by omega) (by omega)) ?_)))))
  refine bF.cF (fun _=>tK hK hd.s (by omega)) (fun v hv=>?_)
  refine bF.ite (fun _=>?_) (fun hc=>?_)
  ·(repeat' (first|(with_reducible first|apply bF.bO|apply bF.bL|apply bF.bI|apply bF.dX|refine bF.ite (fun _=>?_) (fun _=>?_)|apply bF.cJ|apply bF.ret|apply sE.l|apply sE.r)|with_reducible refine bF.c5 (by (first|assumption|omega|(simp [cR,room,cH] at *;try omega))) ?_|(refine (And.intro (a:=IntKind.i64.wrap _=_) (wrap64 (by omega) (by omega)) ?_))))
   (all_goals (try (first|trivial|(intro h;cases h;done)|(first|assumption|omega|(simp [cR,room,cH] at *;try omega)))))
  ·simp only[Bool.or_eq_false_iff,decide_eq_false_iff_not,Bool.not_eq_true,bne_eq_false_iff_eq,aD] at hc
   obtain ⟨⟨⟨hc1,hc2⟩,hc3⟩,hc4⟩:=hc
   refine bF.bO ?_
   refine bF.ite (fun _=>?_) (fun hb=>?_)
   ·(repeat' (first|(with_reducible first|apply bF.bO|apply bF.bL|apply bF.bI|apply bF.dX|refine bF.ite (fun _=>?_) (fun _=>?_)|apply bF.cJ|apply bF.ret|apply sE.l|apply sE.r)|with_reducible refine bF.c5 (by (first|assumption|omega|(simp [cR,room,cH] at *;try omega))) ?_|(refine (And.intro (a:=IntKind.i64.wrap _=_) (wrap64 (by omega) (by omega)) ?_))))
    exact ⟨by omega,by omega⟩
   ·simp only[aC] at hb
    have w8:cR (a0.bE.getD i default).eX a0.bE.length=true:=by simp only[cR,aB,aC];omega
    have hd2:=eV (d:=default) h.cls (i:=(a0.bE.getD i default).eX.toNat) (by omega)
    refine bF.c5 w8 (bF.cJ (bF.bO (bF.bO ?_)))
    refine bF.cF (fun _=>aFb) (fun v2 _=>?_)
    refine bF.c5 ?_ (bF.cJ (bF.bO ?_))
    ·cases v2 <;> simp [cK]
     omega
    refine bF.cF (fun _=>aFa hK (by have:=hd2.s.n;omega)) (fun v3 _=>?_)
    (repeat' (first|(with_reducible first|apply bF.bO|apply bF.bL|apply bF.bI|apply bF.dX|refine bF.ite (fun _=>?_) (fun _=>?_)|apply bF.cJ|apply bF.ret|apply sE.l|apply sE.r)|with_reducible refine bF.c5 (by (first|assumption|omega|(simp [cR,room,cH] at *;try omega))) ?_|(refine (And.intro (a:=IntKind.i64.wrap _=_) (wrap64 (by omega) (by omega)) ?_))))
    ·(all_goals (try (first|trivial|(intro h;cases h;done)|(first|assumption|omega|(simp [cR,room,cH] at *;try omega)))))
    ·exact ⟨by omega,by omega⟩
 ·(refine bF.bO ?_;refine bF.dB (by simp) ?_;(repeat' (first|(with_reducible first|apply bF.bO|apply bF.bL|apply bF.bI|apply bF.dX|refine bF.ite (fun _=>?_) (fun _=>?_)|apply bF.cJ|apply bF.ret|apply sE.l|apply sE.r)|with_reducible refine bF.c5 (by (first|assumption|omega|(simp [cR,room,cH] at *;try omega))) ?_|(refine (And.intro (a:=IntKind.i64.wrap _=_) (wrap64 (by omega) (by omega)) ?_)))))
  refine bF.call (aAn hK (by omega) h.aJz (by omega)) (fun v hv=>?_)
  (repeat' (first|(with_reducible first|apply bF.bO|apply bF.bL|apply bF.bI|apply bF.dX|refine bF.ite (fun _=>?_) (fun _=>?_)|apply bF.cJ|apply bF.ret|apply sE.l|apply sE.r)|with_reducible refine bF.c5 (by (first|assumption|omega|(simp [cR,room,cH] at *;try omega))) ?_|(refine (And.intro (a:=IntKind.i64.wrap _=_) (wrap64 (by omega) (by omega)) ?_))))
  exact fun _=>hp
theorem aFd {K:Nat} {a0:eW} {a1 a2:Int} (hK:1000<K) (h:aBf a0) (hl:a0.bE.length≤900) (h1:a1<a0.bE.length):eA (F58 K a0 a1 a2) (fun _=>True):=by
 refine eA.of ?_
 unfold F58
 refine bF.bL (bF.bI (bF.dX ?_))
 refine bF.loop (fun t=>t<a0.bE.length) (fun t=>(t+1).toNat) h1 (by omega) (fun t ht=>?_)
 refine bF.bO (bF.ite (fun hc=>?_) (fun _=>?_))
 ·simp only[aB,aC] at hc
  obtain ⟨n,rfl⟩:∃ n:Nat,t=n:=⟨t.toNat,by omega⟩
  have h2:=h n (by omega)
  (repeat' (first|(with_reducible first|apply bF.bO|apply bF.bL|apply bF.bI|apply bF.dX|refine bF.ite (fun _=>?_) (fun _=>?_)|apply bF.cJ|apply bF.ret|apply sE.l|apply sE.r)|with_reducible refine bF.c5 (by (first|assumption|omega|(simp [cR,room,cH] at *;try omega))) ?_))
  simp only[aM]
  omega
 ·(repeat' (first|(with_reducible first|apply bF.bO|apply bF.bL|apply bF.bI|apply bF.dX|refine bF.ite (fun _=>?_) (fun _=>?_)|apply bF.cJ|apply bF.ret|apply sE.l|apply sE.r)|with_reducible refine bF.c5 (by (first|assumption|omega|(simp [cR,room,cH] at *;try omega))) ?_))
  (all_goals (try (first|trivial|(intro h;cases h;done)|(first|assumption|omega|(simp [cR,room,cH] at *;try omega)))))
theorem aBg {K:Nat} {a0:eW} {a1:Int} {a2:List Int} {a3:List Bytes} {m:Nat} (hK:1000<K) (h:aBf a0) (hs:Sm a0 m) (h1:a1<a0.bE.length) (h2:a2.length≤900):eA (F38 K a0 a1 a2 a3) (fun _=>True):=by
 have hl:=hs.kX
 refine eA.of ?_
 unfold F38
 refine bF.bO (bF.ite (fun _=>?_) (fun hq=>?_))
 ·(repeat' (first|(with_reducible first|apply bF.bO|apply bF.bL|apply bF.bI|apply bF.dX|refine bF.ite (fun _=>?_) (fun _=>?_)|apply bF.cJ|apply bF.ret|apply sE.l|apply sE.r)|with_reducible refine bF.c5 (by (first|assumption|omega|(simp [cR,room,cH] at *;try omega))) ?_|(refine (And.intro (a:=IntKind.i64.wrap _=_) (wrap64 (by omega) (by omega)) ?_))))
  (all_goals (try (first|trivial|(intro h;cases h;done)|(first|assumption|omega|(simp [cR,room,cH] at *;try omega)))))
 ·simp only[bne_iff_ne,Decidable.not_not,aD,ne_eq] at hq
  refine bF.bL (bF.bI (bF.dX ?_))
  refine bF.up a2.length (by omega) (fun i hi=>?_) ?_
  ·have h3:cR (i:Int) a3.length=true:=gC (by omega)
   have h4:cR (i:Int) a2.length=true:=gC hi
   refine bF.bO (bF.dF (by simp only[aD,aC];omega) ?_)
   simp only[aM]
   refine bF.bL (bF.bI (bF.c5 h4 (bF.cJ (bF.bO (bF.ite (fun _=>?_) (fun hq1=>?_))))))
   ·(repeat' (first|(with_reducible first|apply bF.bO|apply bF.bL|apply bF.bI|apply bF.dX|refine bF.ite (fun _=>?_) (fun _=>?_)|apply bF.cJ|apply bF.ret|apply sE.l|apply sE.r)|with_reducible refine bF.c5 (by (first|assumption|omega|(simp [cR,room,cH] at *;try omega))) ?_|(refine (And.intro (a:=IntKind.i64.wrap _=_) (wrap64 (by omega) (by omega)) ?_))))
    (all_goals (try (first|trivial|(intro h;cases h;done)|(first|assumption|omega|(simp [cR,room,cH] at *;try omega)))))
   refine bF.bO (bF.ite (fun _=>?_) (fun hq2=>?_))
   ·(repeat' (first|(with_reducible first|apply bF.bO|apply bF.bL|apply bF.bI|apply bF.dX|refine bF.ite (fun _=>?_) (fun _=>?_)|apply bF.cJ|apply bF.ret|apply sE.l|apply sE.r)|with_reducible refine bF.c5 (by (first|assumption|omega|(simp [cR,room,cH] at *;try omega))) ?_|(refine (And.intro (a:=IntKind.i64.wrap _=_) (wrap64 (by omega) (by omega)) ?_))))
    (all_goals (try (first|trivial|(intro h;cases h;done)|(first|assumption|omega|(simp [cR,room,cH] at *;try omega)))))
   simp only[aP,aC,not_or,aD] at hq2
   have hc:=eV (d:=default) hs.code (i:=(a2.getD i default).toNat) (by omega)
   refine bF.c5 (by simp only[cR,aB,aC];omega) (bF.cJ (bF.bO ?_))
   refine bF.cF (fun hx=>aFd hK h (by omega) h1) (fun v hv=>?_)
   refine bF.c5 (by rw[h3,Bool.or_true]) (bF.cJ ?_)
   refine bF.cF (fun hx=>aBd (by have:=hc.p;omega)) (fun v2 _=>?_)
   (repeat' (first|(with_reducible first|apply bF.bO|apply bF.bL|apply bF.bI|apply bF.dX|refine bF.ite (fun _=>?_) (fun _=>?_)|apply bF.cJ|apply bF.ret|apply sE.l|apply sE.r)|with_reducible refine bF.c5 (by (first|assumption|omega|(simp [cR,room,cH] at *;try omega))) ?_|(refine (And.intro (a:=IntKind.i64.wrap _=_) (wrap64 (by omega) (by omega)) ?_))))
   (all_goals (try (first|trivial|(intro h;cases h;done)|(first|assumption|omega|(simp [cR,room,cH] at *;try omega)))))
  ·(refine bF.bO ?_;refine bF.dB (by simp) ?_;(repeat' (first|(with_reducible first|apply bF.bO|apply bF.bL|apply bF.bI|apply bF.dX|refine bF.ite (fun _=>?_) (fun _=>?_)|apply bF.cJ|apply bF.ret|apply sE.l|apply sE.r)|with_reducible refine bF.c5 (by (first|assumption|omega|(simp [cR,room,cH] at *;try omega))) ?_|(refine (And.intro (a:=IntKind.i64.wrap _=_) (wrap64 (by omega) (by omega)) ?_)))))
   (all_goals (try (first|trivial|(intro h;cases h;done)|(first|assumption|omega|(simp [cR,room,cH] at *;try omega)))))
end Go.Proofs.YtngjamedgphjiaaGreatDoor

namespace Go.Proofs.YtngjamedgphjiaaGreatDoor
open Go Go.Dl
set_option maxRecDepth 100000
set_option maxHeartbeats 1000000
theorem aFf {K:Nat} {a0:eW} {m:Nat} (hK:1000<K) (hm:m≤1) (h:aBf a0) (hs:Sm a0 m):eA (F18 K a0) (fun _=>True):=by
 have hl:=hs.kX
 refine eA.of ?_
 unfold F18
 refine bF.bL (bF.bI (bF.dX ?_))
 refine bF.up a0.bE.length (by omega) (fun i hi=>?_) ?_
 ·have hd:=eV (d:=default) hs.cls hi
  have h4:cR (i:Int) a0.bE.length=true:=gC hi
  refine bF.bO (bF.dF (by simp only[aD,aC];omega) ?_)
  simp only[aM]
  refine bF.bL (bF.bI (bF.c5 h4 (bF.cJ (bF.bO (bF.bO ?_)))))
  refine bF.call (aBg hK h hs (by omega) (by have:=hd.v;omega)) (fun v _=>?_)
  refine bF.ite (fun _=>?_) (fun _=>?_)
  ·(repeat' (first|(with_reducible first|apply bF.bO|apply bF.bL|apply bF.bI|apply bF.dX|refine bF.ite (fun _=>?_) (fun _=>?_)|apply bF.cJ|apply bF.ret|apply sE.l|apply sE.r)|with_reducible refine bF.c5 (by (first|assumption|omega|(simp [cR,room,cH] at *;try omega))) ?_|(refine (And.intro (a:=IntKind.i64.wrap _=_) (wrap64 (by omega) (by omega)) ?_))))
   (all_goals (try (first|trivial|(intro h;cases h;done))))
  ·refine bF.bO (bF.bO ?_)
   have ht:=hd.t
   have htl:=hd.l
   refine bF.bL (bF.bI (bF.dX ?_))
   generalize (a0.bE.getD i default).eO=ts at ht htl ⊢
   refine bF.loop (fun t:Int × Int=>-1≤t.1∧0≤t.2) (fun t=>ts.length - t.2.toNat) ⟨by simp,by simp⟩ (by simp;omega) (fun t hI=>?_)
   obtain ⟨t1,t2⟩:=t
   obtain ⟨hI1,hI2⟩:=hI
   simp only at hI1 hI2 ⊢
   refine bF.ite (fun hc=>?_) (fun _=>?_)
   ·simp only[aD,aC] at hc
    obtain ⟨j,rfl⟩:∃ n:Nat,t2=n:=⟨t2.toNat,by omega⟩
    have hj:j<ts.length:=by omega
    have h5:cR (j:Int) ts.length=true:=gC hj
    have h6:=eV (d:=default) htl hj
    simp only[aM]
    refine bF.bL (bF.bI (bF.c5 h5 (bF.cJ ?_)))
    refine bF.c5 ?_ (bF.cJ (bF.bO ?_))
    ·rw[aP]
     simp only[Bool.not_not,cR,aB,aP,aC,aD]
     omega
    refine bF.cF (fun hx=>aBg hK h hs (by omega) (by omega)) (fun v _=>?_)
    refine bF.ite (fun _=>?_) (fun hc2=>?_)
    ·(repeat' (first|(with_reducible first|apply bF.bO|apply bF.bL|apply bF.bI|apply bF.dX|refine bF.ite (fun _=>?_) (fun _=>?_)|apply bF.cJ|apply bF.ret|apply sE.l|apply sE.r)|with_reducible refine bF.c5 (by (first|assumption|omega|(simp [cR,room,cH] at *;try omega))) ?_|(refine (And.intro (a:=IntKind.i64.wrap _=_) (wrap64 (by omega) (by omega)) ?_))))
     (all_goals (try (first|trivial|(intro h;cases h;done))))
    ·simp only[aP,aC,not_or,aD] at hc2
     (repeat' (first|(with_reducible first|apply bF.bO|apply bF.bL|apply bF.bI|apply bF.dX|refine bF.ite (fun _=>?_) (fun _=>?_)|apply bF.cJ|apply bF.ret|apply sE.l|apply sE.r)|with_reducible refine bF.c5 (by (first|assumption|omega|(simp [cR,room,cH] at *;try omega))) ?_|(refine (And.intro (a:=IntKind.i64.wrap _=_) (wrap64 (by omega) (by omega)) ?_))))
     refine ⟨⟨by omega,?_⟩,?_⟩
     ·rw[wrap64 (by omega) (by omega)];omega
     ·rw[wrap64 (by omega) (by omega)];omega
   ·(repeat' (first|(with_reducible first|apply bF.bO|apply bF.bL|apply bF.bI|apply bF.dX|refine bF.ite (fun _=>?_) (fun _=>?_)|apply bF.cJ|apply bF.ret|apply sE.l|apply sE.r)|with_reducible refine bF.c5 (by (first|assumption|omega|(simp [cR,room,cH] at *;try omega))) ?_|(refine (And.intro (a:=IntKind.i64.wrap _=_) (wrap64 (by omega) (by omega)) ?_))))
    (all_goals (try (first|trivial|(intro h;cases h;done))))
 ·(refine bF.bO ?_;refine bF.dB (by simp) ?_;(repeat' (first|(with_reducible first|apply bF.bO|apply bF.bL|apply bF.bI|apply bF.dX|refine bF.ite (fun _=>?_) (fun _=>?_)|apply bF.cJ|apply bF.ret|apply sE.l|apply sE.r)|with_reducible refine bF.c5 (by (first|assumption|omega|(simp [cR,room,cH] at *;try omega))) ?_|(refine (And.intro (a:=IntKind.i64.wrap _=_) (wrap64 (by omega) (by omega)) ?_)))))
  (all_goals (try (first|trivial|(intro h;cases h;done))))
theorem aFg {K:Nat} {a0:List Int} {a1:Int} (hK:1000<K) (h:a0.length≤900):eA (F81 K a0 a1) (fun _=>True):=by
 refine eA.of ?_
 unfold F81
 refine bF.bL (bF.bI (bF.dX ?_))
 refine bF.up a0.length (by omega) (fun i hi=>?_) ?_
 ·(refine bF.bO ?_;refine bF.dF (by simp only[aD,aC];omega) ?_;simp only[aM];(repeat' (first|(with_reducible first|apply bF.bO|apply bF.bL|apply bF.bI|apply bF.dX|refine bF.ite (fun _=>?_) (fun _=>?_)|apply bF.cJ|apply bF.ret|apply sE.l|apply sE.r)|with_reducible refine bF.c5 (by (first|assumption|omega|(simp [cR,room,cH] at *;try omega))) ?_|(refine (And.intro (a:=IntKind.i64.wrap _=_) (wrap64 (by omega) (by omega)) ?_)))))
  (all_goals (try (first|trivial|(intro h;cases h;done))))
 ·(refine bF.bO ?_;refine bF.dB (by simp) ?_;(repeat' (first|(with_reducible first|apply bF.bO|apply bF.bL|apply bF.bI|apply bF.dX|refine bF.ite (fun _=>?_) (fun _=>?_)|apply bF.cJ|apply bF.ret|apply sE.l|apply sE.r)|with_reducible refine bF.c5 (by (first|assumption|omega|(simp [cR,room,cH] at *;try omega))) ?_|(refine (And.intro (a:=IntKind.i64.wrap _=_) (wrap64 (by omega) (by omega)) ?_)))))
  (all_goals (try (first|trivial|(intro h;cases h;done))))
theorem aBi {K:Nat} {a0:List Int} {a1:Int} (hK:1000<K) (h:a0.length≤900):eA (F60 K a0 a1) (fun _=>True):=by
 refine eA.of ?_
 unfold F60
 refine bF.call (aFg hK h) (fun v _=>?_)
 (repeat' (first|(with_reducible first|apply bF.ret|apply sE.l|apply sE.r)))
 (all_goals (try (first|trivial|(intro h;cases h;done))))
theorem aFh {K:Nat} {a0:yE} (hK:1000<K) (h:a0.hO.length≤900):eA (F62 K a0) (fun _=>True):=by
 refine eA.of ?_
 unfold F62
 refine bF.call (aBi hK h) (fun v _=>?_)
 (repeat' (first|(with_reducible first|apply bF.ret|apply sE.l|apply sE.r)))
 (all_goals (try (first|trivial|(intro h;cases h;done))))
theorem aAp {K:Nat} {l:List yE} (hK:1000<K) (hl:l.length≤900) (h:∀ t∈l,t.hO.length≤40):eA (wM K l) (fun _=>True):=iZ (g:=F62 K) hK hl fun x hx=>aFh hK (by have:=h x hx;omega)
theorem aFi {K:Nat} {a0:eW} {a1:Int} {m:Nat} (hK:1000<K) (hm:m≤1) (h:Sm a0 m):eA (F40 K a0 a1) (fun v=>(a1<0∨a1 ≥ a0.bE.length)→v=true):=by
 refine eA.of ?_
 unfold F40
 refine bF.bO (bF.ite (fun _=>?_) (fun hc=>?_))
 ·(repeat' (first|(with_reducible first|apply bF.bO|refine bF.ite (fun _=>?_) (fun _=>?_)|apply bF.cJ|apply bF.ret|apply sE.l|apply sE.r)|with_reducible refine bF.c5 (by (first|assumption|omega|(simp [cR,room,cH] at *;try omega))) ?_))
  (all_goals (try (first|trivial|(intro h;cases h;done))))
  all_goals simp
 ·simp only[aP,aC,not_or,aD] at hc
  have hd:=eV (d:=default) h.cls (i:=a1.toNat) (by omega)
  refine bF.c5 (by simp only[cR,aB,aC];omega) (bF.cJ (bF.bO ?_))
  refine bF.call (aBi hK (by have:=hd.v;omega)) (fun v _=>?_)
  refine bF.cF (fun _=>aAp hK (by have:=hd.t;omega) hd.l) (fun v _=>?_)
  (repeat' (first|(with_reducible first|apply bF.bO|refine bF.ite (fun _=>?_) (fun _=>?_)|apply bF.cJ|apply bF.ret|apply sE.l|apply sE.r)|with_reducible refine bF.c5 (by (first|assumption|omega|(simp [cR,room,cH] at *;try omega))) ?_))
  exact fun h=>by omega
theorem aFj {K:Nat} {a0:eW} {a1:Int} {m:Nat} (hK:1000<K) (hm:m≤1) (h:Sm a0 m):eA (F39 K a1 a0) (fun v=>(a1<0∨a1 ≥ a0.bE.length)→v=true):=by
 refine eA.of ?_
 unfold F39
 refine bF.call (aFi hK hm h) (fun v hv=>?_)
 (repeat' (first|(with_reducible first|apply bF.ret|apply sE.l|apply sE.r)))
 exact hv
theorem aFk {K:Nat} {a0:Int}:eA (F41 K a0) (fun _=>True):=by
 refine eA.of ?_
 unfold F41
 (repeat' (first|(with_reducible first|apply bF.bO|apply bF.ret|apply sE.l|apply sE.r)))
 (all_goals (try (first|trivial|(intro h;cases h;done))))
theorem aFl {K:Nat} {a0:nI} {a1:eW}:eA (F42 K a0 a1) (fun _=>True):=by
 refine eA.of ?_
 unfold F42
 refine bF.c5 ?_ (bF.cJ (bF.bO ?_))
 ·rw[aP]
  simp only[Bool.not_not,cR,aB,aP,aC,aD]
  omega
 (repeat' (first|(with_reducible first|apply bF.bO|apply bF.cJ|apply bF.ret|apply sE.l|apply sE.r)|with_reducible refine bF.c5 (by (first|assumption|omega|(simp [cR,room,cH] at *;try omega))) ?_))
 (all_goals (try (first|trivial|(intro h;cases h;done))))
theorem aAq {K:Nat} {l:List Int} {a0:eW} {m:Nat} (hK:1000<K) (hm:m≤1) (hl:l.length≤900) (h:Sm a0 m):eA (qH K l a0) (fun v=>(v=false∧∀ x∈l,¬ (x<0∨x ≥ a0.bE.length))∨v=true) :=
 (wH (g:=fun x=>F39 K x a0) hK hl fun x hx=>aFj hK hm h).tI fun v hv=>by
  rcases hv with ⟨h1,h2⟩|⟨h1,h2⟩
  ·exact Or.inl ⟨h1,fun x hx hq=>by cases h2 x hx hq⟩
  ·exact Or.inr h1
theorem aAr {K:Nat} {l:List Int} (hK:1000<K) (hl:l.length≤900):eA (wN K l) (fun _=>True):=iZ (g:=F41 K) hK hl fun _ _=>aFk
theorem tM {K:Nat} {l:List nI} {a0:eW} (hK:1000<K) (hl:l.length≤900):eA (oI K l a0) (fun _=>True):=iZ (g:=fun x=>F42 K x a0) hK hl fun _ _=>aFl
theorem aAs {K:Nat} {l:List nI} {a0:nI} (hK:1000<K) (hl:l.length≤900):eA (wO K l a0) (fun _=>True):=iZ (g:=fun x=>F45 K x a0) hK hl fun _ _=>⟨_,rfl,trivial⟩
theorem aAt {K:Nat} {l:List oN} {a0:oN} (hK:1000<K) (hl:l.length≤900):eA (wP K l a0) (fun v=>(v=false∧∀ x∈l,x.gE≠a0.gE)∨(v=true∧∃ x∈l,x.gE=a0.gE)) :=
 (wH (g:=fun x=>F47 K x a0) (P:=fun x v=>v=(x.gE == a0.gE)) hK hl fun _ _=>⟨_,rfl,rfl⟩).tI fun v hv=>by
  rcases hv with ⟨h1,h2⟩|⟨h1,x,h2,h3⟩
  ·exact Or.inl ⟨h1,fun x hx hq=>by have:=h2 x hx;simp [hq] at this⟩
  ·exact Or.inr ⟨h1,x,h2,by simpa using h3.symm⟩
def aGz (a0:eW) (j:oN):Prop:=0≤j.gE∧j.gE<a0.bB.length∧(a0.bB.getD j.gE.toNat default).cC = -1∧1≤j.oJ∧j.oJ≤100∧0≤j.oK∧j.oK≤9
theorem aFm {K:Nat} {a0:eW} {m:Nat} (hK:1000<K) (hm:m≤1) (h:Sm a0 m):eA (F19 K a0) (fun v=>v=true→(∀ x∈a0.bX,¬ (x<0∨x ≥ a0.bE.length))∧(∀ j∈a0.bU,aGz a0 j)):=by
 have h1:=h.aJy
 have h2:=h.blocks
 have h3:=h.ins
 have h4:=h.outs
 have h5:=h.aHo
 refine eA.of ?_
 unfold F19
 refine bF.call (aAq hK hm (by omega) h) (fun v1 tS=>?_)
 refine bF.cF (fun _=>aAr hK (by omega)) (fun v2 _=>?_)
 refine bF.cF (fun _=>tM hK (by omega)) (fun v3 _=>?_)
 refine bF.cF (fun _=>tM hK (by omega)) (fun v4 _=>?_)
 refine bF.ite (fun _=>?_) (fun hc=>?_)
 ·(repeat' (first|(with_reducible first|apply bF.bO|apply bF.bL|apply bF.bI|apply bF.dX|refine bF.ite (fun _=>?_) (fun _=>?_)|apply bF.cJ|apply bF.ret|apply sE.l|apply sE.r)|with_reducible refine bF.c5 (by (first|assumption|omega|(simp [cR,room,cH] at *;try omega))) ?_|(refine (And.intro (a:=IntKind.i64.wrap _=_) (wrap64 (by omega) (by omega)) ?_))))
  (all_goals (try (first|trivial|(intro h;cases h;done))))
 have hi:∀ x∈a0.bX,¬ (x<0∨x ≥ a0.bE.length):=by
  rcases tS with ⟨_,h⟩|rfl
  ·exact h
  ·simp at hc
 refine bF.bL (bF.bI (bF.dX ?_))
 refine bF.up a0.b8.length (by omega) (fun i hi=>?_) ?_
 ·refine bF.bO (bF.dF (by simp only[aD,aC];omega) ?_)
  simp only[aM]
  refine bF.bL (bF.bI (bF.c5 (gC hi) (bF.cJ (bF.c5 (by simp [cK];omega) (bF.cJ (bF.bO ?_))))))
  refine bF.call (aAs hK (by simp;omega)) (fun v _=>?_)
  (repeat' (first|(with_reducible first|apply bF.bO|apply bF.bL|apply bF.bI|apply bF.dX|refine bF.ite (fun _=>?_) (fun _=>?_)|apply bF.cJ|apply bF.ret|apply sE.l|apply sE.r)|with_reducible refine bF.c5 (by (first|assumption|omega|(simp [cR,room,cH] at *;try omega))) ?_|(refine (And.intro (a:=IntKind.i64.wrap _=_) (wrap64 (by omega) (by omega)) ?_))))
  (all_goals (try (first|trivial|(intro h;cases h;done))))
 ·(refine bF.bO ?_;refine bF.dB (by simp) ?_;(repeat' (first|(with_reducible first|apply bF.bO|apply bF.bL|apply bF.bI|apply bF.dX|refine bF.ite (fun _=>?_) (fun _=>?_)|apply bF.cJ|apply bF.ret|apply sE.l|apply sE.r)|with_reducible refine bF.c5 (by (first|assumption|omega|(simp [cR,room,cH] at *;try omega))) ?_|(refine (And.intro (a:=IntKind.i64.wrap _=_) (wrap64 (by omega) (by omega)) ?_)))))
  (all_goals (try (first|trivial|(intro h;cases h;done))))
  refine bF.upP a0.bU.length (fun i=>aGz a0 (a0.bU.getD i default)) (by omega) (fun i hi=>?_) (fun hp=>?_)
  ·refine bF.bO (bF.dF (by simp only[aD,aC];omega) ?_)
   simp only[aM]
   refine bF.bL (bF.bI (bF.c5 (gC hi) (bF.cJ (bF.c5 ?_ (bF.cJ (bF.bO ?_))))))
   ·rw[aP]
    simp only[Bool.not_not,cR,aB,aP,aC,aD]
    omega
   refine bF.ite (fun _=>?_) (fun hc=>?_)
   ·(repeat' (first|(with_reducible first|apply bF.bO|apply bF.bL|apply bF.bI|apply bF.dX|refine bF.ite (fun _=>?_) (fun _=>?_)|apply bF.cJ|apply bF.ret|apply sE.l|apply sE.r)|with_reducible refine bF.c5 (by (first|assumption|omega|(simp [cR,room,cH] at *;try omega))) ?_|(refine (And.intro (a:=IntKind.i64.wrap _=_) (wrap64 (by omega) (by omega)) ?_))))
    (all_goals (try (first|trivial|(intro h;cases h;done))))
   simp only[aP,aC,not_or,aD,bne_iff_ne,Decidable.not_not,ne_eq] at hc
   refine bF.c5 (by simp [cK];omega) (bF.cJ (bF.bO ?_))
   refine bF.call (aAt hK (by simp;omega)) (fun v _=>?_)
   (repeat' (first|(with_reducible first|apply bF.bO|apply bF.bL|apply bF.bI|apply bF.dX|refine bF.ite (fun _=>?_) (fun _=>?_)|apply bF.cJ|apply bF.ret|apply sE.l|apply sE.r)|with_reducible refine bF.c5 (by (first|assumption|omega|(simp [cR,room,cH] at *;try omega))) ?_|(refine (And.intro (a:=IntKind.i64.wrap _=_) (wrap64 (by omega) (by omega)) ?_))))
   ·(all_goals (try (first|trivial|(intro h;cases h;done))))
   ·exact ⟨by omega,by omega,by omega,by omega,by omega,by omega,by omega⟩
  ·(refine bF.bO ?_;refine bF.dB (by simp) ?_;(repeat' (first|(with_reducible first|apply bF.bO|apply bF.bL|apply bF.bI|apply bF.dX|refine bF.ite (fun _=>?_) (fun _=>?_)|apply bF.cJ|apply bF.ret|apply sE.l|apply sE.r)|with_reducible refine bF.c5 (by (first|assumption|omega|(simp [cR,room,cH] at *;try omega))) ?_|(refine (And.intro (a:=IntKind.i64.wrap _=_) (wrap64 (by omega) (by omega)) ?_)))))
   exact fun _=>⟨hi,jT hp⟩
end Go.Proofs.YtngjamedgphjiaaGreatDoor
