/- No conditions. -/
import Derived.Test.YtdbfbedholdjaaaGreatHUG
import Derived.Test.YtdbfbedholdjaaaGreatHEA
set_option linter.unusedVariables false
set_option linter.unusedSimpArgs false
set_option linter.unusedSectionVars false
namespace Go.Proofs.YtdbfbedholdjaaaGreat
open Go Go.Dl
variable [dO]
set_option maxRecDepth 100000
set_option maxHeartbeats 8000000
theorem aAg {K:Nat} {a:List Int} (hK:100000000<K) (hl:a.length≤100000000):cQ (F32 K a a) (fun v=>v=true):=by
 refine cQ.of ?_
 unfold F32
 refine bO.bR (bO.dA (by simp) ?_)
 refine bO.eC (bO.bQ (bO.cT ?_)) (fun _=>tl rfl)
 refine bO.up a.length (by omega) (fun i hi=>?_) (bO.bR (bO.dA (by simp) (tl (sE.l trivial))))
 refine bO.bR (bO.dN (by simpa using hi) ?_)
 refine bO.eC (bO.bQ (bO.bY (bW (by omega)) (bO.bY (bW (by omega)) (bO.b7 (bO.bR (bO.dA (by simp) (tr trivial))))))) (fun _=>?_)
 rw[wr (by omega) (by omega)]
 exact tr ⟨rfl,trivial⟩
theorem aOe {K:Nat} {a:List gV} (hK:100000000<K) (hl:a.length≤100000000):cQ (F96 K a a) (fun v=>v=true):=by
 refine cQ.of ?_
 unfold F96
 refine bO.bR (bO.dA (by simp) ?_)
 refine bO.eC (bO.bQ (bO.cT ?_)) (fun _=>tl rfl)
 refine bO.up a.length (by omega) (fun i hi=>?_) (bO.bR (bO.dA (by simp) (tl (sE.l trivial))))
 refine bO.bR (bO.dN (by simpa using hi) ?_)
 refine bO.eC (bO.bQ (bO.bY (bW (by omega)) (bO.bY (bW (by omega)) (bO.b7 (bO.bR (bO.dA (by simp) (tr trivial))))))) (fun _=>?_)
 rw[wr (by omega) (by omega)]
 exact tr ⟨rfl,trivial⟩
theorem aXo {K:Nat} {a:List aEb} (hK:100000000<K) (hl:a.length≤100000000):cQ (F98 K a a) (fun v=>v=true):=by
 refine cQ.of ?_
 unfold F98
 refine bO.bR (bO.dA (by simp) ?_)
 refine bO.eC (bO.bQ (bO.cT ?_)) (fun _=>tl rfl)
 refine bO.up a.length (by omega) (fun i hi=>?_) (bO.bR (bO.dA (by simp) (tl (sE.l trivial))))
 refine bO.bR (bO.dN (by simpa using hi) ?_)
 refine bO.eC (bO.bQ (bO.bY (bW (by omega)) (bO.bY (bW (by omega)) (bO.b7 (bO.bR (bO.dA (by simp) (tr trivial))))))) (fun _=>?_)
 rw[wr (by omega) (by omega)]
 exact tr ⟨rfl,trivial⟩
structure Sc (x:w8):Prop where
 i:x.dM.length≤100000000
 v:x.pM.length≤100000000
 s:x.sA.length≤1000
 t:x.gB.length≤100000000
 l:∀ t∈x.gB,t.aAh.length≤100000000
theorem aXp {K:Nat} {x:w8} (hK:100000000<K) (h:Sc x):cQ (F97 K x x) (fun v=>v=true):=by
 obtain ⟨h1,h2,h3,h4,h5⟩:=h
 refine cQ.of ?_
 unfold F97
 refine bO.aCJ (w:=false) (by simp) ?_
 refine bO.cH (by decide) (aAg hK h1) ?_
 rintro _ rfl
 refine bO.cH (by decide) (aAg hK h2) ?_
 rintro _ rfl
 refine bO.cH (by decide) (aKq (by omega) h3) ?_
 rintro _ rfl
 refine bO.aCJ (w:=false) (by simp) ?_
 refine bO.dA (by decide) ?_
 refine bO.eC (bO.bQ (bO.cT ?_)) (fun _=>tl rfl)
 refine bO.up x.gB.length (by omega) (fun i hi=>?_) (bO.bR (bO.dA (by simp) (tl (sE.l trivial))))
 have hb:=bW (show 0≤(i:Int)∧(i:Int)<x.gB.length by omega)
 refine bO.bR (bO.dN (by simpa using hi) ?_)
 refine bO.eC (bO.bQ (bO.bY hb (bO.bY hb (bO.bY (by rw[hb,Bool.or_true]) (bO.bY (by rw[hb,Bool.or_true]) (bO.b7 (bO.aCJ (w:=false) (by simp) ?_))))))) (fun _=>by rw[wr (by omega) (by omega)];exact tr ⟨rfl,trivial⟩)
 refine bO.cH (by decide) (aAg hK (h5 _ (c6 (d:=default) (by rw[Int.toNat_natCast];exact hi)))) ?_
 rintro _ rfl
 exact bO.dA (by decide) (tr trivial)
theorem aXq {K:Nat} {x:sL} (hK:100000000<K) (h:x.aIT.length≤100000000):cQ (F54 K x x) (fun v=>v=true):=by
 refine cQ.of ?_
 unfold F54
 refine bO.aCJ (w:=true) (by simp) ?_
 refine bO.cH (by decide) (aXo hK h) ?_
 rintro _ rfl
 exact tl rfl
structure Si (x:fF):Prop where
 f:x.cL.length≤100000000∧∀ t∈x.cL,t.length≤1000
 c:x.cO.length≤100000000∧∀ t∈x.cO,Sc t
 o:x.dI.length≤100000000∧∀ t∈x.dI,t.aIT.length≤100000000
 n:x.dW.length≤100000000
 i:x.dM.length≤100000000
 b:x.b8.length≤100000000
 ii:x.fY.length≤100000000
 oo:x.eP.length≤100000000
 j:x.eN.length≤100000000
theorem aXr {K:Nat} {x:fF} (hK:100000000<K) (h:Si x):cQ (F53 K x x) (fun v=>v=true):=by
 refine cQ.of ?_
 unfold F53
 refine bO.aCJ (w:=false) (by simp) ?_
 refine bO.cH (by decide) (aAg hK h.n) ?_
 rintro _ rfl
 refine bO.aCJ (w:=false) (by simp) ?_
 refine bO.cH (by decide) (aAg hK h.i) ?_
 rintro _ rfl
 refine bO.cH (by decide) (aAg hK h.b) ?_
 rintro _ rfl
 refine bO.cH (by decide) (aOe hK h.ii) ?_
 rintro _ rfl
 refine bO.cH (by decide) (aOe hK h.oo) ?_
 rintro _ rfl
 refine bO.aCJ (w:=false) (by simp) ?_
 refine bO.dA (by decide) ?_
 refine bO.eC (bO.bQ (bO.cT ?_)) (fun _=>bO.eC (bO.bQ (bO.cT ?_)) (fun _=>bO.eC (bO.bQ (bO.cT ?_)) (fun _=>tl rfl)))
 ·have hl:=h.f.1
  refine bO.up x.cL.length (by omega) (fun i hi=>?_) (bO.bR (bO.dA (by simp) (tl (sE.l trivial))))
  have hb:=bW (show 0≤(i:Int)∧(i:Int)<x.cL.length by omega)
  refine bO.bR (bO.dN (by simpa using hi) ?_)
  refine bO.eC (bO.bQ (bO.bY hb (bO.bY hb (bO.b7 ?_)))) (fun _=>by rw[wr (by omega) (by omega)];exact tr ⟨rfl,trivial⟩)
  refine bO.cH (by decide) (aKq (by omega) (h.f.2 _ (c6 (d:=default) (by rw[Int.toNat_natCast];exact hi)))) ?_
  rintro _ rfl
  exact bO.dA (by decide) (tr trivial)
 ·have hl:=h.c.1
  refine bO.up x.cO.length (by omega) (fun i hi=>?_) (bO.bR (bO.dA (by simp) (tl (sE.l trivial))))
  have hb:=bW (show 0≤(i:Int)∧(i:Int)<x.cO.length by omega)
  refine bO.bR (bO.dN (by simpa using hi) ?_)
  refine bO.eC (bO.bQ (bO.bY hb (bO.bY hb (bO.b7 ?_)))) (fun _=>by rw[wr (by omega) (by omega)];exact tr ⟨rfl,trivial⟩)
  refine bO.cH (by decide) (aXp hK (h.c.2 _ (c6 (d:=default) (by rw[Int.toNat_natCast];exact hi)))) ?_
  rintro _ rfl
  exact bO.dA (by decide) (tr trivial)
 ·have hl:=h.j
  refine bO.up x.eN.length (by omega) (fun i hi=>?_) (bO.bR (bO.dA (by simp) (tl (sE.l trivial))))
  have hb:=bW (show 0≤(i:Int)∧(i:Int)<x.eN.length by omega)
  refine bO.bR (bO.dN (by simpa using hi) ?_)
  exact bO.eC (bO.bQ (bO.bY hb (bO.bY hb (bO.b7 (bO.bR (bO.dA (by simp) (tr trivial))))))) (fun _=>by rw[wr (by omega) (by omega)];exact tr ⟨rfl,trivial⟩)
theorem aXs {K:Nat} {x:fF} (hK:100000000<K) (h:Si x):cQ (F16 K x x) (fun v=>v=true):=by
 refine cQ.of ?_
 unfold F16
 refine bO.call (aXr hK h) ?_
 rintro _ rfl
 refine bO.bR (bO.dA (by simp) ?_)
 refine bO.eC (bO.bQ (bO.cT ?_)) (fun _=>tl rfl)
 have hl:=h.o.1
 refine bO.up x.dI.length (by omega) (fun i hi=>?_) (bO.bR (bO.dA (by simp) (tl (sE.l trivial))))
 have hb:=bW (show 0≤(i:Int)∧(i:Int)<x.dI.length by omega)
 refine bO.bR (bO.dN (by simpa using hi) ?_)
 refine bO.eC (bO.bQ (bO.bY hb (bO.bY hb (bO.b7 ?_)))) (fun _=>by rw[wr (by omega) (by omega)];exact tr ⟨rfl,trivial⟩)
 refine bO.cH (by decide) (aXq hK (h.o.2 _ (c6 (d:=default) (by rw[Int.toNat_natCast];exact hi)))) ?_
 rintro _ rfl
 exact bO.dA (by decide) (tr trivial)
end Go.Proofs.YtdbfbedholdjaaaGreat

namespace Go.Proofs.YtdbfbedholdjaaaGreat
open Go Go.Dl
variable [dO]
set_option maxRecDepth 100000
set_option maxHeartbeats 8000000
def cv1 (x a:Int) (s:Bytes) (k:Int):List eZ→Int→Int ⊕ Int
 | [],n=>.inr n
 | v::r,n=>if v.cB.bU≠k then cv1 x a s k r n else if x=a∧v.cD=s then .inl n else cv1 x a s k r (n+1)
def co1 (u:cK) (a:Int) (s:Bytes) (k:Int):List Int→Int→Int
 | [],_=>-1
 | x::r,n=>match cv1 x a s k (dc u x).cA n with
   | .inl m=>m
   | .inr m=>co1 u a s k r m
theorem aN6 {K:Nat} {u:cK} {d k:Int} {s:Bytes} (hK:100000<K) (h:Sm u) (hw:Wf u):cQ (F56 K u d s k) (fun v=>v=if kd u d=3 then co1 u d s k (q9 u u.bP.length) 0 else -1):=by
 refine cQ.of ?_
 unfold F56
 refine bO.call (uN (by decide)) ?_
 rintro _ rfl
 refine bO.ite (fun e=>tl ?_) (fun e=>?_)
 ·simp only[aQ,beq_eq_false_iff_ne,ne_eq] at e
  rw[aD e]
 simp only[aQ,Bool.not_eq_false,beq_iff_eq] at e
 rw[aE e]
 have hl:=hw.len'
 refine bO.call (aN7 hK hw) ?_
 rintro _ rfl
 have hpi:∀ x∈q9 u u.bP.length,0≤x∧x<u.bP.length:=fun x hx=>aFw _ hx
 have hpn:=uO u u.bP.length
 generalize q9 u u.bP.length=r at hpi hpn
 refine bO.b5 (fun _=>co1 u d s k r 0 = -1) (bO.bQ (bO.cT ?_)) (fun v hv=>tl hv.symm)
 refine bO.qJ r.length (fun i (t:Int × Int)=>t.2=i∧0≤t.1∧t.1≤10 * i∧co1 u d s k (r.drop i) t.1=co1 u d s k r 0) ⟨rfl,by decide,by decide,rfl⟩ (by omega) ?_ ?_
 ·rintro i hi ⟨c,t⟩ ⟨g0,g1,g2,g3⟩
  dsimp only at g0 g1 g2 g3 ⊢
  subst g0
  rw[kD default hi] at g3
  have hx:=hpi _ (c6 (d:=default) hi)
  refine bO.bR (bO.dN (by simpa using hi) ?_)
  rw[Int.toNat_natCast]
  generalize r.getD i default=x at g3 hx
  have hxv:=(hw.sz x).v
  refine bO.b5 (fun v:Int=>0≤v∧v≤10 * (i+1)∧co1 u d s k (r.drop (i+1)) v=co1 u d s k r 0) (bO.bQ (bO.bY (bW (by omega)) (bO.b7 (bO.bY (bW hx) (bO.b7 (bO.bR (bO.bR ?_))))))) (fun v hv=>by rw[wr (by omega) (by omega)];exact tr ⟨by dsimp only;omega,hv.1,by dsimp only;omega,hv.2.2⟩)
  have hfv:(u.bP.getD x.toNat default).cA=(dc u x).cA:=rfl
  rw[hfv]
  rw[co1] at g3
  generalize (dc u x).cA=l at hxv g3
  refine bO.b5 (fun v:Int=>0≤v∧v≤10 * (i+1)∧co1 u d s k (r.drop (i+1)) v=co1 u d s k r 0) (bO.bQ (bO.cT ?_)) (fun v hv=>tr hv)
  refine bO.qJ l.length (fun j (t:Int × Int)=>t.2=j∧c≤t.1∧t.1≤c+j∧cv1 x d s k (l.drop j) t.1=cv1 x d s k l c) ⟨rfl,by dsimp only;omega,by dsimp only;omega,rfl⟩ (by omega) ?_ ?_
  ·rintro j hj ⟨c2,t2⟩ ⟨k0,k1,k2,k3⟩
   dsimp only at k0 k1 k2 k3 ⊢
   subst k0
   rw[kD default hj] at k3
   refine bO.dN (by simpa using hj) ?_
   refine bO.b5 (fun v:Int=>c≤v∧v≤c+(j+1)∧cv1 x d s k (l.drop (j+1)) v=cv1 x d s k l c) (bO.bQ (bO.bY (bW (by omega)) (bO.b7 (bO.bR ?_)))) (fun v hv=>by rw[wr (by omega) (by omega)];exact tr ⟨by dsimp only;omega,hv.1,by dsimp only;omega,hv.2.2⟩)
   rw[Int.toNat_natCast]
   generalize l.getD j default=y at k3
   rw[cv1] at k3
   refine bO.ite (fun e1=>?_) (fun e1=>bO.bR ?_)
   ·simp only[bne_iff_ne,ne_eq] at e1
    rw[aE e1] at k3
    exact tl (sE.l ⟨k1,by omega,k3⟩)
   ·simp only[bne_iff_ne,ne_eq,Decidable.not_not] at e1
    rw[aD (fun q=>q e1)] at k3
    refine bO.ite (fun e2=>?_) (fun e2=>?_)
    ·simp only[aC,beq_iff_eq] at e2
     rw[aE e2] at k3
     rw[← k3] at g3
     exact tl g3
    ·simp only[aC,beq_iff_eq] at e2
     rw[aD e2] at k3
     rw[wr (by omega) (by omega)]
     exact tr ⟨by omega,by omega,k3⟩
  ·rintro ⟨c2,t2⟩ ⟨k0,k1,k2,k3⟩
   dsimp only at k0 k1 k2 k3 ⊢
   subst k0
   rw[List.drop_length,cv1] at k3
   rw[← k3] at g3
   refine bO.dA (by simp) (tl ?_)
   exact ⟨by omega,by omega,g3⟩
 ·rintro ⟨c,t⟩ ⟨g0,g1,g2,g3⟩
  dsimp only at g0 g1 g2 g3 ⊢
  subst g0
  rw[List.drop_length,co1] at g3
  exact bO.bR (bO.dA (by simp) (tl g3.symm))
theorem aXc {K:Nat} {u:cK} {d:Int} {s:Bytes} (hK:100000<K) (h:Sm u) (hw:Wf u):cQ (F18 K u d s) (fun v=>v=if kd u d=3 then co1 u d s 7 (q9 u u.bP.length) 0 else -1):=by
 refine cQ.of ?_
 unfold F18
 refine bO.call (aN6 hK h hw) ?_
 rintro _ rfl
 exact tl rfl
end Go.Proofs.YtdbfbedholdjaaaGreat
