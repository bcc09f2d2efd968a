/- No conditions. -/
import Derived.Test.YtngjamedgphjiaaGreatDoorTA
set_option linter.unusedVariables false
set_option linter.unusedSimpArgs false
set_option linter.unusedSectionVars false
namespace Go.Proofs.YtngjamedgphjiaaGreatDoor
open Go Go.Dl
set_option maxRecDepth 100000
set_option maxHeartbeats 2000000
def aGA (o:jC):Prop:=o.fK≠1→o.fK≠20→(0≤o.fA∧o.fA≤10000)∧(0≤o.fB∧o.fB≤10000)
theorem wQ {K:Nat} {a0 a1 a2:Int}:eA (F97 K a0 a1 a2) (fun v=>v=true→a1≤a0∧a0≤a2):=by
 refine ⟨_,rfl,?_⟩
 intro h
 simpa using h
theorem yK {K:Nat} {a0 a1 a2:Int} {d:Bool} {α:Type} {f:Bool→Option α} {Q:α→Prop} (h:∀ v,(v=true→a1≤a0∧a0≤a2)→bF (f v) Q):bF ((eF true (cT (F97 K a0 a1 a2)) d).bind f) Q :=
 bF.cF (fun _=>wQ) (fun v hv=>h v (hv rfl))
theorem aFn {K:Nat} {o:jC}:eA (F83 K o) (fun v=>v=true→aGA o):=by
 refine eA.of ?_
 unfold F83
 refine bF.call kY (fun n _=>?_)
 refine bF.bO (bF.ite (fun _=>?_) (fun _=>?_))
 ·(repeat' (first|(with_reducible first|apply bF.bO|apply bF.bL|apply bF.bI|refine bF.dF (by assumption) ?_|refine bF.dB (by assumption) ?_|refine bF.ite (fun _=>?_) (fun _=>?_)|apply bF.ret|apply sE.l|apply sE.r)))
  simp
 refine yK (fun a ha=>yK (fun b hb=>?_))
 (repeat' (first|(with_reducible first|apply bF.bO|apply bF.bL|apply bF.bI|refine bF.dF (by assumption) ?_|refine bF.dB (by assumption) ?_|refine bF.ite (fun _=>?_) (fun _=>?_)|apply bF.ret|apply sE.l|apply sE.r)))
 all_goals (try (refine bF.call wQ (fun v hv=>?_)))
 (repeat' (first|(with_reducible first|apply bF.bO|apply bF.bL|apply bF.bI|refine bF.dF (by assumption) ?_|refine bF.dB (by assumption) ?_|refine bF.ite (fun _=>?_) (fun _=>?_)|apply bF.ret|apply sE.l|apply sE.r)))
 all_goals (try (refine bF.call wQ (fun v2 nB=>?_)))
 (repeat' (first|(with_reducible first|apply bF.bO|apply bF.bL|apply bF.bI|refine bF.dF (by assumption) ?_|refine bF.dB (by assumption) ?_|refine bF.ite (fun _=>?_) (fun _=>?_)|apply bF.ret|apply sE.l|apply sE.r)))
 all_goals (intro hh h1 h20;simp only[aB] at hh;first
 |exact ⟨⟨by have:=hv hh.1;omega,by have:=hv hh.1;omega⟩,hb hh.2⟩
 |exact ⟨ha hh.1,⟨by have:=hv hh.2;omega,by have:=hv hh.2;omega⟩⟩
 |exact ⟨ha hh.1,hb hh.2⟩
 |(exfalso;simp_all))
def mu (s:c6):Nat:=s.bV.length+2 * s.bN.count false
structure Ck (m:Nat) (s:c6):Prop where
 im:Sm s.bP m
 c:SmC s.fc
 kl:s.bN.length=s.fc.bT.length
 sl:s.bK.length=s.fc.bT.length
 st:∀ x∈s.bK,x.length≤10000
 td:∀ i∈s.bV,0≤i∧i<s.fc.bT.length
 mu:mu s≤400
theorem lH {K:Nat} {s:c6} {n:Int} {m:Nat} (h:Ck m s):eA (pL K s n) (fun v=>SmD v.1 m):=by
 refine eA.of ?_
 unfold pL
 refine bF.bO (bF.ite (fun _=>?_) (fun hc=>?_))
 ·(repeat' (first|(with_reducible first|apply bF.bO|refine bF.ite (fun _=>?_) (fun _=>?_)|apply bF.cJ|apply bF.ret|apply sE.l|apply sE.r)|with_reducible refine bF.c5 (by (first|assumption|omega|(simp [cR,room,cH] at *;try omega))) ?_))
  exact ⟨by simp,by simp,by simp,by simp,⟨by simp,by simp⟩,by simp⟩
 ·simp only[aP,aC,not_or,aD] at hc
  refine bF.c5 (by simp only[cR,aB,aC];omega) (bF.cJ ?_)
  (repeat' (first|(with_reducible first|apply bF.bO|refine bF.ite (fun _=>?_) (fun _=>?_)|apply bF.cJ|apply bF.ret|apply sE.l|apply sE.r)|with_reducible refine bF.c5 (by (first|assumption|omega|(simp [cR,room,cH] at *;try omega))) ?_))
  exact eV (d:=default) h.im.cls (by omega)
theorem aDj {K:Nat} {s:c6} {n a:Int} {m:Nat} (hK:1000<K) (h:Ck m s):eA (yL K s n a) (fun _=>True):=by
 have hl:=h.im.kX
 refine eA.of ?_
 unfold yL
 refine bF.bO (bF.bL (bF.bI (bF.dX ?_)))
 rw[wrap64 (by simp;omega) (by simp;omega)]
 refine bF.loop (fun t:Int × Int=>0≤t.2) (fun t=>s.bP.bE.length+1 - t.2.toNat) (by simp) (by simp;omega) (fun t hI=>?_)
 refine bF.ite (fun hc=>?_) (fun _=>?_)
 ·simp only[aD,aC] at hc
  refine bF.bL (bF.bI (bF.ite (fun _=>?_) (fun _=>?_)))
  ·(repeat' (first|(with_reducible first|apply bF.bO|apply bF.bL|apply bF.bI|apply bF.dX|refine bF.ite (fun _=>?_) (fun _=>?_)|apply bF.ret|apply sE.l|apply sE.r)|(refine (And.intro (a:=IntKind.i64.wrap _=_) (wrap64 (by omega) (by omega)) ?_))))
   (all_goals (try (first|trivial|(intro h;cases h;done))))
  ·refine bF.call (lH h) (fun v _=>?_)
   (repeat' (first|(with_reducible first|apply bF.bO|apply bF.bL|apply bF.bI|apply bF.dX|refine bF.ite (fun _=>?_) (fun _=>?_)|apply bF.ret|apply sE.l|apply sE.r)|(refine (And.intro (a:=IntKind.i64.wrap _=_) (wrap64 (by omega) (by omega)) ?_))))
   ·(all_goals (try (first|trivial|(intro h;cases h;done))))
   ·show 0≤IntKind.i64.wrap (t.2+1)∧s.bP.bE.length+1 - (IntKind.i64.wrap (t.2+1)).toNat<s.bP.bE.length+1 - t.2.toNat
    rw[wrap64 (by omega) (by omega)];omega
 ·(repeat' (first|(with_reducible first|apply bF.bO|apply bF.bL|apply bF.bI|apply bF.dX|refine bF.ite (fun _=>?_) (fun _=>?_)|apply bF.ret|apply sE.l|apply sE.r)|(refine (And.intro (a:=IntKind.i64.wrap _=_) (wrap64 (by omega) (by omega)) ?_))))
  (all_goals (try (first|trivial|(intro h;cases h;done))))
theorem yM {K:Nat} {s:c6} {o:jC} {m:Nat} (hm:m≤1) (h:Ck m s):eA (aBX K s o) (fun v=>v.length≤200):=by
 have h1:=h.c.p
 have h2:=h.c.l
 have h3:=h.im.globals
 refine eA.of ?_
 unfold aBX
 refine bF.bL (bF.bI (bF.mS ?_ (fun u=>?_)))
 ·(repeat' (first|(with_reducible first|apply bF.bL|apply bF.bI|refine bF.dF (by assumption) ?_|refine bF.dB (by assumption) ?_|refine bF.ite (fun _=>?_) (fun _=>?_)|apply bF.cJ|apply bF.ret|apply sE.l|apply sE.r)))
  (all_goals (try (first|trivial|(intro h;cases h;done))))
 refine bF.ite (fun _=>?_) (fun _=>?_)
 ·(repeat' (first|(with_reducible first|apply bF.bL|apply bF.bI|refine bF.ite (fun _=>?_) (fun _=>?_)|apply bF.cJ|apply bF.ret|apply sE.l|apply sE.r)|with_reducible refine bF.c5 (by (first|assumption|omega|(simp [cR,room,cH] at *;try omega))) ?_))
  simp;omega
 refine bF.mS ?_ (fun u=>?_)
 ·(repeat' (first|(with_reducible first|apply bF.bL|apply bF.bI|refine bF.dF (by assumption) ?_|refine bF.dB (by assumption) ?_|refine bF.ite (fun _=>?_) (fun _=>?_)|apply bF.cJ|apply bF.ret|apply sE.l|apply sE.r)))
  (all_goals (try (first|trivial|(intro h;cases h;done))))
 refine bF.ite (fun _=>?_) (fun _=>?_)
 ·(repeat' (first|(with_reducible first|apply bF.bL|apply bF.bI|refine bF.ite (fun _=>?_) (fun _=>?_)|apply bF.cJ|apply bF.ret|apply sE.l|apply sE.r)|with_reducible refine bF.c5 (by (first|assumption|omega|(simp [cR,room,cH] at *;try omega))) ?_))
  show List.length _≤200
  omega
 (repeat' (first|(with_reducible first|apply bF.bL|apply bF.bI|refine bF.dF (by assumption) ?_|refine bF.dB (by assumption) ?_|refine bF.ite (fun _=>?_) (fun _=>?_)|apply bF.cJ|apply bF.ret|apply sE.l|apply sE.r)))
 refine bF.call (lH h) (fun v hv=>?_)
 (repeat' (first|(with_reducible first|apply bF.bL|apply bF.bI|refine bF.ite (fun _=>?_) (fun _=>?_)|apply bF.cJ|apply bF.ret|apply sE.l|apply sE.r)|with_reducible refine bF.c5 (by (first|assumption|omega|(simp [cR,room,cH] at *;try omega))) ?_))
 have:=hv.f
 show List.length _≤200
 omega
theorem aDk {K:Nat} {a:Bool}:eA (aDl K a) (fun v=>v.length≤1):=by
 refine eA.of ?_
 unfold aDl
 (repeat' (first|(with_reducible first|refine bF.dF (by assumption) ?_|refine bF.dB (by assumption) ?_|refine bF.ite (fun _=>?_) (fun _=>?_)|apply bF.ret|apply sE.l|apply sE.r)))
 ·simp
 ·simp
theorem pM {K:Nat} {l:List Bytes} {n:Int} {ah:Bytes} (h:∀ x∈l,x.length≤100) (hn:0≤n) (ha:ah.length≤1):eA (wR K l n ah) (fun v=>v.1.length≤200∧v.2.1.length≤1):=by
 refine eA.of ?_
 unfold wR
 refine bF.bO (bF.ite (fun _=>?_) (fun hc=>?_))
 ·(repeat' (first|(with_reducible first|apply bF.bO|refine bF.dF (by assumption) ?_|refine bF.dB (by assumption) ?_|refine bF.ite (fun _=>?_) (fun _=>?_)|apply bF.cJ|apply bF.ret|apply sE.l|apply sE.r)))
  simp
 ·simp only[aC,aD] at hc
  have hx:=eV (d:=default) h (i:=n.toNat) (by omega)
  refine bF.c5 (by simp only[cR,aB,aC];omega) (bF.cJ ?_)
  refine bF.call (aBe (by omega)) (fun v hv=>?_)
  refine bF.c5 (by simp only[room,aC];omega) (bF.cJ ?_)
  refine bF.call aDk (fun v2 nB=>?_)
  (repeat' (first|(with_reducible first|apply bF.bO|refine bF.dF (by assumption) ?_|refine bF.dB (by assumption) ?_|refine bF.ite (fun _=>?_) (fun _=>?_)|apply bF.cJ|apply bF.ret|apply sE.l|apply sE.r)))
  exact ⟨by simp;omega,nB⟩
theorem aFo {K:Nat} {s:c6} {o:jC} {m:Nat} (hm:m≤1) (h:Ck m s) (ho:0≤o.fA):eA (F98 K s o) (fun v=>v.1.length≤200∧v.2.1.length≤1):=by
 refine eA.of ?_
 unfold F98
 refine bF.call (yM hm h) (fun v hv=>?_)
 refine bF.bO (bF.ite (fun _=>?_) (fun hc=>?_))
 ·(repeat' (first|(with_reducible first|apply bF.bO|apply bF.bL|apply bF.bI|refine bF.dF (by assumption) ?_|refine bF.dB (by assumption) ?_|refine bF.ite (fun _=>?_) (fun _=>?_)|apply bF.cJ|apply bF.ret|apply sE.l|apply sE.r)))
  simp
 ·simp only[aC,aD] at hc
  have hw:IntKind.i64.wrap (o.fA+1)=o.fA+1:=wrap64 (by omega) (by omega)
  rw[hw]
  refine bF.c5 (by simp only[cK,aB,aC];omega) (bF.cJ (bF.bO ?_))
  refine bF.bL (bF.bI (bF.mS ?_ (fun u=>?_)))
  ·(repeat' (first|(with_reducible first|apply bF.bO|apply bF.bL|apply bF.bI|refine bF.dF (by assumption) ?_|refine bF.dB (by assumption) ?_|refine bF.ite (fun _=>?_) (fun _=>?_)|apply bF.cJ|apply bF.ret|apply sE.l|apply sE.r)))
   (all_goals (try (first|trivial|(intro h;cases h;done))))
  (repeat' (first|(with_reducible first|apply bF.bO|apply bF.bL|apply bF.bI|refine bF.dF (by assumption) ?_|refine bF.dB (by assumption) ?_|refine bF.ite (fun _=>?_) (fun _=>?_)|apply bF.cJ|apply bF.ret|apply sE.l|apply sE.r)))
  ·refine ⟨by simp,?_⟩
   simp;omega
  ·refine ⟨?_,by simp⟩
   simp;omega
theorem aDm {K:Nat} {a:Bytes} {c:UInt8}:eA (aEu K a [c]) (fun _=>True):=⟨_,rfl,trivial⟩
theorem aFp {K:Nat} {s:c6} {o:jC} {m:Nat} (hm:m≤1) (h:Ck m s) (ho:0≤o.fA∧o.fA≤10000) (hb:0≤o.fB∧o.fB≤10000):eA (F99 K s o) (fun _=>True):=by
 refine eA.of ?_
 unfold F99
 refine bF.call (yM hm h) (fun v hv=>?_)
 have hw:IntKind.i64.wrap (o.fA+o.fB)=o.fA+o.fB:=wrap64 (by omega) (by omega)
 rw[hw]
 refine bF.c5 ?_ (bF.cJ (bF.bO ?_))
 ·rw[aP]
  simp only[cK,aB,aC,Bool.not_eq_true',decide_eq_false_iff_not,aD]
  omega
 refine bF.cF (fun _=>aDm) (fun v _=>?_)
 (repeat' (first|(with_reducible first|apply bF.bO|apply bF.cJ|apply bF.ret|apply sE.l|apply sE.r)))
 (all_goals (try (first|trivial|(intro h;cases h;done))))
end Go.Proofs.YtngjamedgphjiaaGreatDoor

namespace Go.Proofs.YtngjamedgphjiaaGreatDoor
open Go Go.Dl
set_option maxRecDepth 100000
set_option maxHeartbeats 2000000
theorem SmD.t100 {d:pK} {m:Nat} (h:SmD d m):∀ x∈d.eQ,x.length≤100:=fun x hx=>by have:=h.s.t x hx;omega
theorem aDn {K:Nat} {s:c6} {o:jC} {m:Nat} (hK:1000<K) (hm:m≤1) (h:Ck m s) (ho:0≤o.fA) (hb:0≤o.fB):eA (yN K s o) (fun v=>v.1.length≤200∧v.2.1.length≤1):=by
 refine eA.of ?_
 unfold yN
 refine bF.bL (bF.bI (bF.ite (fun _=>?_) (fun _=>?_)))
 ·refine bF.bO (bF.ite (fun _=>?_) (fun hc=>?_))
  ·(repeat' (first|(with_reducible first|apply bF.bO|apply bF.bL|apply bF.bI|refine bF.dF (by assumption) ?_|refine bF.dB (by assumption) ?_|refine bF.ite (fun _=>?_) (fun _=>?_)|apply bF.cJ|apply bF.ret|apply sE.l|apply sE.r)))
   simp
  ·simp only[aC,aD] at hc
   have hx:=eV (d:=default) h.im.code (i:=o.fA.toNat) (by omega)
   refine bF.c5 (by simp only[cR,aB,aC];omega) (bF.cJ (bF.bO ?_))
   refine bF.call (lH h) (fun v1 _=>?_)
   refine bF.call (lH h) (fun v2 _=>?_)
   refine bF.cF (fun _=>aDj hK h) (fun v3 _=>?_)
   refine bF.ite (fun _=>?_) (fun _=>?_)
   ·(repeat' (first|(with_reducible first|apply bF.bO|apply bF.bL|apply bF.bI|refine bF.dF (by assumption) ?_|refine bF.dB (by assumption) ?_|refine bF.ite (fun _=>?_) (fun _=>?_)|apply bF.cJ|apply bF.ret|apply sE.l|apply sE.r)))
    simp
   refine bF.bO (bF.bO ?_)
   refine bF.call (aBd (by have:=hx.p;omega)) (fun v4 hv4=>?_)
   refine bF.cF (fun _=>pM (by have:=hx.p;simpa using (by omega)) (by omega) (by simp)) (fun v5 hv5=>?_)
   (repeat' (first|(with_reducible first|apply bF.bO|apply bF.bL|apply bF.bI|refine bF.dF (by assumption) ?_|refine bF.dB (by assumption) ?_|refine bF.ite (fun _=>?_) (fun _=>?_)|apply bF.cJ|apply bF.ret|apply sE.l|apply sE.r)))
   exact hv5 rfl
 refine bF.ite (fun _=>?_) (fun _=>?_)
 ·refine bF.call (lH h) (fun v1 tS=>?_)
  refine bF.call (pM tS.t100 ho (by simp)) (fun v2 nB=>?_)
  (repeat' (first|(with_reducible first|apply bF.bO|apply bF.bL|apply bF.bI|refine bF.dF (by assumption) ?_|refine bF.dB (by assumption) ?_|refine bF.ite (fun _=>?_) (fun _=>?_)|apply bF.cJ|apply bF.ret|apply sE.l|apply sE.r)))
  exact nB
 refine bF.ite (fun _=>?_) (fun _=>?_)
 ·refine bF.call (lH h) (fun v1 tS=>?_)
  refine bF.call (pM tS.t100 ho (by simp)) (fun v2 nB=>?_)
  (repeat' (first|(with_reducible first|apply bF.bO|apply bF.bL|apply bF.bI|refine bF.dF (by assumption) ?_|refine bF.dB (by assumption) ?_|refine bF.ite (fun _=>?_) (fun _=>?_)|apply bF.cJ|apply bF.ret|apply sE.l|apply sE.r)))
  exact nB
 (repeat' (first|(with_reducible first|apply bF.bO|apply bF.bL|apply bF.bI|refine bF.dF (by assumption) ?_|refine bF.dB (by assumption) ?_|refine bF.ite (fun _=>?_) (fun _=>?_)|apply bF.cJ|apply bF.ret|apply sE.l|apply sE.r)))
 ·simp
 ·rename_i hc
  simp only[aC,aD] at hc
  have hx:=eV (d:=default) h.im.aJz (i:=o.fA.toNat) (by omega)
  refine bF.c5 (by simp only[cR,aB,aC];omega) (bF.cJ (bF.bO ?_))
  refine bF.cF (fun _=>pM (fun x hq=>by have:=hx.t x hq;omega) hb (by simp)) (fun v5 hv5=>?_)
  (repeat' (first|(with_reducible first|apply bF.bO|apply bF.bL|apply bF.bI|refine bF.dF (by assumption) ?_|refine bF.dB (by assumption) ?_|refine bF.ite (fun _=>?_) (fun _=>?_)|apply bF.cJ|apply bF.ret|apply sE.l|apply sE.r)))
  exact hv5 rfl
theorem aFq {K:Nat} {s:c6} {o:jC} {m:Nat} (hK:1000<K) (hm:m≤1) (h:Ck m s) (ho:aGA o):eA (F84 K s o) (fun v=>v.1.length≤200∧v.2.1.length≤1):=by
 refine eA.of ?_
 unfold F84
 refine bF.bL (bF.bI (bF.ite (fun _=>?_) (fun h1=>?_)))
 ·(repeat' (first|(with_reducible first|apply bF.bO|apply bF.bL|apply bF.bI|refine bF.dF (by assumption) ?_|refine bF.dB (by assumption) ?_|refine bF.ite (fun _=>?_) (fun _=>?_)|apply bF.ret|apply sE.l|apply sE.r)))
  simp
 have h1':o.fK≠1:=by simpa using h1
 refine bF.mS ?_ (fun u=>?_)
 ·(repeat' (first|(with_reducible first|apply bF.bO|apply bF.bL|apply bF.bI|refine bF.dF (by assumption) ?_|refine bF.dB (by assumption) ?_|refine bF.ite (fun _=>?_) (fun _=>?_)|apply bF.ret|apply sE.l|apply sE.r)))
  (all_goals (try (first|trivial|(intro h;cases h;done))))
 refine bF.ite (fun _=>?_) (fun _=>?_)
 ·(repeat' (first|(with_reducible first|apply bF.bO|apply bF.bL|apply bF.bI|refine bF.dF (by assumption) ?_|refine bF.dB (by assumption) ?_|refine bF.ite (fun _=>?_) (fun _=>?_)|apply bF.ret|apply sE.l|apply sE.r)))
  simp
 refine bF.ite (fun _=>?_) (fun _=>?_)
 ·(repeat' (first|(with_reducible first|apply bF.bO|apply bF.bL|apply bF.bI|refine bF.dF (by assumption) ?_|refine bF.dB (by assumption) ?_|refine bF.ite (fun _=>?_) (fun _=>?_)|apply bF.ret|apply sE.l|apply sE.r)))
  simp
 refine bF.ite (fun _=>?_) (fun _=>?_)
 ·(repeat' (first|(with_reducible first|apply bF.bO|apply bF.bL|apply bF.bI|refine bF.dF (by assumption) ?_|refine bF.dB (by assumption) ?_|refine bF.ite (fun _=>?_) (fun _=>?_)|apply bF.ret|apply sE.l|apply sE.r)))
  simp
 (repeat' (first|(with_reducible first|apply bF.bO|apply bF.bL|apply bF.bI|refine bF.dF (by assumption) ?_|refine bF.dB (by assumption) ?_|refine bF.ite (fun _=>?_) (fun _=>?_)|apply bF.ret|apply sE.l|apply sE.r)))
 all_goals first
 |(refine bF.call (aFo hm h (ho h1' (by intro e;simp_all)).1.1) (fun v hv=>?_);(repeat' (first|(with_reducible first|apply bF.bO|apply bF.bL|apply bF.bI|refine bF.dF (by assumption) ?_|refine bF.dB (by assumption) ?_|refine bF.ite (fun _=>?_) (fun _=>?_)|apply bF.ret|apply sE.l|apply sE.r)));exact hv)
 |(refine bF.call (aFp hm h (ho h1' (by intro e;simp_all)).1 (ho h1' (by intro e;simp_all)).2) (fun v hv=>?_);(repeat' (first|(with_reducible first|apply bF.bO|apply bF.bL|apply bF.bI|refine bF.dF (by assumption) ?_|refine bF.dB (by assumption) ?_|refine bF.ite (fun _=>?_) (fun _=>?_)|apply bF.ret|apply sE.l|apply sE.r)));simp)
 |(refine bF.call (aDn hK hm h (ho h1' (by intro e;simp_all)).1.1 (ho h1' (by intro e;simp_all)).2.1) (fun v hv=>?_);(repeat' (first|(with_reducible first|apply bF.bO|apply bF.bL|apply bF.bI|refine bF.dF (by assumption) ?_|refine bF.dB (by assumption) ?_|refine bF.ite (fun _=>?_) (fun _=>?_)|apply bF.ret|apply sE.l|apply sE.r)));exact hv)
 |simp
theorem count_set {l:List Bool} {i:Nat} (hi:i<l.length) (h:l.getD i default=false):(l.set i true).count false+1=l.count false:=by
 induction l generalizing i with
|nil=>simp at hi
|cons x l ih =>
   cases i with
  |zero =>
     simp at h
     subst h
     simp
  |succ i =>
     have:=ih (i:=i) (by simpa using hi) (by simpa using h)
     simp only[List.set_cons_succ,List.count_cons]
     omega
theorem pN {K:Nat} {s:c6} {i:Int} {x:Bytes} {m:Nat} (h:Ck m s) (hx:x.length≤10000):eA (F66 K s i x) (fun v=>Ck m v.2∧mu v.2≤mu s):=by
 refine eA.of ?_
 unfold F66
 refine bF.bO (bF.ite (fun _=>?_) (fun hc=>?_))
 ·(repeat' (first|(with_reducible first|apply bF.bO|refine bF.dF (by assumption) ?_|refine bF.dB (by assumption) ?_|refine bF.ite (fun _=>?_) (fun _=>?_)|apply bF.cJ|apply bF.ret|apply sE.l|apply sE.r)))
  exact ⟨h,aI _⟩
 simp only[aP,aC,not_or,aD] at hc
 have h1:=h.kl
 have h2:=h.sl
 have hi1:cR i s.bN.length=true:=by simp only[cR,aB,aC];omega
 have hi2:cR i s.bK.length=true:=by simp only[cR,aB,aC];omega
 refine bF.c5 hi1 (bF.cJ (bF.ite (fun _=>?_) (fun hk=>?_)))
 ·refine bF.c5 hi2 (bF.cJ ?_)
  (repeat' (first|(with_reducible first|apply bF.bO|refine bF.dF (by assumption) ?_|refine bF.dB (by assumption) ?_|refine bF.ite (fun _=>?_) (fun _=>?_)|apply bF.cJ|apply bF.ret|apply sE.l|apply sE.r)))
  exact ⟨h,aI _⟩
 have hmu:=h.mu
 have hcs:=count_set (l:=s.bN) (i:=i.toNat) (by omega) (by simpa using hk)
 refine bF.c5 hi1 (bF.cJ (bF.c5 hi2 (bF.cJ (bF.c5 ?_ (bF.cJ ?_)))))
 ·simp only[room,aC,List.length_cons,List.length_nil]
  unfold mu at hmu
  omega
 have hm2:mu ⟨s.bP,s.fc,s.bN.set i.toNat true,s.bK.set i.toNat x,s.bV++[i],s.dN⟩≤mu s:=by
  unfold mu
  simp only[List.length_append,List.length_cons,List.length_nil]
  omega
 (repeat' (first|(with_reducible first|apply bF.bO|refine bF.dF (by assumption) ?_|refine bF.dB (by assumption) ?_|refine bF.ite (fun _=>?_) (fun _=>?_)|apply bF.cJ|apply bF.ret|apply sE.l|apply sE.r)))
 refine ⟨⟨h.im,h.c,by simpa using h1,by simpa using h2,fun y hy=>?_,fun j hj=>?_,Nat.le_trans hm2 hmu⟩,hm2⟩
 ·rcases List.mem_or_eq_of_mem_set hy with hy|rfl
  ·exact h.st y hy
  ·exact hx
 ·rcases List.mem_append.1 hj with hj|hj
  ·exact h.td j hj
  ·obtain rfl:j=i:=by simpa using hj
   exact ⟨by omega,by show j<(s.fc.bT.length:Int);omega⟩
theorem aFr {K:Nat} {a b:Bytes} (h:a.length≤10000):eA (F85 K a b) (fun v=>v.1.length≤10000):=by
 refine ⟨(Lib.trimSuffix a b,Lib.hasSuffix a b),?_,?_⟩
 ·unfold F85;rw[aO (by omega)];rfl
 ·show (Lib.trimSuffix a b).length≤10000
  unfold Lib.trimSuffix
  split
  ·simp;omega
  ·exact h
theorem Ck.most {m:Nat} {s:c6} (h:Ck m s) (x:Int):Ck m ⟨s.bP,s.fc,s.bN,s.bK,s.bV,x⟩:=⟨h.im,h.c,h.kl,h.sl,h.st,h.td,h.mu⟩
theorem aFs {K:Nat} {s:c6} {i:Int} {m:Nat} (hK:1000<K) (hm:m≤1) (h:Ck m s) (hi:0≤i∧i<s.fc.bT.length):eA (F67 K s i) (fun v=>Ck m v.2∧mu v.2≤mu s):=by
 have h1:=h.kl
 have h2:=h.sl
 have ho:=h.c.o
 refine eA.of ?_
 unfold F67
 refine bF.c5 (by simp only[cR,aB,aC];omega) (bF.cJ (bF.c5 (by simp only[cR,aB,aC];omega) (bF.cJ ?_)))
 have hst:=eV (d:=default) h.st (i:=i.toNat) (by omega)
 refine bF.call aFn (fun v1 tS=>?_)
 refine bF.ite (fun _=>?_) (fun hc=>?_)
 ·(repeat' (first|(with_reducible first|apply bF.bO|apply bF.bL|apply bF.bI|refine bF.dF (by assumption) ?_|refine bF.dB (by assumption) ?_|refine bF.ite (fun _=>?_) (fun _=>?_)|apply bF.cJ|apply bF.ret|apply sE.l|apply sE.r)))
  exact ⟨h,aI _⟩
 refine bF.cF (fun _=>aFq hK hm h (tS (by simpa using hc))) (fun v2 nB=>?_)
 have nB:=nB rfl
 refine bF.bO ?_
 refine bF.mS ?_ (fun u=>?_)
 ·refine bF.ite (fun hq=>?_) (fun _=>?_)
  ·generalize s.bK.getD i.toNat default=st at hst hq ⊢
   have hl:0<st.length:=by
    simp only[aB,Bool.not_eq_true',beq_eq_false_iff_ne,ne_eq] at hq
    cases st with
   |nil=>exact absurd rfl hq.2
   |cons a l=>simp
   rw[wrap64 (by simp;omega) (by simp;omega)]
   refine bF.c5 (by simp only[cK,aB,aC,aD];omega) (bF.cJ ?_)
   (repeat' (first|(with_reducible first|apply bF.bO|apply bF.bL|apply bF.bI|refine bF.dF (by assumption) ?_|refine bF.dB (by assumption) ?_|refine bF.ite (fun _=>?_) (fun _=>?_)|apply bF.cJ|apply bF.ret|apply sE.l|apply sE.r)))
   (all_goals (try (first|trivial|(intro h;cases h;done))))
  ·(repeat' (first|(with_reducible first|apply bF.bO|apply bF.bL|apply bF.bI|refine bF.dF (by assumption) ?_|refine bF.dB (by assumption) ?_|refine bF.ite (fun _=>?_) (fun _=>?_)|apply bF.cJ|apply bF.ret|apply sE.l|apply sE.r)))
   (all_goals (try (first|trivial|(intro h;cases h;done))))
 refine bF.call (aFr hst) (fun v3 hv3=>?_)
 refine bF.bO (bF.ite (fun _=>?_) (fun _=>?_))
 ·(repeat' (first|(with_reducible first|apply bF.bO|apply bF.bL|apply bF.bI|refine bF.dF (by assumption) ?_|refine bF.dB (by assumption) ?_|refine bF.ite (fun _=>?_) (fun _=>?_)|apply bF.cJ|apply bF.ret|apply sE.l|apply sE.r)))
  exact ⟨h,aI _⟩
 refine bF.c5 (by simp only[room,aC];omega) (bF.cJ (bF.bO (bF.ite (fun _=>?_) (fun hl=>?_))))
 ·(repeat' (first|(with_reducible first|apply bF.bO|apply bF.bL|apply bF.bI|refine bF.dF (by assumption) ?_|refine bF.dB (by assumption) ?_|refine bF.ite (fun _=>?_) (fun _=>?_)|apply bF.cJ|apply bF.ret|apply sE.l|apply sE.r)))
  exact ⟨h.most _,aI _⟩
 have hl2:(v3.1++v2.2.1).length≤10000:=by
  simp only[aC,aD] at hl
  omega
 refine bF.bO ?_
 refine bF.bL (bF.bI (bF.mS ?_ (fun u5=>?_)))
 ·(repeat' (first|(with_reducible first|apply bF.bO|apply bF.bL|apply bF.bI|refine bF.dF (by assumption) ?_|refine bF.dB (by assumption) ?_|refine bF.ite (fun _=>?_) (fun _=>?_)|apply bF.cJ|apply bF.ret|apply sE.l|apply sE.r)))
  (all_goals (try (first|trivial|(intro h;cases h;done))))
 refine bF.ite (fun _=>?_) (fun _=>?_)
 ·(repeat' (first|(with_reducible first|apply bF.bO|apply bF.bL|apply bF.bI|refine bF.dF (by assumption) ?_|refine bF.dB (by assumption) ?_|refine bF.ite (fun _=>?_) (fun _=>?_)|apply bF.cJ|apply bF.ret|apply sE.l|apply sE.r)))
  exact ⟨h.most _,aI _⟩
 refine bF.ite (fun _=>?_) (fun _=>?_)
 ·refine bF.bO ?_
  refine bF.call (pN (h.most _) hl2) (fun v4 hv4=>?_)
  (repeat' (first|(with_reducible first|apply bF.bO|apply bF.bL|apply bF.bI|refine bF.dF (by assumption) ?_|refine bF.dB (by assumption) ?_|refine bF.ite (fun _=>?_) (fun _=>?_)|apply bF.cJ|apply bF.ret|apply sE.l|apply sE.r)))
  ·exact hv4
  ·refine bF.call (pN (hv4.1.most _) hl2) (fun v5 hv5=>?_)
   (repeat' (first|(with_reducible first|apply bF.bO|apply bF.bL|apply bF.bI|refine bF.dF (by assumption) ?_|refine bF.dB (by assumption) ?_|refine bF.ite (fun _=>?_) (fun _=>?_)|apply bF.cJ|apply bF.ret|apply sE.l|apply sE.r)))
   exact ⟨hv5.1,Nat.le_trans hv5.2 hv4.2⟩
 refine bF.ite (fun _=>?_) (fun _=>?_)
 ·refine bF.bO ?_
  refine bF.call (pN (h.most _) hl2) (fun v4 hv4=>?_)
  (repeat' (first|(with_reducible first|apply bF.bO|apply bF.bL|apply bF.bI|refine bF.dF (by assumption) ?_|refine bF.dB (by assumption) ?_|refine bF.ite (fun _=>?_) (fun _=>?_)|apply bF.cJ|apply bF.ret|apply sE.l|apply sE.r)))
  exact hv4
 (repeat' (first|(with_reducible first|apply bF.bO|apply bF.bL|apply bF.bI|refine bF.dF (by assumption) ?_|refine bF.dB (by assumption) ?_|refine bF.ite (fun _=>?_) (fun _=>?_)|apply bF.cJ|apply bF.ret|apply sE.l|apply sE.r)))
 refine bF.call (pN (h.most _) hl2) (fun v4 hv4=>?_)
 (repeat' (first|(with_reducible first|apply bF.bO|apply bF.bL|apply bF.bI|refine bF.dF (by assumption) ?_|refine bF.dB (by assumption) ?_|refine bF.ite (fun _=>?_) (fun _=>?_)|apply bF.cJ|apply bF.ret|apply sE.l|apply sE.r)))
 exact hv4
theorem aBj {K:Nat} {a0:eW} {n:Int} {m:Nat} (hK:1000<K) (hm:m≤1) (h:Sm a0 m):eA (F48 K a0 n) (fun _=>True):=by
 refine eA.of ?_
 unfold F48
 refine bF.bO (bF.ite (fun _=>?_) (fun hc=>?_))
 ·(repeat' (first|(with_reducible first|apply bF.bO|apply bF.bL|apply bF.bI|refine bF.dF (by assumption) ?_|refine bF.dB (by assumption) ?_|refine bF.ite (fun _=>?_) (fun _=>?_)|apply bF.cJ|apply bF.ret|apply sE.l|apply sE.r)))
  (all_goals (try (first|trivial|(intro h;cases h;done))))
 simp only[aP,aC,not_or,aD] at hc
 have hx:=eV (d:=default) h.code (i:=n.toNat) (by omega)
 have ho:=hx.o
 refine bF.c5 (by simp only[cR,aB,aC];omega) (bF.cJ ?_)
 refine bF.c5 (by simp) (bF.c5 (by simp only[room,aC,aD,aM];omega) (bF.cJ ?_))
 refine bF.c5 (by simp) (bF.c5 (by simp only[room,aC,aD,aM];omega) (bF.cJ ?_))
 refine bF.call (pN (m:=m) ⟨h,hx,by simp,by simp,fun x hq=>?_,by simp,?_⟩ (by simp)) (fun v hv=>?_)
 ·simp only[aD,aM] at hq
  have:=List.eq_of_mem_replicate hq
  rw[this];exact Nat.zero_le _
 ·unfold mu
  have:List.count false (List.replicate (a0.bB.getD n.toNat default).bT.length (default:Bool))≤(a0.bB.getD n.toNat default).bT.length:=by
   refine Nat.le_trans List.count_le_length ?_
   simp
  simp only[aD,aM,List.length_nil]
  omega
 refine bF.ite (fun _=>?_) (fun _=>?_)
 ·(repeat' (first|(with_reducible first|apply bF.bO|apply bF.bL|apply bF.bI|refine bF.dF (by assumption) ?_|refine bF.dB (by assumption) ?_|refine bF.ite (fun _=>?_) (fun _=>?_)|apply bF.cJ|apply bF.ret|apply sE.l|apply sE.r)))
  (all_goals (try (first|trivial|(intro h;cases h;done))))
 refine bF.bL (bF.bI (bF.dX ?_))
 refine bF.loop (fun t=>Ck m t) (fun t=>mu t) hv.1 (by have:=hv.1.mu;omega) (fun t hI=>?_)
 have hmu:=hI.mu
 have hw:(t.bV.length:Int)≤400:=by unfold mu at hmu;omega
 refine bF.bO (bF.ite (fun hc=>?_) (fun _=>?_))
 ·simp only[aC,aD] at hc
  have hwr:IntKind.i64.wrap (Int.ofNat t.bV.length - 1)=(t.bV.length:Int) - 1:=wrap64 (by simp;omega) (by simp;omega)
  rw[hwr]
  have rL:=eV (d:=default) hI.td (i:=((t.bV.length:Int) - 1).toNat) (by omega)
  refine bF.bL (bF.bI (bF.c5 (by simp only[cR,aB,aC];omega) (bF.cJ (bF.bO (bF.c5 (by simp only[cK,aB,aC];omega) (bF.cJ ?_))))))
  have aLL:mu ⟨t.bP,t.fc,t.bN,t.bK,t.bV.take ((t.bV.length:Int) - 1).toNat,t.dN⟩<mu t:=by
   unfold mu
   simp only[List.length_take]
   omega
  refine bF.call (aFs hK hm (s:=⟨t.bP,t.fc,t.bN,t.bK,t.bV.take ((t.bV.length:Int) - 1).toNat,t.dN⟩) ⟨hI.im,hI.c,hI.kl,hI.sl,hI.st,fun j hj=>hI.td j (List.mem_of_mem_take hj),by omega⟩ rL) (fun v2 nB=>?_)
  (repeat' (first|(with_reducible first|apply bF.bO|apply bF.bL|apply bF.bI|refine bF.dF (by assumption) ?_|refine bF.dB (by assumption) ?_|refine bF.ite (fun _=>?_) (fun _=>?_)|apply bF.cJ|apply bF.ret|apply sE.l|apply sE.r)))
  ·(all_goals (try (first|trivial|(intro h;cases h;done))))
  ·exact ⟨nB.1.most _,Nat.lt_of_le_of_lt nB.2 aLL⟩
 ·(repeat' (first|(with_reducible first|apply bF.bO|apply bF.bL|apply bF.bI|refine bF.dF (by assumption) ?_|refine bF.dB (by assumption) ?_|refine bF.ite (fun _=>?_) (fun _=>?_)|apply bF.cJ|apply bF.ret|apply sE.l|apply sE.r)))
  (all_goals (try (first|trivial|(intro h;cases h;done))))
theorem aFv {K:Nat} {a0:eW} {m:Nat} (hK:1000<K) (hm:m≤1) (h:Sm a0 m):eA (zG K a0) (fun _=>True):=by
 have hl:=h.tJ
 refine eA.of ?_
 unfold zG
 refine bF.bL (bF.bI (bF.dX ?_))
 refine bF.up a0.bB.length (by omega) (fun i hi=>?_) ?_
 ·refine bF.bO (bF.dF (by simp only[aD,aC];omega) ?_)
  refine bF.bL (bF.bI (bF.c5 (gC hi) (bF.cJ (bF.bO (bF.ite (fun _=>?_) (fun _=>?_))))))
  ·(repeat' (first|(with_reducible first|apply bF.bO|apply bF.bL|apply bF.bI|refine bF.dF (by assumption) ?_|refine bF.dB (by assumption) ?_|refine bF.ite (fun _=>?_) (fun _=>?_)|apply bF.cJ|apply bF.ret|apply sE.l|apply sE.r)))
   (all_goals (try (first|trivial|(intro h;cases h;done))))
  refine bF.call (aBj hK hm h) (fun v _=>?_)
  (repeat' (first|(with_reducible first|apply bF.bO|apply bF.bL|apply bF.bI|apply bF.dX|refine bF.ite (fun _=>?_) (fun _=>?_)|apply bF.cJ|apply bF.ret|apply sE.l|apply sE.r)|with_reducible refine bF.c5 (by (first|assumption|omega|(simp [cR,room,cH] at *;try omega))) ?_|(refine (And.intro (a:=IntKind.i64.wrap _=_) (wrap64 (by omega) (by omega)) ?_))))
  (all_goals (try (first|trivial|(intro h;cases h;done))))
 ·(refine bF.bO ?_;refine bF.dB (by simp) ?_;(repeat' (first|(with_reducible first|apply bF.bO|apply bF.bL|apply bF.bI|apply bF.dX|refine bF.ite (fun _=>?_) (fun _=>?_)|apply bF.cJ|apply bF.ret|apply sE.l|apply sE.r)|with_reducible refine bF.c5 (by (first|assumption|omega|(simp [cR,room,cH] at *;try omega))) ?_|(refine (And.intro (a:=IntKind.i64.wrap _=_) (wrap64 (by omega) (by omega)) ?_)))))
  (all_goals (try (first|trivial|(intro h;cases h;done))))
end Go.Proofs.YtngjamedgphjiaaGreatDoor
