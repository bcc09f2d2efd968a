/- No conditions. -/
import Derived.Test.YtdbfbedholdjaaaGreatGUE
set_option linter.unusedVariables false
set_option linter.unusedSimpArgs false
set_option linter.unusedSectionVars false
namespace Go.Proofs.YtdbfbedholdjaaaGreat
open Go Go.Dl
variable [dK]
set_option maxRecDepth 100000
set_option maxHeartbeats 8000000
def rm (t:fU):Int:=if t.bR=6∨t.bR=7 then 0 else if t.bR=4 then eW (IntKind.i64.wrap (t.fHi+1)) 0 else 1
def rn (t:fU):Nat:=(uR (rm t) 10000).toNat
def ltr (t:fU):Bytes:=if t.bR=5 then [114] else [105]
theorem aUe (t:fU):0≤rm t:=by
 unfold rm eW
 split
 ·omega
 ·split
  ·split <;> omega
  ·omega
theorem aJA (t:fU):uR (rm t) 10000=(rn t:Int):=by
 have:=aUe t
 unfold rn uR
 split <;> omega
theorem aCb (t:fU):rn t≤10000:=by
 have:=aUe t
 unfold rn uR
 split <;> omega
theorem aSX {K:Nat} {t:fU}:cR (F83 K t) (fun v=>v=ltr t):=by
 refine cR.of ?_
 unfold F83 ltr
 refine bL.ite (fun e=>?_) (fun e=>?_)
 ·refine bL.ret (sE.l ?_)
  rw[aH (beq_iff_eq.1 e)]
 ·refine bL.ret (sE.l ?_)
  rw[aF (fun q=>e (beq_iff_eq.2 q))]
theorem aBf {K:Nat} {t:fU}:cR (F84 K t) (fun v=>v=rm t):=by
 refine cR.of ?_
 unfold F84
 refine bL.bZ (fun _=>rm t=1) (bL.bN ?_) (fun _ h=>by refine bL.ret (sE.l ?_);exact h.symm)
 refine bL.bZ (fun b=>b=true↔t.bR=6∨t.bR=7) ?_ (fun b hb=>?_)
 ·refine bL.ite (fun _=>bL.ret (sE.r ?_)) (fun _=>bL.ret (sE.r ?_))
  all_goals simp only[beq_iff_eq] at *
  all_goals omega
 ·refine bL.ite (fun e=>?_) (fun e=>?_)
  ·refine bL.ret (sE.l (sE.r ?_))
   unfold rm
   rw[aH (hb.1 e)]
  ·have hn:¬ (t.bR=6∨t.bR=7):=fun q=>e (hb.2 q)
   refine bL.ite (fun e2=>?_) (fun e2=>?_)
   ·refine bL.ret (sE.l (sE.r ?_))
    unfold rm
    rw[aF hn,aH (beq_iff_eq.1 e2)]
   ·refine bL.ret (sE.r ?_)
    unfold rm
    rw[aF hn,aF (fun q=>e2 (beq_iff_eq.2 q))]
theorem aSY {K:Nat} {t:fU} {n:Nat} (hn:n≤10000):cR (F82 K (ltr t) (n:Int)) (fun v=>v=Lib.repeatL (ltr t) n):=by
 have hl:(ltr t).length=1:=by unfold ltr;split <;> rfl
 unfold F82
 rw[aH (by rw[hl];simp;omega)]
 exact ⟨_,rfl,by rw[Int.toNat_natCast]⟩
theorem aKo (t:fU) (n:Nat):(Lib.repeatL (ltr t) n).length=n:=by
 rw[Lib.repeatL_length]
 have hl:(ltr t).length=1:=by unfold ltr;split <;> rfl
 rw[hl];omega
theorem aSZ {K:Nat} {s:wO} {b:Bytes} (h:s.jH.length+b.length≤100000000):cR (F81 K s b) (fun v=>v.2.2.jH=s.jH++b):=by
 refine cR.of ?_
 unfold F81
 refine bL.call (P:=fun v=>v.jH=s.jH) ⟨_,rfl,rfl⟩ (fun v hv=>?_)
 refine bL.bW (cP (by rw[hv];omega)) (bL.bX ?_)
 refine bL.ret (sE.l ?_)
 show v.jH++b=_
 rw[hv]
def eL (l:List fE):Bytes:=l.flatMap fun x=>Lib.repeatL (ltr x.cO) (rn x.cO)
def jT:List fE→Nat
 | []=>0
 | x::r=>rn x.cO+jT r
theorem lG:∀ l:List fE,(eL l).length=jT l
 | []=>rfl
 | x::r=>by
   have:=lG r
   unfold eL at *
   rw[List.flatMap_cons,aD,aKo,this,jT]
theorem mL:∀ l:List fE,jT l≤10000 * l.length
 | []=>by simp [jT]
 | x::r=>by rw[jT,List.length_cons];have:=mL r;have:=aCb x.cO;omega
theorem aCd:∀ a b:List fE,jT (a++b)=jT a+jT b
 | [],b=>by simp [jT]
 | x::a,b=>by rw[List.cons_append,jT,jT,aCd a b];omega
theorem aAx (a b:List fE):eL (a++b)=eL a++eL b:=by unfold eL;rw[List.flatMap_append]
theorem aI4 {l:List fE} {n:Nat} (h:n<l.length):eL (l.take (n+1))=eL (l.take n)++Lib.repeatL (ltr (l.getD n default).cO) (rn (l.getD n default).cO):=by
 rw[eP default h,aAx];simp [eL]
theorem lU {K:Nat} {l:List fE} (hK:100000<K) (hl:l.length≤1000):cR (F36 K l) (fun v=>v=eL l):=by
 refine cR.of ?_
 unfold F36
 refine bL.bZ (fun v:Bool × List UInt8=>v.2=eL l) (bL.bN (bL.c7 ?_)) (fun v hv=>?_)
 ·refine bL.loop (fun t:Bool × List UInt8 × Int=>0≤t.2.2∧t.2.2≤l.length∧t.2.1=eL (l.take t.2.2.toNat)) (fun t=>(l.length - t.2.2).toNat) ⟨by simp,by simp,rfl⟩ (by dsimp only;omega) ?_
  rintro ⟨a,o,t⟩ ⟨g1,g2,g3⟩
  dsimp only at g1 g2 g3 ⊢
  obtain ⟨n,rfl⟩:=aK g1
  rw[Int.toNat_natCast] at g3
  have ho:o.length≤10000000:=by
   rw[g3,lG]
   have:=mL (l.take n)
   rw[aS] at this;omega
  simp (disch:=omega) only[wr,Int.ofNat_eq_natCast]
  refine bL.bO (bL.ite (fun e=>?_) (fun e=>?_))
  ·simp only[aB] at e
   have hn:n<l.length:=by omega
   have kU:=aI4 hn
   rw[Int.toNat_natCast]
   generalize (l.getD n default).cO=ty at kU
   refine bL.bZ (fun v:Bool × List UInt8=>v.2=eL (l.take (n+1))) (bL.bN (bL.bW (bT (by omega)) (bL.bX ?_))) (fun v hv=>by refine bL.ret (sE.r ?_);exact ⟨⟨by dsimp only;omega,by dsimp only;omega,by dsimp only;rw[show ((n:Int)+1).toNat=n+1 by omega];exact hv⟩,by dsimp only;omega⟩)
   refine bL.cJ (by decide) aSX ?_
   rintro _ rfl
   refine bL.cJ (by decide) aBf ?_
   rintro _ rfl
   rw[aJA]
   refine bL.cJ (by decide) (aSY (aCb ty)) ?_
   rintro _ rfl
   have:=aCb ty
   refine bL.call (aSZ (by rw[aKo];show o.length+_≤_;omega)) (fun v hv=>?_)
   refine bL.ret (sE.r ?_)
   show v.2.2.jH=_
   rw[hv,kU,← g3]
  ·simp only[aB] at e
   refine bL.ret (sE.l (sE.l ?_))
   show o=_
   rw[g3,List.take_of_length_le (by omega)]
 ·refine bL.call (P:=fun r=>r=eL l) ⟨_,rfl,hv⟩ ?_
  rintro _ rfl
  refine bL.ret (sE.l ?_);rfl
def lV (m:iT):Bytes:=eL m.cN++(if m.eY.bR≠0 then [62,105] else [62])
theorem aBm {K:Nat} {m:iT} (hK:100000<K) (hl:m.cN.length≤1000):cR (F39 K m) (fun v=>v=lV m):=by
 have hb:=mL m.cN
 rw[← lG] at hb
 refine cR.of ?_
 unfold F39
 refine bL.cJ (by decide) (lU hK hl) ?_
 rintro _ rfl
 refine bL.cJ (by decide) (P:=fun v=>v=lV m) (cR.of ?_) ?_
 ·unfold F86 lV
  refine bL.ite (fun e=>bL.bW (cP ?_) (bL.bX ?_)) (fun e=>bL.bW (cP ?_) (bL.bX ?_))
  ·simp only[List.length_cons,List.length_nil];omega
  ·refine bL.ret (sE.l ?_)
   rw[aH (bne_iff_ne.1 e)]
  ·simp only[List.length_cons,List.length_nil];omega
  ·refine bL.ret (sE.l ?_)
   rw[aF (fun q=>e (bne_iff_ne.2 q))]
 ·rintro _ rfl
  refine bL.ret (sE.l ?_);rfl
theorem aKp {K:Nat} {l:List fE} (hK:100000<K) (hl:l.length≤1000):cR (F38 K l) (fun v=>v.length=jT l):=by
 refine cR.of ?_
 unfold F38
 refine bL.bZ (fun v:List Int=>v.length=jT l) (bL.bN (bL.c7 ?_)) (fun v hv=>by refine bL.ret (sE.l ?_);exact hv)
 refine bL.loop (fun t:List Int × Int=>0≤t.2∧t.2≤l.length∧t.1.length=jT (l.take t.2.toNat)) (fun t=>(l.length - t.2).toNat) ⟨by simp,by simp,rfl⟩ (by dsimp only;omega) ?_
 rintro ⟨o,t⟩ ⟨g1,g2,g3⟩
 dsimp only at g1 g2 g3 ⊢
 obtain ⟨n,rfl⟩:=aK g1
 rw[Int.toNat_natCast] at g3
 have ho:o.length≤10000000:=by
  rw[g3]
  have:=mL (l.take n)
  rw[aS] at this;omega
 simp (disch:=omega) only[wr,Int.ofNat_eq_natCast]
 refine bL.bO (bL.ite (fun e=>?_) (fun e=>?_))
 ·simp only[aB] at e
  have hn:n<l.length:=by omega
  have kU:jT (l.take (n+1))=jT (l.take n)+rn (l.getD n default).cO:=by rw[eP default hn,aCd];simp [jT]
  rw[Int.toNat_natCast]
  generalize l.getD n default=x at kU
  have hr:=aCb x.cO
  refine bL.bZ (fun v:List Int=>v.length=jT (l.take (n+1))) (bL.bN (bL.bW (bT (by omega)) (bL.bX (bL.call aBf ?_)))) (fun v hv=>by refine bL.ret (sE.r ?_);exact ⟨⟨by dsimp only;omega,by dsimp only;omega,by dsimp only;rw[show ((n:Int)+1).toNat=n+1 by omega];exact hv⟩,by dsimp only;omega⟩)
  rintro _ rfl
  refine bL.bZ (fun v:List Int=>v.length=o.length+rn x.cO) (bL.bN (bL.c7 ?_)) (fun v hv=>by refine bL.ret (sE.r ?_);omega)
  rw[aJA]
  refine bL.loop (fun s:List Int × Int=>0≤s.2∧s.2≤rn x.cO∧(s.1.length:Int)=o.length+s.2) (fun s=>(rn x.cO - s.2).toNat) ⟨by simp,by simp,by simp⟩ (by dsimp only;omega) ?_
  rintro ⟨p,i⟩ ⟨k1,k2,k3⟩
  dsimp only at k1 k2 k3 ⊢
  simp (disch:=omega) only[wr,Int.ofNat_eq_natCast]
  refine bL.bO (bL.ite (fun e=>?_) (fun e=>?_))
  ·simp only[aB] at e
   refine bL.bZ (fun v:List Int=>(v.length:Int)=o.length+i+1) (bL.bN (bL.bO (bL.dI ?_ (fun z=>bL.bW (cP ?_) (bL.bX ?_))))) (fun v hv=>by refine bL.ret (sE.r ?_);exact ⟨⟨by dsimp only;omega,by dsimp only;omega,by dsimp only;omega⟩,by dsimp only;omega⟩)
   ·exact T0
   ·simp only[List.length_singleton];omega
   ·refine bL.ret (sE.r ?_)
    rw[aD,List.length_singleton];omega
  ·simp only[aB] at e
   refine bL.ret (sE.l (sE.l ?_))
   show p.length=_
   omega
 ·simp only[aB] at e
  refine bL.ret (sE.l (sE.l ?_))
  show o.length=_
  rw[g3,List.take_of_length_le (by omega)]
theorem aP7 {K:Nat} {l:List fE} (hK:100000<K) (hl:l.length≤1000):cR (aM2 K l) (fun v=>v.length=jT l):=aKp hK hl
end Go.Proofs.YtdbfbedholdjaaaGreat

namespace Go.Proofs.YtdbfbedholdjaaaGreat
open Go Go.Dl
variable [dK]
set_option maxRecDepth 100000
set_option maxHeartbeats 8000000
theorem aCe {u:cM} {d:Int} (h:0≤d∧d<u.bM.length):kd u d=(dc u d).bR:=by unfold kd;rw[aF (by omega)]
theorem Wf.len' {u:cM} (hw:Wf u):u.bM.length≤12:=by
 by_cases h:u.bM.length≤12
 ·exact h
 ·have:=(hw 12 ⟨by omega,by omega⟩).lim
  omega
theorem Wf.sz {u:cM} (hw:Wf u) (d:Int):Sz8 (dc u d):=by
 by_cases h:d.toNat<u.bM.length
 ·exact (hw d.toNat ⟨by omega,by omega⟩).sz
 ·rw[dc,aC4 h]
  exact ⟨by decide,by decide,by decide,fun m hm=>by cases hm⟩
theorem Wf.all {u:cM} (hw:Wf u):∀ d∈u.bM,Sz8 d:=tQ (d:=default) fun i hi=>hw.sz i
def pv (l:List gX):List fE:=l.flatMap fun d=>if d.bR=3 then d.cH else []
theorem zO:∀ {l:List gX},(∀ d∈l,Sz8 d)→(pv l).length≤8 * l.length
 | [],_=>by simp [pv]
 | x::r,h=>by
   have:=zO (l:=r) fun d hd=>h d (aT _ hd)
   have hx:=(h x (bH ..)).v
   unfold pv at *
   rw[List.flatMap_cons,aD,List.length_cons]
   split
   ·omega
   ·simp only[List.length_nil];omega
theorem aM6 {l:List gX} {n:Nat} (h:n<l.length):pv (l.take (n+1))=pv (l.take n)++(if (l.getD n default).bR=3 then (l.getD n default).cH else []):=by
 rw[eP default h];simp [pv]
theorem vV (u:cM) (a b:List Int):varsOf u (a++b)=varsOf u a++varsOf u b:=by unfold varsOf;rw[List.flatMap_append]
theorem aKq {K:Nat} {u:cM} (hK:100000<K) (hw:Wf u):cR (F55 K u) (fun v=>v.length≤12∧(∀ x∈v,kd u x=3)∧varsOf u v=pv u.bM):=by
 have hl:=hw.len'
 refine cR.of ?_
 unfold F55
 refine bL.bZ (fun v:List Int=>v.length≤12∧(∀ x∈v,kd u x=3)∧varsOf u v=pv u.bM) (bL.bN (bL.c7 ?_)) (fun v hv=>by refine bL.ret (sE.l ?_);exact hv)
 refine bL.loop (fun t:List Int × Int=>0≤t.2∧t.2≤u.bM.length∧(t.1.length:Int)≤t.2∧(∀ x∈t.1,kd u x=3)∧varsOf u t.1=pv (u.bM.take t.2.toNat)) (fun t=>(u.bM.length - t.2).toNat) ⟨by simp,by simp,by simp,fun x hx=>(by cases hx),rfl⟩ (by dsimp only;omega) ?_
 rintro ⟨o,t⟩ ⟨g1,g2,g3,g4,g5⟩
 dsimp only at g1 g2 g3 g4 g5 ⊢
 obtain ⟨n,rfl⟩:=aK g1
 rw[Int.toNat_natCast] at g5
 simp (disch:=omega) only[wr,Int.ofNat_eq_natCast]
 refine bL.bO (bL.ite (fun e=>?_) (fun e=>?_))
 ·simp only[aB] at e
  have hn:n<u.bM.length:=by omega
  have kU:=aM6 hn
  refine bL.bZ (fun v:List Int=>(v.length:Int)≤n+1∧(∀ x∈v,kd u x=3)∧varsOf u v=pv (u.bM.take (n+1))) (bL.bN (bL.call (uC (by decide)) ?_)) (fun v hv=>by refine bL.ret (sE.r ?_);exact ⟨⟨by dsimp only;omega,by dsimp only;omega,by dsimp only;omega,hv.2.1,by dsimp only;rw[show ((n:Int)+1).toNat=n+1 by omega];exact hv.2.2⟩,by dsimp only;omega⟩)
  rintro _ rfl
  have hk:=aCe (u:=u) (d:=n) ⟨by omega,by omega⟩
  refine bL.ite (fun e2=>bL.bW (cP ?_) (bL.bX ?_)) (fun e2=>?_)
  ·simp only[List.length_singleton];omega
  ·have e2:=beq_iff_eq.1 e2
   refine bL.ret (sE.r ?_)
   refine ⟨by rw[aD,List.length_singleton];omega,fun x hx=>?_,?_⟩
   ·rcases aX.1 hx with hx | hx
    ·exact g4 x hx
    ·rw[aL.1 hx];exact e2
   ·rw[vV,g5,kU,aH (by rw[← e2,hk];rfl)]
    simp [varsOf]
  ·have e2:¬ kd u n=3:=fun q=>e2 (beq_iff_eq.2 q)
   refine bL.ret (sE.r ?_)
   refine ⟨by omega,g4,?_⟩
   rw[g5,kU,aF (by rw[hk] at e2;exact e2)];simp
 ·simp only[aB] at e
  refine bL.ret (sE.l (sE.l ?_))
  refine ⟨by show o.length≤12;omega,g4,?_⟩
  rw[g5,List.take_of_length_le (by omega)]
theorem aBn {K:Nat} {u:cM} (hK:100000<K) (hw:Wf u):cR (F37 K u) (fun v=>v=pv u.bM):=by
 refine cR.of ?_
 unfold F37
 refine bL.call (aKq hK hw) (fun r hr=>?_)
 obtain ⟨h1,h2,h3⟩:=hr
 refine bL.bZ (fun v:List fE=>v=pv u.bM) (bL.bN (bL.c7 ?_)) (fun v hv=>by refine bL.ret (sE.l ?_);exact hv)
 refine bL.loop (fun t:List fE × Int=>0≤t.2∧t.2≤r.length∧(t.1.length:Int)≤8 * t.2∧t.1=varsOf u (r.take t.2.toNat)) (fun t=>(r.length - t.2).toNat) ⟨by simp,by simp,by simp,rfl⟩ (by dsimp only;omega) ?_
 rintro ⟨o,t⟩ ⟨g1,g2,g3,g4⟩
 dsimp only at g1 g2 g3 g4 ⊢
 obtain ⟨n,rfl⟩:=aK g1
 rw[Int.toNat_natCast] at g4
 simp (disch:=omega) only[wr,Int.ofNat_eq_natCast]
 refine bL.bO (bL.ite (fun e=>?_) (fun e=>?_))
 ·simp only[aB] at e
  have hn:n<r.length:=by omega
  have hx:=gA (h2 _ (c9 (d:=default) hn)) (by decide)
  have hv:=(hw.sz (r.getD n default)).v
  have kU:varsOf u (r.take (n+1))=varsOf u (r.take n)++(dc u (r.getD n default)).cH:=by
   rw[eP default hn,vV];simp [varsOf]
  rw[Int.toNat_natCast]
  refine bL.bZ (fun v:List fE=>(v.length:Int)≤8 * n+8∧v=varsOf u (r.take (n+1))) (bL.bN (bL.bW (bT (by omega)) (bL.bX (bL.bW (bT hx) (bL.bX (bL.bO (bL.bW (cP ?_) (bL.bX ?_)))))))) (fun v hv=>by refine bL.ret (sE.r ?_);exact ⟨⟨by dsimp only;omega,by dsimp only;omega,by dsimp only;omega,by dsimp only;rw[show ((n:Int)+1).toNat=n+1 by omega];exact hv.2⟩,by dsimp only;omega⟩)
  ·show (o.length+(dc u (r.getD n default)).cH.length) * 80≤_
   omega
  ·refine bL.ret (sE.r ?_)
   refine ⟨?_,?_⟩
   ·show ((o++(dc u (r.getD n default)).cH).length:Int)≤_
    rw[aD];omega
   ·rw[kU,← g4]
 ·simp only[aB] at e
  refine bL.ret (sE.l (sE.l ?_))
  show o=_
  rw[g4,List.take_of_length_le (by omega),h3]
def aFH (d:gX):Nat:=if d.bR=2 then d.bQ.countP (fun m=>!m.eQ) else if d.bR=3 then 1 else 0
def tV:List gX→Nat
 | []=>0
 | d::r=>aFH d+tV r
theorem aHp:∀ a b:List gX,tV (a++b)=tV a+tV b
 | [],b=>by simp [tV]
 | x::a,b=>by rw[List.cons_append,tV,tV,aHp a b];omega
theorem aS0 {l:List gX} {n:Nat} (h:n<l.length):tV (l.take (n+1))=tV (l.take n)+aFH (l.getD n default):=by
 rw[eP default h,aHp];simp [tV]
def Cd (u:cM) (w:dR):Prop:=w.dJ<0∨Vw u w
theorem aKr {K:Nat} {u:cM} (hK:100000<K) (hw:Wf u):cR (F43 K u) (fun v=>v.length=tV u.bM∧v.length≤100∧∀ w∈v,Cd u w):=by
 have hl:=hw.len'
 refine cR.of ?_
 unfold F43
 refine bL.bZ (fun v:List dR × List dR=>v.1.length+v.2.length=tV u.bM∧v.1.length+v.2.length≤100∧(∀ w∈v.1,Cd u w)∧∀ w∈v.2,Cd u w) (bL.bN (bL.c7 ?_)) (fun v hv=>?_)
 ·refine bL.loop (fun t:List dR × List dR × Int=>0≤t.2.2∧t.2.2≤u.bM.length∧t.1.length+t.2.1.length=tV (u.bM.take t.2.2.toNat)∧(t.1.length+t.2.1.length:Int)≤7 * t.2.2∧(∀ w∈t.1,Cd u w)∧∀ w∈t.2.1,Cd u w) (fun t=>(u.bM.length - t.2.2).toNat) ⟨by simp,by simp,rfl,by simp,fun x hx=>(by cases hx),fun x hx=>(by cases hx)⟩ (by dsimp only;omega) ?_
  rintro ⟨a,b,t⟩ ⟨g1,g2,g3,g4,g5,g6⟩
  dsimp only at g1 g2 g3 g4 g5 g6 ⊢
  obtain ⟨n,rfl⟩:=aK g1
  rw[Int.toNat_natCast] at g3
  simp (disch:=omega) only[wr,Int.ofNat_eq_natCast]
  refine bL.bO (bL.ite (fun e=>?_) (fun e=>?_))
  ·simp only[aB] at e
   have hn:n<u.bM.length:=by omega
   have kU:=aS0 hn
   have hsz:=(hw.sz n).m
   have hdn:dc u n=u.bM.getD n default:=by rw[dc,Int.toNat_natCast]
   rw[hdn] at hsz
   rw[Int.toNat_natCast]
   refine bL.bZ (fun v:List dR × List dR=>v.1.length+v.2.length=tV (u.bM.take (n+1))∧(v.1.length+v.2.length:Int)≤7 * n+7∧(∀ w∈v.1,Cd u w)∧∀ w∈v.2,Cd u w) (bL.bN (bL.bW (bT (by omega)) (bL.bX (bL.bO ?_)))) (fun v hv=>by refine bL.ret (sE.r ?_);exact ⟨⟨by dsimp only;omega,by dsimp only;omega,by dsimp only;rw[show ((n:Int)+1).toNat=n+1 by omega];exact hv.1,by dsimp only;omega,hv.2.2.1,hv.2.2.2⟩,by dsimp only;omega⟩)
   refine bL.bZ (fun v:List dR × List dR=>v.1.length+v.2.length=tV (u.bM.take (n+1))∧(v.1.length+v.2.length:Int)≤7 * n+7∧(∀ w∈v.1,Cd u w)∧∀ w∈v.2,Cd u w) (bL.bN (bL.ite (fun e2=>?_) (fun e2=>bL.ite (fun e3=>?_) (fun e3=>?_)))) (fun v hv=>by refine bL.ret (sE.r ?_);exact hv)
   ·have e2:=beq_iff_eq.1 e2
    have hone:aFH (u.bM.getD n default)=(u.bM.getD n default).bQ.countP (fun m=>!m.eQ):=by unfold aFH;rw[aH e2]
    refine bL.bO (bL.bO ?_)
    refine bL.bZ (fun v:List dR=>v.length=a.length+aFH (u.bM.getD n default)∧(v.length:Int)≤a.length+6∧∀ w∈v,Cd u w) (bL.bN (bL.c7 ?_)) (fun v hv=>?_)
    ·rw[hone]
     have hvw:∀ i:Nat,i<(u.bM.getD n default).bQ.length→Vw u ⟨n,i⟩:=fun i hi=>⟨⟨by show (0:Int)≤n;omega,by show (n:Int)<_;omega⟩,by show (0:Int)≤i;omega,by show (i:Int)<((dc u n).bQ.length:Int);rw[hdn];omega⟩
     generalize (u.bM.getD n default).bQ=ms at hsz hvw
     refine bL.loop (fun s:List dR × Int=>0≤s.2∧s.2≤ms.length∧s.1.length=a.length+(ms.take s.2.toNat).countP (fun m=>!m.eQ)∧(s.1.length:Int)≤a.length+s.2∧∀ w∈s.1,Cd u w) (fun s=>(ms.length - s.2).toNat) ⟨by simp,by simp,by simp,by simp,g5⟩ (by dsimp only;omega) ?_
     rintro ⟨p,i⟩ ⟨k1,k2,k3,k4,k5⟩
     dsimp only at k1 k2 k3 k4 k5 ⊢
     obtain ⟨j,rfl⟩:=aK k1
     rw[Int.toNat_natCast] at k3
     simp (disch:=omega) only[wr,Int.ofNat_eq_natCast]
     refine bL.ite (fun e4=>?_) (fun e4=>?_)
     ·simp only[aB] at e4
      have hj:j<ms.length:=by omega
      have hct:(ms.take (j+1)).countP (fun m=>!m.eQ)=(ms.take j).countP (fun m=>!m.eQ)+(if (!(ms.getD j default).eQ)=true then 1 else 0):=by
       rw[eP default hj,List.countP_append,List.countP_singleton]
      rw[Int.toNat_natCast]
      refine bL.bZ (fun v:List dR=>v.length=a.length+(ms.take (j+1)).countP (fun m=>!m.eQ)∧(v.length:Int)≤a.length+j+1∧∀ w∈v,Cd u w) (bL.bN (bL.bW (bT (by omega)) (bL.bX (bL.bO (bL.ite (fun e5=>bL.bW (cP ?_) (bL.bX ?_)) (fun e5=>?_)))))) (fun v hv=>by refine bL.ret (sE.r ?_);exact ⟨⟨by dsimp only;omega,by dsimp only;omega,by dsimp only;rw[show ((j:Int)+1).toNat=j+1 by omega];exact hv.1,by dsimp only;omega,hv.2.2⟩,by dsimp only;omega⟩)
      ·simp only[List.length_singleton];omega
      ·rw[aH e5] at hct
       refine bL.ret (sE.r ?_)
       refine ⟨by rw[aD,List.length_singleton];omega,by rw[aD,List.length_singleton];omega,fun w hw=>?_⟩
       rcases aX.1 hw with hw | hw
       ·exact k5 w hw
       ·rw[aL.1 hw];exact .inr (hvw j hj)
      ·rw[aF e5] at hct
       refine bL.ret (sE.r ?_)
       exact ⟨by omega,by omega,k5⟩
     ·simp only[aB] at e4
      rw[List.take_of_length_le (by omega)] at k3
      refine bL.ret (sE.l (sE.l ?_))
      exact ⟨k3,by show (p.length:Int)≤_;omega,k5⟩
    ·refine bL.ret (sE.r ?_)
     refine ⟨?_,?_,hv.2.2,g6⟩
     ·show v.length+b.length=_
      omega
     ·show (v.length+b.length:Int)≤_
      omega
   ·have e3:=beq_iff_eq.1 e3
    have hone:aFH (u.bM.getD n default)=1:=by unfold aFH;rw[aF (by omega),aH e3]
    refine bL.bW (cP ?_) (bL.bX ?_)
    ·simp only[List.length_singleton];omega
    ·refine bL.ret (sE.r ?_)
     refine ⟨?_,?_,g5,fun w hw=>?_⟩
     ·show a.length+(b++[_]).length=_
      rw[aD,List.length_singleton];omega
     ·show (a.length+(b++[_]).length:Int)≤_
      rw[aD,List.length_singleton];omega
     ·rcases aX.1 hw with hw | hw
      ·exact g6 w hw
      ·rw[aL.1 hw];exact .inl (by show (-1:Int)<0;omega)
   ·have hone:aFH (u.bM.getD n default)=0:=by unfold aFH;rw[aF (fun q=>e2 (beq_iff_eq.2 q)),aF (fun q=>e3 (beq_iff_eq.2 q))]
    refine bL.ret (sE.r ?_)
    exact ⟨by show a.length+b.length=_;omega,by show (a.length+b.length:Int)≤_;omega,g5,g6⟩
  ·simp only[aB] at e
   rw[List.take_of_length_le (by omega)] at g3
   refine bL.ret (sE.l (sE.l ?_))
   exact ⟨g3,by show a.length+b.length≤100;omega,g5,g6⟩
 ·obtain ⟨v1,v2⟩:=v
  obtain ⟨h1,h2,h3,h4⟩:=hv
  dsimp only at h1 h2 h3 h4 ⊢
  refine bL.bW (cP (by omega)) (bL.bX ?_)
  refine bL.ret (sE.l ?_)
  refine ⟨by rw[aD];exact h1,by rw[aD];exact h2,fun w hw=>?_⟩
  rcases aX.1 hw with hw | hw
  ·exact h3 w hw
  ·exact h4 w hw
theorem aS1 {K:Nat} {l:List dR} {w:dR} (hK:100000<K) (hl:l.length≤1000):cR (F57 K l w) (fun _=>True):=by
 refine cR.of ?_
 unfold F57
 refine bL.dI (bL.bN (bL.c7 ?_)) (fun _=>by exact T0)
 refine bL.kS l.length (by omega) (fun i hi=>?_) ?_
 ·simp (disch:=omega) only[wr,Int.ofNat_eq_natCast]
  refine bL.bO (bL.dV (by simp only[aB];omega) ?_)
  refine bL.dI (bL.bN (bL.bW (bT (by omega)) (bL.bX ?_))) (fun _=>by refine bL.ret (sE.r ?_);rfl)
  exact T0
 ·simp (disch:=omega) only[wr,Int.ofNat_eq_natCast]
  refine bL.bO (bL.dN (by simp only[aB];exact Int.lt_irrefl _) ?_)
  exact T0
theorem aFI {K:Nat} {u:cM} {w:dR} (hK:100000<K) (hw:Wf u):cR (F19 K u w) (fun _=>True):=by
 refine cR.of ?_
 unfold F19
 refine bL.call (aKr hK hw) (fun v hv=>?_)
 refine bL.cJ (by decide) (aS1 hK (by omega)) (fun _ _=>?_)
 exact T0
theorem aS2 {K:Nat} {u:cM} {w:dR} (hK:100000<K) (h:Sm u) (hw:Wf u) (hc:Cd u w):cR (F44 K u w) (fun _=>True):=by
 refine cR.of ?_
 unfold F44
 refine bL.ite (fun e=>by exact T0) (fun e=>?_)
 simp only[aB] at e
 have hv:Vw u w:=by
  rcases hc with hc | hc
  ·exact absurd hc e
  ·exact hc
 have hp:=(hw.sz w.c6).p _ (c9 (d:=default) (show w.dJ.toNat<(dc u w.c6).bQ.length by have:=hv.2;omega))
 refine bL.bW (bT hv.1) (bL.bW (bT hv.2) (bL.bX (bL.bO (bL.bO (bL.bO ?_)))))
 refine bL.cJ (by decide) (uG hK h) (fun _ _=>?_)
 refine bL.cJ (by decide) (lU hK (aR hp.1 (by decide))) (fun _ _=>?_)
 refine bL.cJ (by decide) (lU hK (aR hp.2 (by decide))) (fun _ _=>?_)
 exact T0
end Go.Proofs.YtdbfbedholdjaaaGreat

namespace Go.Proofs.YtdbfbedholdjaaaGreat
open Go Go.Dl
variable [dK]
set_option maxRecDepth 100000
set_option maxHeartbeats 8000000
theorem aI5 {m:Nat}:∀ {l:List Nat},(∀ x∈l,x≤m)→bl.mx l≤m
 | [],_=>Nat.zero_le _
 | x::r,h=>by
   have h1:=h x (bH ..)
   have h2:=aI5 (l:=r) fun y hy=>h y (aT _ hy)
   show max x (bl.mx r)≤m
   omega
theorem Wf.sH {u:cM} (hw:Wf u):bl.sH u≤8:=aI5 fun x hx=>by
 obtain ⟨d,hd,rfl⟩:=List.mem_map.1 hx
 exact (hw.all d hd).v
theorem Wf.nZ {u:cM} (hw:Wf u):bl.nZ u≤6:=aI5 fun x hx=>by
 obtain ⟨d,hd,rfl⟩:=List.mem_map.1 hx
 exact (hw.all d hd).m
theorem Wf.chain {u:cM} (hw:Wf u) (d:Int):(chain u d).length≤12:=aR (mF u d) hw.len'
theorem xN {K:Nat} {u:cM} {d:Int} (hK:100000<K) (h:Sm u) (hw:Wf u) (hk:kd u d=2):cR (F52 K u d) (fun v=>v=rS u d∧v.length≤96):=by
 have hc:=hw.chain d
 have hm:=hw.sH
 have hmul:(chain u d).length * bl.sH u≤12 * 8:=Nat.mul_le_mul hc hm
 refine cR.of ?_
 unfold F52
 refine bL.call xP ?_
 rintro _ rfl
 refine bL.dV hk ?_
 refine bL.call (qZ hK h) ?_
 rintro _ rfl
 refine bL.dV ⟨fun x hx=>bT (iJ hx),by omega,by omega⟩ ?_
 refine bL.ret (sE.l ?_)
 refine ⟨?_,?_⟩
 ·unfold rS
  rw[aF (by omega)];rfl
 ·refine aR (bl.tX (fun x=>(u.bM.getD x.toNat default).cH) (bl.sH u) (fun x=>bl.aI7 u x) (chain u d).reverse) ?_
  rw[List.length_reverse];exact hmul
def qY (u:cM) (d:Int):List Bytes:=bl.ns u (chain u d).reverse
theorem aJH {K:Nat} {u:cM} {d:Int} (hK:100000<K) (h:Sm u) (hw:Wf u):cR (F49 K u d) (fun v=>v=qY u d∧v.length≤72):=by
 have hc:=hw.chain d
 have hm:=hw.nZ
 have hmul:(chain u d).length * bl.nZ u≤12 * 6:=Nat.mul_le_mul hc hm
 refine cR.of ?_
 unfold F49
 refine bL.call (qZ hK h) ?_
 rintro _ rfl
 refine bL.dV ⟨fun x hx=>bT (iJ hx),by omega,by omega,by omega⟩ ?_
 refine bL.ret (sE.l ?_)
 refine ⟨rfl,?_⟩
 refine aR (bl.tX (fun x=>bl.new (u.bM.getD x.toNat default).bQ) (bl.nZ u) (fun x=>aR (bl.aEj _) (bl.sJ u x)) (chain u d).reverse) ?_
 rw[List.length_reverse];exact hmul
def plc:List fE→Bytes→Int→Int
 | [],_,_=>-1
 | x::r,s,a=>if x.cD=s∧0<rn x.cO then a else plc r s (a+rn x.cO)
theorem aJG {K:Nat} {l:List fE} {s:Bytes} (hK:100000<K) (hl:l.length≤1000):cR (F51 K l s) (fun v=>v=plc l s 0):=by
 refine cR.of ?_
 unfold F51
 refine bL.bZ (fun _=>plc l s 0 = -1) (bL.bN (bL.c7 ?_)) (fun _ h=>by refine bL.ret (sE.l ?_);exact h.symm)
 refine bL.loop (fun t:Int × Int=>0≤t.2∧t.2≤l.length∧0≤t.1∧t.1≤10000 * t.2∧plc (l.drop t.2.toNat) s t.1=plc l s 0) (fun t=>(l.length - t.2).toNat) ⟨by simp,by simp,by simp,by simp,rfl⟩ (by dsimp only;omega) ?_
 rintro ⟨a,t⟩ ⟨g1,g2,g3,g4,g5⟩
 dsimp only at g1 g2 g3 g4 g5 ⊢
 obtain ⟨n,rfl⟩:=aK g1
 rw[Int.toNat_natCast] at g5
 simp (disch:=omega) only[wr,Int.ofNat_eq_natCast]
 refine bL.bO (bL.ite (fun e=>?_) (fun e=>?_))
 ·simp only[aB] at e
  have hn:n<l.length:=by omega
  rw[lF default hn,plc] at g5
  rw[Int.toNat_natCast]
  generalize l.getD n default=x at g5
  have hr:=aCb x.cO
  refine bL.bZ (fun v:Int=>0≤v∧v≤10000 * n+10000∧plc (l.drop (n+1)) s v=plc l s 0) (bL.bN (bL.bW (bT (by omega)) (bL.bX (bL.call aBf ?_)))) (fun v hv=>by refine bL.ret (sE.r ?_);exact ⟨⟨by dsimp only;omega,by dsimp only;omega,by dsimp only;omega,by dsimp only;omega,by dsimp only;rw[show ((n:Int)+1).toNat=n+1 by omega];exact hv.2.2⟩,by dsimp only;omega⟩)
  rintro _ rfl
  rw[aJA]
  refine bL.bO (bL.ite (fun e2=>?_) (fun e2=>bL.bO ?_))
  ·simp only[aC,beq_iff_eq,aB] at e2
   rw[aH ⟨e2.1,by omega⟩] at g5
   refine bL.ret (sE.l (sE.r (sE.r ?_)))
   exact g5
  ·rw[aF (fun q=>e2 (by simp [q.1,q.2]))] at g5
   rw[wr (by omega) (by omega)]
   refine bL.ret (sE.r ?_)
   exact ⟨by omega,by omega,g5⟩
 ·simp only[aB] at e
  rw[List.drop_eq_nil_of_le (by omega),plc] at g5
  refine bL.ret (sE.l (sE.l ?_))
  exact g5.symm
theorem aS3 {K:Nat} {u:cM} {d:Int} {s:Bytes} (hK:100000<K) (h:Sm u) (hw:Wf u):cR (F17 K u d s) (fun _=>True):=by
 refine cR.of ?_
 unfold F17
 refine bL.call (uC (by decide)) ?_
 rintro _ rfl
 refine bL.ite (fun e=>by exact T0) (fun e=>?_)
 simp only[aP,Bool.not_eq_false,beq_iff_eq] at e
 have hd:=gA e (by decide)
 have hv:=(hw.sz d).v
 refine bL.bW (bT hd) (bL.bX (bL.bO ?_))
 refine bL.call (aJG hK (show (dc u d).cH.length≤_ by omega)) (fun _ _=>?_)
 refine bL.ite (fun e=>by exact T0) (fun e=>?_)
 refine bL.call (aKq hK hw) (fun r hr=>?_)
 have hl:=hr.1
 refine bL.dI (bL.bN (bL.c7 ?_)) (fun _=>by exact T0)
 refine bL.loop (fun t:Int × Int=>0≤t.2∧t.2≤r.length) (fun t=>(r.length - t.2).toNat) ⟨by simp,by simp⟩ (by dsimp only;omega) ?_
 rintro ⟨a,t⟩ ⟨g1,g2⟩
 dsimp only at g1 g2 ⊢
 rw[show IntKind.i64.wrap (t+1)=t+1 from wr (by omega) (by omega)]
 refine bL.bO (bL.ite (fun e=>?_) (fun e=>by exact T0))
 simp only[aB,Int.ofNat_eq_natCast] at e
 have hx:=gA (hr.2.1 _ (c9 (d:=default) (show t.toNat<r.length by omega))) (by decide)
 have hxv:=(hw.sz (r.getD t.toNat default)).v
 refine bL.dI (bL.bN (bL.bW (bT ⟨g1,e⟩) (bL.bX (bL.bO (bL.ite (fun e2=>?_) (fun e2=>by exact T0)))))) (fun _=>by refine bL.ret (sE.r ?_);exact ⟨⟨by dsimp only;omega,by dsimp only;omega⟩,by dsimp only;omega⟩)
 refine bL.bW (bT hx) (bL.bX (bL.bO ?_))
 refine bL.call (lU hK (show (dc u (r.getD t.toNat default)).cH.length≤_ by omega)) (fun _ _=>bL.bO ?_)
 exact T0
theorem aS4 {K:Nat} {u:cM} {d:Int} {s:Bytes} (hK:100000<K) (h:Sm u) (hw:Wf u):cR (F90 K u d s) (fun _=>True):=by
 refine cR.of ?_
 unfold F90
 refine bL.iO (aBk (by omega) (by assumption)) ?_
 refine bL.ite (fun e=>by exact T0) (fun e=>?_)
 refine bL.call (aFI hK hw) (fun _ _=>?_)
 exact T0
theorem aP9 {K:Nat} {u:cM} {d:Int} (hK:100000<K) (h:Sm u) (hw:Wf u):cR (aIh K u d) (fun v=>v.length≤100∧∀ x∈v,0≤x∧x<u.bM.length):=by
 have hc:=hw.chain d
 refine cR.of ?_
 unfold aIh
 refine bL.call (qZ hK h) ?_
 rintro _ rfl
 refine bL.bZ (fun v:List Int=>v.length≤100∧∀ x∈v,0≤x∧x<u.bM.length) (bL.bN (bL.c7 ?_)) (fun v hv=>by refine bL.ret (sE.l ?_);exact hv)
 refine bL.loop (fun t:List Int × Int=>0≤t.2∧t.2≤(chain u d).length∧(t.1.length:Int)≤4 * t.2∧∀ x∈t.1,0≤x∧x<u.bM.length) (fun t=>((chain u d).length - t.2).toNat) ⟨by simp,by simp,by simp,fun x hx=>by cases hx⟩ (by dsimp only;omega) ?_
 rintro ⟨o,t⟩ ⟨g1,g2,g3,g4⟩
 dsimp only at g1 g2 g3 g4 ⊢
 simp (disch:=omega) only[wr,Int.ofNat_eq_natCast]
 refine bL.bO (bL.ite (fun e=>?_) (fun e=>by refine bL.ret (sE.l (sE.l ?_));exact ⟨by show o.length≤100;omega,g4⟩))
 simp only[aB] at e
 have hx:=iJ (c9 (d:=default) (show t.toNat<(chain u d).length by omega))
 have hf:=(hw.sz ((chain u d).getD t.toNat default)).f
 refine bL.bZ (fun v:List Int=>(v.length:Int)≤4 * t+4∧∀ x∈v,0≤x∧x<u.bM.length) (bL.bN (bL.bW (bT ⟨g1,e⟩) (bL.bX (bL.bW (bT hx) (bL.bX (bL.bO (bL.bO ?_))))))) (fun v hv=>by refine bL.ret (sE.r ?_);exact ⟨⟨by dsimp only;omega,by dsimp only;omega,by dsimp only;omega,hv.2⟩,by dsimp only;omega⟩)
 refine bL.bZ (fun v:List Int=>(v.length:Int)≤4 * t+4∧∀ x∈v,0≤x∧x<u.bM.length) (bL.bN (bL.c7 ?_)) (fun v hv=>by refine bL.ret (sE.r ?_);exact hv)
 change bL (iter K _ (o,0)) _
 refine bL.loop (fun s:List Int × Int=>0≤s.2∧s.2≤(dc u ((chain u d).getD t.toNat default)).cK.length∧(s.1.length:Int)≤4 * t+s.2∧∀ x∈s.1,0≤x∧x<u.bM.length) (fun s=>((dc u ((chain u d).getD t.toNat default)).cK.length - s.2).toNat) ⟨by simp,by simp,by dsimp only;omega,g4⟩ (by dsimp only;omega) ?_
 rintro ⟨p,i⟩ ⟨k1,k2,k3,k4⟩
 dsimp only at k1 k2 k3 k4 ⊢
 refine bL.ite (fun e2=>?_) (fun e2=>by refine bL.ret (sE.l (sE.l ?_));exact ⟨by show (p.length:Int)≤_;omega,k4⟩)
 have e2:i<(dc u ((chain u d).getD t.toNat default)).cK.length:=of_decide_eq_true e2
 rw[show IntKind.i64.wrap (i+1)=i+1 from wr (by omega) (by omega)]
 refine bL.bZ (fun v:List Int=>(v.length:Int)≤4 * t+i+1∧∀ x∈v,0≤x∧x<u.bM.length) (bL.bN (bL.bW (bT ⟨k1,e2⟩) (bL.bX ?_))) (fun v hv=>by refine bL.ret (sE.r ?_);exact ⟨⟨by dsimp only;omega,by dsimp only;omega,by dsimp only;omega,hv.2⟩,by dsimp only;omega⟩)
 refine bL.iO (q8 (by omega) (by assumption)) ?_
 refine bL.iO (xP) ?_
 refine bL.dA (fun _=>aE0 (by omega) (by omega)) (fun v _=>?_)
 refine bL.ite (fun e3=>bL.bW (cP ?_) (bL.bX ?_)) (fun e3=>?_)
 ·simp only[List.length_singleton];omega
 ·simp only[aC,beq_iff_eq] at e3
  refine bL.ret (sE.r ?_)
  refine ⟨by rw[aD,List.length_singleton];omega,fun x hx=>?_⟩
  rcases aX.1 hx with hx | hx
  ·exact k4 x hx
  ·rw[aL.1 hx];exact gA e3.1 (by decide)
 ·refine bL.ret (sE.r ?_)
  exact ⟨by omega,k4⟩
theorem aS5 {K:Nat} {l:List Int} (hl:l.length≤1000):cR (F89 K l) (fun v=>v.length=l.length∧∀ x∈v,x∈l):=by
 unfold F89
 rw[aH (by omega)]
 exact ⟨_,rfl,List.length_mergeSort ..,fun x hx=>List.mem_mergeSort.1 hx⟩
end Go.Proofs.YtdbfbedholdjaaaGreat
