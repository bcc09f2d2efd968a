/- No conditions. -/
import Derived.Test.YtdbfbedholdjaaaGreatPUE
set_option linter.unusedVariables false
set_option linter.unusedSimpArgs false
set_option linter.unusedSectionVars false
namespace Go.Proofs.YtdbfbedholdjaaaGreat
open Go Go.Dl
variable [dW]
set_option maxRecDepth 100000
set_option maxHeartbeats 8000000
def rm (t:fL):Int:=if t.bP=6∨t.bP=7 then 0 else if t.bP=4 then eX (IntKind.i64.wrap (t.fHi+1)) 0 else 1
def rn (t:fL):Nat:=(wB (rm t) 10000).toNat
def ltr (t:fL):Bytes:=if t.bP=5 then [114] else [105]
theorem aTE (t:fL):0≤rm t:=by
 unfold rm eX
 split
 ·omega
 ·split
  ·split <;> omega
  ·omega
theorem aP5 (t:fL):wB (rm t) 10000=(rn t:Int):=by
 have:=aTE t
 unfold rn wB
 split <;> omega
theorem aH4 (t:fL):rn t≤10000:=by
 have:=aTE t
 unfold rn wB
 split <;> omega
theorem aSA {K:Nat} {t:fL}:dA (F83 K t) (fun v=>v=ltr t):=by
 refine dA.of ?_
 unfold F83 ltr
 refine bI.ite (fun e=>?_) (fun e=>?_)
 ·refine bI.ret (sE.l ?_)
  rw[aH (beq_iff_eq.1 e)]
 ·refine bI.ret (sE.l ?_)
  rw[aG (fun q=>e (beq_iff_eq.2 q))]
theorem aGm {K:Nat} {t:fL}:dA (F84 K t) (fun v=>v=rm t):=by
 refine dA.of ?_
 unfold F84
 refine bI.cP (fun _=>rm t=1) (bI.bJ ?_) (fun _ h=>by refine bI.ret (sE.l ?_);exact h.symm)
 refine bI.cP (fun b=>b=true↔t.bP=6∨t.bP=7) ?_ (fun b hb=>?_)
 ·refine bI.ite (fun _=>bI.ret (sE.r ?_)) (fun _=>bI.ret (sE.r ?_))
  all_goals simp only[beq_iff_eq] at *
  all_goals omega
 ·refine bI.ite (fun e=>?_) (fun e=>?_)
  ·refine bI.ret (sE.l (sE.r ?_))
   unfold rm
   rw[aH (hb.1 e)]
  ·have hn:¬ (t.bP=6∨t.bP=7):=fun q=>e (hb.2 q)
   refine bI.ite (fun e2=>?_) (fun e2=>?_)
   ·refine bI.ret (sE.l (sE.r ?_))
    unfold rm
    rw[aG hn,aH (beq_iff_eq.1 e2)]
   ·refine bI.ret (sE.r ?_)
    unfold rm
    rw[aG hn,aG (fun q=>e2 (beq_iff_eq.2 q))]
theorem aSB {K:Nat} {t:fL} {n:Nat} (hn:n≤10000):dA (F82 K (ltr t) (n:Int)) (fun v=>v=Lib.repeatL (ltr t) n):=by
 have hl:(ltr t).length=1:=by unfold ltr;split <;> rfl
 unfold F82
 rw[aH (by rw[hl];simp;omega)]
 exact ⟨_,rfl,by rw[Int.toNat_natCast]⟩
theorem aLj (t:fL) (n:Nat):(Lib.repeatL (ltr t) n).length=n:=by
 rw[Lib.repeatL_length]
 have hl:(ltr t).length=1:=by unfold ltr;split <;> rfl
 rw[hl];omega
theorem aSC {K:Nat} {s:zO} {b:Bytes} (h:s.kK.length+b.length≤100000000):dA (F81 K s b) (fun v=>v.2.2.kK=s.kK++b):=by
 refine dA.of ?_
 unfold F81
 refine bI.call (P:=fun v=>v.kK=s.kK) ⟨_,rfl,rfl⟩ (fun v hv=>?_)
 refine bI.bW (dX (by rw[hv];omega)) (bI.cD ?_)
 refine bI.ret (sE.l ?_)
 show v.kK++b=_
 rw[hv]
def iP (l:List fE):Bytes:=l.flatMap fun x=>Lib.repeatL (ltr x.cQ) (rn x.cQ)
def p9:List fE→Nat
 | []=>0
 | x::r=>rn x.cQ+p9 r
theorem sK:∀ l:List fE,(iP l).length=p9 l
 | []=>rfl
 | x::r=>by
   have:=sK r
   unfold iP at *
   rw[List.flatMap_cons,aE,aLj,this,p9]
theorem aCQ:∀ l:List fE,p9 l≤10000 * l.length
 | []=>by simp [p9]
 | x::r=>by rw[p9,List.length_cons];have:=aCQ r;have:=aH4 x.cQ;omega
theorem aH5:∀ a b:List fE,p9 (a++b)=p9 a+p9 b
 | [],b=>by simp [p9]
 | x::a,b=>by rw[List.cons_append,p9,p9,aH5 a b];omega
theorem aB7 (a b:List fE):iP (a++b)=iP a++iP b:=by unfold iP;rw[List.flatMap_append]
theorem aJI {l:List fE} {n:Nat} (h:n<l.length):iP (l.take (n+1))=iP (l.take n)++Lib.repeatL (ltr (l.getD n default).cQ) (rn (l.getD n default).cQ):=by
 rw[iO default h,aB7];simp [iP]
theorem xL {K:Nat} {l:List fE} (hK:100000<K) (hl:l.length≤1000):dA (F36 K l) (fun v=>v=iP l):=by
 refine dA.of ?_
 unfold F36
 refine bI.cP (fun v:Bool × List UInt8=>v.2=iP l) (bI.bJ (bI.dK ?_)) (fun v hv=>?_)
 ·refine bI.loop (fun t:Bool × List UInt8 × Int=>0≤t.2.2∧t.2.2≤l.length∧t.2.1=iP (l.take t.2.2.toNat)) (fun t=>(l.length - t.2.2).toNat) ⟨by simp,by simp,rfl⟩ (by dsimp only;omega) ?_
  rintro ⟨a,o,t⟩ ⟨g1,g2,g3⟩
  dsimp only at g1 g2 g3 ⊢
  obtain ⟨n,rfl⟩:=aJ g1
  rw[Int.toNat_natCast] at g3
  have ho:o.length≤10000000:=by
   rw[g3,sK]
   have:=aCQ (l.take n)
   rw[aU] at this;omega
  simp (disch:=omega) only[wr,Int.ofNat_eq_natCast]
  refine bI.bN (bI.ite (fun e=>?_) (fun e=>?_))
  ·simp only[aB] at e
   have hn:n<l.length:=by omega
   have tW:=aJI hn
   rw[Int.toNat_natCast]
   generalize (l.getD n default).cQ=ty at tW
   refine bI.cP (fun v:Bool × List UInt8=>v.2=iP (l.take (n+1))) (bI.bJ (bI.bW (bR (by omega)) (bI.cD ?_))) (fun v hv=>by refine bI.ret (sE.r ?_);exact ⟨⟨by dsimp only;omega,by dsimp only;omega,by dsimp only;rw[show ((n:Int)+1).toNat=n+1 by omega];exact hv⟩,by dsimp only;omega⟩)
   refine bI.cX (by decide) aSA ?_
   rintro _ rfl
   refine bI.cX (by decide) aGm ?_
   rintro _ rfl
   rw[aP5]
   refine bI.cX (by decide) (aSB (aH4 ty)) ?_
   rintro _ rfl
   have:=aH4 ty
   refine bI.call (aSC (by rw[aLj];show o.length+_≤_;omega)) (fun v hv=>?_)
   refine bI.ret (sE.r ?_)
   show v.2.2.kK=_
   rw[hv,tW,← g3]
  ·simp only[aB] at e
   refine bI.ret (sE.l (sE.l ?_))
   show o=_
   rw[g3,List.take_of_length_le (by omega)]
 ·refine bI.call (P:=fun r=>r=iP l) ⟨_,rfl,hv⟩ ?_
  rintro _ rfl
  refine bI.ret (sE.l ?_);rfl
def rE (m:hU):Bytes:=iP m.cV++(if m.fG.bP≠0 then [62,105] else [62])
theorem aLk {K:Nat} {m:hU} (hK:100000<K) (hl:m.cV.length≤1000):dA (F39 K m) (fun v=>v=rE m):=by
 have hb:=aCQ m.cV
 rw[← sK] at hb
 refine dA.of ?_
 unfold F39
 refine bI.cX (by decide) (xL hK hl) ?_
 rintro _ rfl
 refine bI.cX (by decide) (P:=fun v=>v=rE m) (dA.of ?_) ?_
 ·unfold F86 rE
  refine bI.ite (fun e=>bI.bW (dX ?_) (bI.cD ?_)) (fun e=>bI.bW (dX ?_) (bI.cD ?_))
  ·simp only[List.length_cons,List.length_nil];omega
  ·refine bI.ret (sE.l ?_)
   rw[aH (bne_iff_ne.1 e)]
  ·simp only[List.length_cons,List.length_nil];omega
  ·refine bI.ret (sE.l ?_)
   rw[aG (fun q=>e (bne_iff_ne.2 q))]
 ·rintro _ rfl
  refine bI.ret (sE.l ?_);rfl
theorem aFg.aB8:∀ (l l':List fE),l.length=l'.length→(∀ i:Nat,(i:Int)<l.length→(l.getD i default).cQ=(l'.getD i default).cQ)→iP l=iP l'
 | [],[],_,_=>rfl
 | [],_::_,h,_=>by simp at h
 | _::_,[],h,_=>by simp at h
 | x::r,y::r',h,hi=>by
   have h0:=hi 0 (by simp)
   simp only[List.getD_cons_zero] at h0
   have ih:=aFg.aB8 r r' (by simpa using h) (fun i hl=>by
    have:=hi (i+1) (by simp only[List.length_cons];omega)
    simpa only[List.getD_cons_succ] using this)
   unfold iP at *
   rw[List.flatMap_cons,List.flatMap_cons,h0,ih]
theorem aFg.sig {a b:hU} (h:aFg a b):rE a=rE b:=by
 unfold rE
 rw[aFg.aB8 _ _ h.1 h.2.2,h.2.1]
theorem aLl {K:Nat} {l:List fE} (hK:100000<K) (hl:l.length≤1000):dA (F38 K l) (fun v=>v.length=p9 l):=by
 refine dA.of ?_
 unfold F38
 refine bI.cP (fun v:List Int=>v.length=p9 l) (bI.bJ (bI.dK ?_)) (fun v hv=>by refine bI.ret (sE.l ?_);exact hv)
 refine bI.loop (fun t:List Int × Int=>0≤t.2∧t.2≤l.length∧t.1.length=p9 (l.take t.2.toNat)) (fun t=>(l.length - t.2).toNat) ⟨by simp,by simp,rfl⟩ (by dsimp only;omega) ?_
 rintro ⟨o,t⟩ ⟨g1,g2,g3⟩
 dsimp only at g1 g2 g3 ⊢
 obtain ⟨n,rfl⟩:=aJ g1
 rw[Int.toNat_natCast] at g3
 have ho:o.length≤10000000:=by
  rw[g3]
  have:=aCQ (l.take n)
  rw[aU] at this;omega
 simp (disch:=omega) only[wr,Int.ofNat_eq_natCast]
 refine bI.bN (bI.ite (fun e=>?_) (fun e=>?_))
 ·simp only[aB] at e
  have hn:n<l.length:=by omega
  have tW:p9 (l.take (n+1))=p9 (l.take n)+rn (l.getD n default).cQ:=by rw[iO default hn,aH5];simp [p9]
  rw[Int.toNat_natCast]
  generalize l.getD n default=x at tW
  have hr:=aH4 x.cQ
  refine bI.cP (fun v:List Int=>v.length=p9 (l.take (n+1))) (bI.bJ (bI.bW (bR (by omega)) (bI.cD (bI.call aGm ?_)))) (fun v hv=>by refine bI.ret (sE.r ?_);exact ⟨⟨by dsimp only;omega,by dsimp only;omega,by dsimp only;rw[show ((n:Int)+1).toNat=n+1 by omega];exact hv⟩,by dsimp only;omega⟩)
  rintro _ rfl
  refine bI.cP (fun v:List Int=>v.length=o.length+rn x.cQ) (bI.bJ (bI.dK ?_)) (fun v hv=>by refine bI.ret (sE.r ?_);omega)
  rw[aP5]
  refine bI.loop (fun s:List Int × Int=>0≤s.2∧s.2≤rn x.cQ∧(s.1.length:Int)=o.length+s.2) (fun s=>(rn x.cQ - s.2).toNat) ⟨by simp,by simp,by simp⟩ (by dsimp only;omega) ?_
  rintro ⟨p,i⟩ ⟨k1,k2,k3⟩
  dsimp only at k1 k2 k3 ⊢
  simp (disch:=omega) only[wr,Int.ofNat_eq_natCast]
  refine bI.bN (bI.ite (fun e=>?_) (fun e=>?_))
  ·simp only[aB] at e
   refine bI.cP (fun v:List Int=>(v.length:Int)=o.length+i+1) (bI.bJ (bI.bN (bI.dS ?_ (fun z=>bI.bW (dX ?_) (bI.cD ?_))))) (fun v hv=>by refine bI.ret (sE.r ?_);exact ⟨⟨by dsimp only;omega,by dsimp only;omega,by dsimp only;omega⟩,by dsimp only;omega⟩)
   ·exact T0
   ·simp only[List.length_singleton];omega
   ·refine bI.ret (sE.r ?_)
    rw[aE,List.length_singleton];omega
  ·simp only[aB] at e
   refine bI.ret (sE.l (sE.l ?_))
   show p.length=_
   omega
 ·simp only[aB] at e
  refine bI.ret (sE.l (sE.l ?_))
  show o.length=_
  rw[g3,List.take_of_length_le (by omega)]
theorem aP6 {K:Nat} {l:List fE} (hK:100000<K) (hl:l.length≤1000):dA (aRG K l) (fun v=>v.length=p9 l):=aLl hK hl
end Go.Proofs.YtdbfbedholdjaaaGreat

namespace Go.Proofs.YtdbfbedholdjaaaGreat
open Go Go.Dl
variable [dW]
set_option maxRecDepth 100000
set_option maxHeartbeats 8000000
theorem aLm {u:cZ} {d:Int} (h:0≤d∧d<u.bK.length):kd u d=(dc u d).bP:=by unfold kd;rw[aG (by omega)]
theorem Wf.len' {u:cZ} (hw:Wf u):u.bK.length≤12:=by
 by_cases h:u.bK.length≤12
 ·exact h
 ·have:=(hw 12 ⟨by omega,by omega⟩).lim
  omega
theorem Wf.sz {u:cZ} (hw:Wf u) (d:Int):Sz8 (dc u d):=by
 by_cases h:d.toNat<u.bK.length
 ·exact (hw d.toNat ⟨by omega,by omega⟩).sz
 ·rw[dc,aEo h]
  exact ⟨by decide,by decide,by decide,fun m hm=>by cases hm⟩
theorem Wf.all {u:cZ} (hw:Wf u):∀ d∈u.bK,Sz8 d:=wY (d:=default) fun i hi=>hw.sz i
def pv (l:List jG):List fE:=l.flatMap fun d=>if d.bP=3 then d.cU else []
theorem aJJ:∀ {l:List jG},(∀ d∈l,Sz8 d)→(pv l).length≤8 * l.length
 | [],_=>by simp [pv]
 | x::r,h=>by
   have:=aJJ (l:=r) fun d hd=>h d (aX _ hd)
   have hx:=(h x (List.mem_cons_self ..)).v
   unfold pv at *
   rw[List.flatMap_cons,aE,List.length_cons]
   split
   ·omega
   ·simp only[List.length_nil];omega
theorem aTF {l:List jG} {n:Nat} (h:n<l.length):pv (l.take (n+1))=pv (l.take n)++(if (l.getD n default).bP=3 then (l.getD n default).cU else []):=by
 rw[iO default h];simp [pv]
theorem zG (u:cZ) (a b:List Int):varsOf u (a++b)=varsOf u a++varsOf u b:=by unfold varsOf;rw[List.flatMap_append]
theorem aLn {K:Nat} {u:cZ} (hK:100000<K) (hw:Wf u):dA (F55 K u) (fun v=>v.length≤12∧(∀ x∈v,kd u x=3)∧varsOf u v=pv u.bK):=by
 have hl:=hw.len'
 refine dA.of ?_
 unfold F55
 refine bI.cP (fun v:List Int=>v.length≤12∧(∀ x∈v,kd u x=3)∧varsOf u v=pv u.bK) (bI.bJ (bI.dK ?_)) (fun v hv=>by refine bI.ret (sE.l ?_);exact hv)
 refine bI.loop (fun t:List Int × Int=>0≤t.2∧t.2≤u.bK.length∧(t.1.length:Int)≤t.2∧(∀ x∈t.1,kd u x=3)∧varsOf u t.1=pv (u.bK.take t.2.toNat)) (fun t=>(u.bK.length - t.2).toNat) ⟨by simp,by simp,by simp,fun x hx=>(by cases hx),rfl⟩ (by dsimp only;omega) ?_
 rintro ⟨o,t⟩ ⟨g1,g2,g3,g4,g5⟩
 dsimp only at g1 g2 g3 g4 g5 ⊢
 obtain ⟨n,rfl⟩:=aJ g1
 rw[Int.toNat_natCast] at g5
 simp (disch:=omega) only[wr,Int.ofNat_eq_natCast]
 refine bI.bN (bI.ite (fun e=>?_) (fun e=>?_))
 ·simp only[aB] at e
  have hn:n<u.bK.length:=by omega
  have tW:=aTF hn
  refine bI.cP (fun v:List Int=>(v.length:Int)≤n+1∧(∀ x∈v,kd u x=3)∧varsOf u v=pv (u.bK.take (n+1))) (bI.bJ (bI.call (aCP (by decide)) ?_)) (fun v hv=>by refine bI.ret (sE.r ?_);exact ⟨⟨by dsimp only;omega,by dsimp only;omega,by dsimp only;omega,hv.2.1,by dsimp only;rw[show ((n:Int)+1).toNat=n+1 by omega];exact hv.2.2⟩,by dsimp only;omega⟩)
  rintro _ rfl
  have hk:=aLm (u:=u) (d:=n) ⟨by omega,by omega⟩
  refine bI.ite (fun e2=>bI.bW (dX ?_) (bI.cD ?_)) (fun e2=>?_)
  ·simp only[List.length_singleton];omega
  ·have e2:=beq_iff_eq.1 e2
   refine bI.ret (sE.r ?_)
   refine ⟨by rw[aE,List.length_singleton];omega,fun x hx=>?_,?_⟩
   ·rcases aY.1 hx with hx | hx
    ·exact g4 x hx
    ·rw[aO.1 hx];exact e2
   ·rw[zG,g5,tW,aH (by rw[← e2,hk];rfl)]
    simp [varsOf]
  ·have e2:¬ kd u n=3:=fun q=>e2 (beq_iff_eq.2 q)
   refine bI.ret (sE.r ?_)
   refine ⟨by omega,g4,?_⟩
   rw[g5,tW,aG (by rw[hk] at e2;exact e2)];simp
 ·simp only[aB] at e
  refine bI.ret (sE.l (sE.l ?_))
  refine ⟨by show o.length≤12;omega,g4,?_⟩
  rw[g5,List.take_of_length_le (by omega)]
theorem aLo {K:Nat} {u:cZ} (hK:100000<K) (hw:Wf u):dA (F37 K u) (fun v=>v=pv u.bK):=by
 refine dA.of ?_
 unfold F37
 refine bI.call (aLn hK hw) (fun r hr=>?_)
 obtain ⟨h1,h2,h3⟩:=hr
 refine bI.cP (fun v:List fE=>v=pv u.bK) (bI.bJ (bI.dK ?_)) (fun v hv=>by refine bI.ret (sE.l ?_);exact hv)
 refine bI.loop (fun t:List fE × Int=>0≤t.2∧t.2≤r.length∧(t.1.length:Int)≤8 * t.2∧t.1=varsOf u (r.take t.2.toNat)) (fun t=>(r.length - t.2).toNat) ⟨by simp,by simp,by simp,rfl⟩ (by dsimp only;omega) ?_
 rintro ⟨o,t⟩ ⟨g1,g2,g3,g4⟩
 dsimp only at g1 g2 g3 g4 ⊢
 obtain ⟨n,rfl⟩:=aJ g1
 rw[Int.toNat_natCast] at g4
 simp (disch:=omega) only[wr,Int.ofNat_eq_natCast]
 refine bI.bN (bI.ite (fun e=>?_) (fun e=>?_))
 ·simp only[aB] at e
  have hn:n<r.length:=by omega
  have hx:=gT (h2 _ (dQ (d:=default) hn)) (by decide)
  have hv:=(hw.sz (r.getD n default)).v
  have tW:varsOf u (r.take (n+1))=varsOf u (r.take n)++(dc u (r.getD n default)).cU:=by
   rw[iO default hn,zG];simp [varsOf]
  rw[Int.toNat_natCast]
  refine bI.cP (fun v:List fE=>(v.length:Int)≤8 * n+8∧v=varsOf u (r.take (n+1))) (bI.bJ (bI.bW (bR (by omega)) (bI.cD (bI.bW (bR hx) (bI.cD (bI.bN (bI.bW (dX ?_) (bI.cD ?_)))))))) (fun v hv=>by refine bI.ret (sE.r ?_);exact ⟨⟨by dsimp only;omega,by dsimp only;omega,by dsimp only;omega,by dsimp only;rw[show ((n:Int)+1).toNat=n+1 by omega];exact hv.2⟩,by dsimp only;omega⟩)
  ·show (o.length+(dc u (r.getD n default)).cU.length) * 80≤_
   omega
  ·refine bI.ret (sE.r ?_)
   refine ⟨?_,?_⟩
   ·show ((o++(dc u (r.getD n default)).cU).length:Int)≤_
    rw[aE];omega
   ·rw[tW,← g4]
 ·simp only[aB] at e
  refine bI.ret (sE.l (sE.l ?_))
  show o=_
  rw[g4,List.take_of_length_le (by omega),h3]
def aGn (d:jG):Nat:=if d.bP=2 then d.bM.countP (fun m=>!m.eV) else if d.bP=3 then 1 else 0
def w9:List jG→Nat
 | []=>0
 | d::r=>aGn d+w9 r
theorem aH8:∀ a b:List jG,w9 (a++b)=w9 a+w9 b
 | [],b=>by simp [w9]
 | x::a,b=>by rw[List.cons_append,w9,w9,aH8 a b];omega
theorem aSD {l:List jG} {n:Nat} (h:n<l.length):w9 (l.take (n+1))=w9 (l.take n)+aGn (l.getD n default):=by
 rw[iO default h,aH8];simp [w9]
def Cd (u:cZ) (w:dR):Prop:=w.dD<0∨Vw u w
theorem aLp {K:Nat} {u:cZ} (hK:100000<K) (hw:Wf u):dA (F43 K u) (fun v=>v.length=w9 u.bK∧v.length≤100∧∀ w∈v,Cd u w):=by
 have hl:=hw.len'
 refine dA.of ?_
 unfold F43
 refine bI.cP (fun v:List dR × List dR=>v.1.length+v.2.length=w9 u.bK∧v.1.length+v.2.length≤100∧(∀ w∈v.1,Cd u w)∧∀ w∈v.2,Cd u w) (bI.bJ (bI.dK ?_)) (fun v hv=>?_)
 ·refine bI.loop (fun t:List dR × List dR × Int=>0≤t.2.2∧t.2.2≤u.bK.length∧t.1.length+t.2.1.length=w9 (u.bK.take t.2.2.toNat)∧(t.1.length+t.2.1.length:Int)≤7 * t.2.2∧(∀ w∈t.1,Cd u w)∧∀ w∈t.2.1,Cd u w) (fun t=>(u.bK.length - t.2.2).toNat) ⟨by simp,by simp,rfl,by simp,fun x hx=>(by cases hx),fun x hx=>(by cases hx)⟩ (by dsimp only;omega) ?_
  rintro ⟨a,b,t⟩ ⟨g1,g2,g3,g4,g5,g6⟩
  dsimp only at g1 g2 g3 g4 g5 g6 ⊢
  obtain ⟨n,rfl⟩:=aJ g1
  rw[Int.toNat_natCast] at g3
  simp (disch:=omega) only[wr,Int.ofNat_eq_natCast]
  refine bI.bN (bI.ite (fun e=>?_) (fun e=>?_))
  ·simp only[aB] at e
   have hn:n<u.bK.length:=by omega
   have tW:=aSD hn
   have hsz:=(hw.sz n).m
   have hdn:dc u n=u.bK.getD n default:=by rw[dc,Int.toNat_natCast]
   rw[hdn] at hsz
   rw[Int.toNat_natCast]
   refine bI.cP (fun v:List dR × List dR=>v.1.length+v.2.length=w9 (u.bK.take (n+1))∧(v.1.length+v.2.length:Int)≤7 * n+7∧(∀ w∈v.1,Cd u w)∧∀ w∈v.2,Cd u w) (bI.bJ (bI.bW (bR (by omega)) (bI.cD (bI.bN ?_)))) (fun v hv=>by refine bI.ret (sE.r ?_);exact ⟨⟨by dsimp only;omega,by dsimp only;omega,by dsimp only;rw[show ((n:Int)+1).toNat=n+1 by omega];exact hv.1,by dsimp only;omega,hv.2.2.1,hv.2.2.2⟩,by dsimp only;omega⟩)
   refine bI.cP (fun v:List dR × List dR=>v.1.length+v.2.length=w9 (u.bK.take (n+1))∧(v.1.length+v.2.length:Int)≤7 * n+7∧(∀ w∈v.1,Cd u w)∧∀ w∈v.2,Cd u w) (bI.bJ (bI.ite (fun e2=>?_) (fun e2=>bI.ite (fun e3=>?_) (fun e3=>?_)))) (fun v hv=>by refine bI.ret (sE.r ?_);exact hv)
   ·have e2:=beq_iff_eq.1 e2
    have hone:aGn (u.bK.getD n default)=(u.bK.getD n default).bM.countP (fun m=>!m.eV):=by unfold aGn;rw[aH e2]
    refine bI.bN (bI.bN ?_)
    refine bI.cP (fun v:List dR=>v.length=a.length+aGn (u.bK.getD n default)∧(v.length:Int)≤a.length+6∧∀ w∈v,Cd u w) (bI.bJ (bI.dK ?_)) (fun v hv=>?_)
    ·rw[hone]
     have hvw:∀ i:Nat,i<(u.bK.getD n default).bM.length→Vw u ⟨n,i⟩:=fun i hi=>⟨⟨by show (0:Int)≤n;omega,by show (n:Int)<_;omega⟩,by show (0:Int)≤i;omega,by show (i:Int)<((dc u n).bM.length:Int);rw[hdn];omega⟩
     generalize (u.bK.getD n default).bM=ms at hsz hvw
     refine bI.loop (fun s:List dR × Int=>0≤s.2∧s.2≤ms.length∧s.1.length=a.length+(ms.take s.2.toNat).countP (fun m=>!m.eV)∧(s.1.length:Int)≤a.length+s.2∧∀ w∈s.1,Cd u w) (fun s=>(ms.length - s.2).toNat) ⟨by simp,by simp,by simp,by simp,g5⟩ (by dsimp only;omega) ?_
     rintro ⟨p,i⟩ ⟨k1,k2,k3,k4,k5⟩
     dsimp only at k1 k2 k3 k4 k5 ⊢
     obtain ⟨j,rfl⟩:=aJ k1
     rw[Int.toNat_natCast] at k3
     simp (disch:=omega) only[wr,Int.ofNat_eq_natCast]
     refine bI.ite (fun e4=>?_) (fun e4=>?_)
     ·simp only[aB] at e4
      have hj:j<ms.length:=by omega
      have hct:(ms.take (j+1)).countP (fun m=>!m.eV)=(ms.take j).countP (fun m=>!m.eV)+(if (!(ms.getD j default).eV)=true then 1 else 0):=by
       rw[iO default hj,List.countP_append,List.countP_singleton]
      rw[Int.toNat_natCast]
      refine bI.cP (fun v:List dR=>v.length=a.length+(ms.take (j+1)).countP (fun m=>!m.eV)∧(v.length:Int)≤a.length+j+1∧∀ w∈v,Cd u w) (bI.bJ (bI.bW (bR (by omega)) (bI.cD (bI.bN (bI.ite (fun e5=>bI.bW (dX ?_) (bI.cD ?_)) (fun e5=>?_)))))) (fun v hv=>by refine bI.ret (sE.r ?_);exact ⟨⟨by dsimp only;omega,by dsimp only;omega,by dsimp only;rw[show ((j:Int)+1).toNat=j+1 by omega];exact hv.1,by dsimp only;omega,hv.2.2⟩,by dsimp only;omega⟩)
      ·simp only[List.length_singleton];omega
      ·rw[aH e5] at hct
       refine bI.ret (sE.r ?_)
       refine ⟨by rw[aE,List.length_singleton];omega,by rw[aE,List.length_singleton];omega,fun w hw=>?_⟩
       rcases aY.1 hw with hw | hw
       ·exact k5 w hw
       ·rw[aO.1 hw];exact .inr (hvw j hj)
      ·rw[aG e5] at hct
       refine bI.ret (sE.r ?_)
       exact ⟨by omega,by omega,k5⟩
     ·simp only[aB] at e4
      rw[List.take_of_length_le (by omega)] at k3
      refine bI.ret (sE.l (sE.l ?_))
      exact ⟨k3,by show (p.length:Int)≤_;omega,k5⟩
    ·refine bI.ret (sE.r ?_)
     refine ⟨?_,?_,hv.2.2,g6⟩
     ·show v.length+b.length=_
      omega
     ·show (v.length+b.length:Int)≤_
      omega
   ·have e3:=beq_iff_eq.1 e3
    have hone:aGn (u.bK.getD n default)=1:=by unfold aGn;rw[aG (by omega),aH e3]
    refine bI.bW (dX ?_) (bI.cD ?_)
    ·simp only[List.length_singleton];omega
    ·refine bI.ret (sE.r ?_)
     refine ⟨?_,?_,g5,fun w hw=>?_⟩
     ·show a.length+(b++[_]).length=_
      rw[aE,List.length_singleton];omega
     ·show (a.length+(b++[_]).length:Int)≤_
      rw[aE,List.length_singleton];omega
     ·rcases aY.1 hw with hw | hw
      ·exact g6 w hw
      ·rw[aO.1 hw];exact .inl (by show (-1:Int)<0;omega)
   ·have hone:aGn (u.bK.getD n default)=0:=by unfold aGn;rw[aG (fun q=>e2 (beq_iff_eq.2 q)),aG (fun q=>e3 (beq_iff_eq.2 q))]
    refine bI.ret (sE.r ?_)
    exact ⟨by show a.length+b.length=_;omega,by show (a.length+b.length:Int)≤_;omega,g5,g6⟩
  ·simp only[aB] at e
   rw[List.take_of_length_le (by omega)] at g3
   refine bI.ret (sE.l (sE.l ?_))
   exact ⟨g3,by show a.length+b.length≤100;omega,g5,g6⟩
 ·obtain ⟨v1,v2⟩:=v
  obtain ⟨h1,h2,h3,h4⟩:=hv
  dsimp only at h1 h2 h3 h4 ⊢
  refine bI.bW (dX (by omega)) (bI.cD ?_)
  refine bI.ret (sE.l ?_)
  refine ⟨by rw[aE];exact h1,by rw[aE];exact h2,fun w hw=>?_⟩
  rcases aY.1 hw with hw | hw
  ·exact h3 w hw
  ·exact h4 w hw
theorem aSE {K:Nat} {l:List dR} {w:dR} (hK:100000<K) (hl:l.length≤1000):dA (F57 K l w) (fun _=>True):=by
 refine dA.of ?_
 unfold F57
 refine bI.dS (bI.bJ (bI.dK ?_)) (fun _=>by exact T0)
 refine bI.l5 l.length (by omega) (fun i hi=>?_) ?_
 ·simp (disch:=omega) only[wr,Int.ofNat_eq_natCast]
  refine bI.bN (bI.eR (by simp only[aB];omega) ?_)
  refine bI.dS (bI.bJ (bI.bW (bR (by omega)) (bI.cD ?_))) (fun _=>by refine bI.ret (sE.r ?_);rfl)
  exact T0
 ·simp (disch:=omega) only[wr,Int.ofNat_eq_natCast]
  refine bI.bN (bI.eQ (by simp only[aB];exact Int.lt_irrefl _) ?_)
  exact T0
theorem aGo {K:Nat} {u:cZ} {w:dR} (hK:100000<K) (hw:Wf u):dA (F19 K u w) (fun _=>True):=by
 refine dA.of ?_
 unfold F19
 refine bI.call (aLp hK hw) (fun v hv=>?_)
 refine bI.cX (by decide) (aSE hK (by omega)) (fun _ _=>?_)
 exact T0
theorem aSF {K:Nat} {u:cZ} {w:dR} (hK:100000<K) (h:Sm u) (hw:Wf u) (hc:Cd u w):dA (F44 K u w) (fun _=>True):=by
 refine dA.of ?_
 unfold F44
 refine bI.ite (fun e=>by exact T0) (fun e=>?_)
 simp only[aB] at e
 have hv:Vw u w:=by
  rcases hc with hc | hc
  ·exact absurd hc e
  ·exact hc
 have hp:=(hw.sz w.c8).p _ (dQ (d:=default) (show w.dD.toNat<(dc u w.c8).bM.length by have:=hv.2;omega))
 refine bI.bW (bR hv.1) (bI.bW (bR hv.2) (bI.cD (bI.bN (bI.bN (bI.bN ?_)))))
 refine bI.cX (by decide) (aAQ hK h) (fun _ _=>?_)
 refine bI.cX (by decide) (xL hK (aV hp.1 (by decide))) (fun _ _=>?_)
 refine bI.cX (by decide) (xL hK (aV hp.2 (by decide))) (fun _ _=>?_)
 exact T0
end Go.Proofs.YtdbfbedholdjaaaGreat

namespace Go.Proofs.YtdbfbedholdjaaaGreat
open Go Go.Dl
variable [dW]
set_option maxRecDepth 100000
set_option maxHeartbeats 8000000
theorem aJK {m:Nat}:∀ {l:List Nat},(∀ x∈l,x≤m)→bl.mx l≤m
 | [],_=>Nat.zero_le _
 | x::r,h=>by
   have h1:=h x (List.mem_cons_self ..)
   have h2:=aJK (l:=r) fun y hy=>h y (aX _ hy)
   show max x (bl.mx r)≤m
   omega
theorem Wf.vJ {u:cZ} (hw:Wf u):bl.vJ u≤8:=aJK fun x hx=>by
 obtain ⟨d,hd,rfl⟩:=List.mem_map.1 hx
 exact (hw.all d hd).v
theorem Wf.qI {u:cZ} (hw:Wf u):bl.qI u≤6:=aJK fun x hx=>by
 obtain ⟨d,hd,rfl⟩:=List.mem_map.1 hx
 exact (hw.all d hd).m
theorem Wf.chain {u:cZ} (hw:Wf u) (d:Int):(chain u d).length≤12:=aV (nZ u d) hw.len'
theorem aGp {K:Nat} {u:cZ} {d:Int} (hK:100000<K) (h:Sm u) (hw:Wf u) (hk:kd u d=2):dA (F52 K u d) (fun v=>v=s9 u d∧v.length≤96):=by
 have hc:=hw.chain d
 have hm:=hw.vJ
 have hmul:(chain u d).length * bl.vJ u≤12 * 8:=Nat.mul_le_mul hc hm
 refine dA.of ?_
 unfold F52
 refine bI.call aCO ?_
 rintro _ rfl
 refine bI.eR hk ?_
 refine bI.call (xK hK h) ?_
 rintro _ rfl
 refine bI.eR ⟨fun x hx=>bR (oM hx),by omega,by omega⟩ ?_
 refine bI.ret (sE.l ?_)
 refine ⟨?_,?_⟩
 ·unfold s9
  rw[aG (by omega)];rfl
 ·refine aV (bl.xB (fun x=>(u.bK.getD x.toNat default).cU) (bl.vJ u) (fun x=>bl.aJP u x) (chain u d).reverse) ?_
  rw[List.length_reverse];exact hmul
def sls (u:cZ) (d:Int):List Bytes:=bl.ns u (chain u d).reverse
theorem aLq {K:Nat} {u:cZ} {d:Int} (hK:100000<K) (h:Sm u) (hw:Wf u):dA (F49 K u d) (fun v=>v=sls u d∧v.length≤72):=by
 have hc:=hw.chain d
 have hm:=hw.qI
 have hmul:(chain u d).length * bl.qI u≤12 * 6:=Nat.mul_le_mul hc hm
 refine dA.of ?_
 unfold F49
 refine bI.call (xK hK h) ?_
 rintro _ rfl
 refine bI.eR ⟨fun x hx=>bR (oM hx),by omega,by omega,by omega⟩ ?_
 refine bI.ret (sE.l ?_)
 refine ⟨rfl,?_⟩
 refine aV (bl.xB (fun x=>bl.new (u.bK.getD x.toNat default).bM) (bl.qI u) (fun x=>aV (bl.aFo _) (bl.vK u x)) (chain u d).reverse) ?_
 rw[List.length_reverse];exact hmul
theorem aSG {K:Nat} {l:List Bytes} {s:Bytes} (hK:100000<K) (hl:l.length≤6004):dA (F48 K l s) (fun v=>v=ix (fun y:Bytes=>s == y) l):=by
 refine dA.of ?_
 unfold F48
 refine bI.cP (fun _=>ix (fun y:Bytes=>s == y) l = -1) (bI.bJ (bI.dK ?_)) (fun _ h=>by refine bI.ret (sE.l ?_);exact h.symm)
 refine bI.upI l.length (fun i=>(s == l.getD i default)=false) (by omega) (fun i hi hb=>?_) (fun hb=>?_)
 ·simp (disch:=omega) only[wr,Int.ofNat_eq_natCast]
  refine bI.bN (bI.eR (by simp only[aB];omega) ?_)
  rw[Int.toNat_natCast]
  refine bI.cP (fun _=>(s == l.getD i default)=false) (bI.bJ (bI.bW (bR (by omega)) (bI.cD ?_))) (fun _ h=>by refine bI.ret (sE.r ?_);exact ⟨rfl,h⟩)
  refine bI.ite (fun e=>?_) (fun e=>by refine bI.ret (sE.r ?_);simpa using e)
  refine bI.ret (sE.l (sE.r (sE.r ?_)))
  exact (aH0 (z:=default) hi hb e).symm
 ·simp (disch:=omega) only[wr,Int.ofNat_eq_natCast]
  refine bI.bN (bI.eQ (by simp only[aB];exact Int.lt_irrefl _) ?_)
  refine bI.ret (sE.l (sE.l ?_))
  exact aH1 (z:=default) hb
theorem aGq {K:Nat} {u:cZ} {d:Int} {s:Bytes} (hK:100000<K) (h:Sm u) (hw:Wf u):dA (F13 K u d s) (fun v=>v=ix (fun y:Bytes=>s == y) (sls u d)):=by
 refine dA.of ?_
 unfold F13
 refine bI.call (aLq hK h hw) ?_
 rintro _ ⟨rfl,hl⟩
 refine bI.call (aSG hK (by omega)) ?_
 rintro _ rfl
 refine bI.ret (sE.l ?_)
 rfl
def plc:List fE→Bytes→Int→Int
 | [],_,_=>-1
 | x::r,s,a=>if x.cC=s∧0<rn x.cQ then a else plc r s (a+rn x.cQ)
theorem aLr {K:Nat} {l:List fE} {s:Bytes} (hK:100000<K) (hl:l.length≤1000):dA (F51 K l s) (fun v=>v=plc l s 0):=by
 refine dA.of ?_
 unfold F51
 refine bI.cP (fun _=>plc l s 0 = -1) (bI.bJ (bI.dK ?_)) (fun _ h=>by refine bI.ret (sE.l ?_);exact h.symm)
 refine bI.loop (fun t:Int × Int=>0≤t.2∧t.2≤l.length∧0≤t.1∧t.1≤10000 * t.2∧plc (l.drop t.2.toNat) s t.1=plc l s 0) (fun t=>(l.length - t.2).toNat) ⟨by simp,by simp,by simp,by simp,rfl⟩ (by dsimp only;omega) ?_
 rintro ⟨a,t⟩ ⟨g1,g2,g3,g4,g5⟩
 dsimp only at g1 g2 g3 g4 g5 ⊢
 obtain ⟨n,rfl⟩:=aJ g1
 rw[Int.toNat_natCast] at g5
 simp (disch:=omega) only[wr,Int.ofNat_eq_natCast]
 refine bI.bN (bI.ite (fun e=>?_) (fun e=>?_))
 ·simp only[aB] at e
  have hn:n<l.length:=by omega
  rw[qH default hn,plc] at g5
  rw[Int.toNat_natCast]
  generalize l.getD n default=x at g5
  have hr:=aH4 x.cQ
  refine bI.cP (fun v:Int=>0≤v∧v≤10000 * n+10000∧plc (l.drop (n+1)) s v=plc l s 0) (bI.bJ (bI.bW (bR (by omega)) (bI.cD (bI.call aGm ?_)))) (fun v hv=>by refine bI.ret (sE.r ?_);exact ⟨⟨by dsimp only;omega,by dsimp only;omega,by dsimp only;omega,by dsimp only;omega,by dsimp only;rw[show ((n:Int)+1).toNat=n+1 by omega];exact hv.2.2⟩,by dsimp only;omega⟩)
  rintro _ rfl
  rw[aP5]
  refine bI.bN (bI.ite (fun e2=>?_) (fun e2=>bI.bN ?_))
  ·simp only[aC,beq_iff_eq,aB] at e2
   rw[aH ⟨e2.1,by omega⟩] at g5
   refine bI.ret (sE.l (sE.r (sE.r ?_)))
   exact g5
  ·rw[aG (fun q=>e2 (by simp [q.1,q.2]))] at g5
   rw[wr (by omega) (by omega)]
   refine bI.ret (sE.r ?_)
   exact ⟨by omega,by omega,g5⟩
 ·simp only[aB] at e
  rw[List.drop_eq_nil_of_le (by omega),plc] at g5
  refine bI.ret (sE.l (sE.l ?_))
  exact g5.symm
theorem aLs {K:Nat} {u:cZ} {d:Int} {s:Bytes} (hK:100000<K) (h:Sm u) (hw:Wf u):dA (F14 K u d s) (fun v=>v=if kd u d=2 then plc (s9 u d) s 0 else -1):=by
 refine dA.of ?_
 unfold F14
 refine bI.call (aCP (by decide)) ?_
 rintro _ rfl
 refine bI.ite (fun e=>?_) (fun e=>?_)
 ·simp only[aP,beq_eq_false_iff_ne] at e
  refine bI.ret (sE.l ?_)
  rw[aG e]
 ·simp only[aP,Bool.not_eq_false,beq_iff_eq] at e
  refine bI.call (aGp hK h hw e) ?_
  rintro _ ⟨rfl,hl⟩
  refine bI.call (aLr hK (by omega)) ?_
  rintro _ rfl
  refine bI.ret (sE.l ?_)
  rw[aH e]
theorem aSH {K:Nat} {u:cZ} {d:Int} {s:Bytes} (hK:100000<K) (h:Sm u) (hw:Wf u):dA (F17 K u d s) (fun _=>True):=by
 refine dA.of ?_
 unfold F17
 refine bI.call (aCP (by decide)) ?_
 rintro _ rfl
 refine bI.ite (fun e=>by exact T0) (fun e=>?_)
 simp only[aP,Bool.not_eq_false,beq_iff_eq] at e
 have hd:=gT e (by decide)
 have hv:=(hw.sz d).v
 refine bI.bW (bR hd) (bI.cD (bI.bN ?_))
 refine bI.call (aLr hK (show (dc u d).cU.length≤_ by omega)) (fun _ _=>?_)
 refine bI.ite (fun e=>by exact T0) (fun e=>?_)
 refine bI.call (aLn hK hw) (fun r hr=>?_)
 have hl:=hr.1
 refine bI.dS (bI.bJ (bI.dK ?_)) (fun _=>by exact T0)
 refine bI.loop (fun t:Int × Int=>0≤t.2∧t.2≤r.length) (fun t=>(r.length - t.2).toNat) ⟨by simp,by simp⟩ (by dsimp only;omega) ?_
 rintro ⟨a,t⟩ ⟨g1,g2⟩
 dsimp only at g1 g2 ⊢
 rw[show IntKind.i64.wrap (t+1)=t+1 from wr (by omega) (by omega)]
 refine bI.bN (bI.ite (fun e=>?_) (fun e=>by exact T0))
 simp only[aB,Int.ofNat_eq_natCast] at e
 have hx:=gT (hr.2.1 _ (dQ (d:=default) (show t.toNat<r.length by omega))) (by decide)
 have hxv:=(hw.sz (r.getD t.toNat default)).v
 refine bI.dS (bI.bJ (bI.bW (bR ⟨g1,e⟩) (bI.cD (bI.bN (bI.ite (fun e2=>?_) (fun e2=>by exact T0)))))) (fun _=>by refine bI.ret (sE.r ?_);exact ⟨⟨by dsimp only;omega,by dsimp only;omega⟩,by dsimp only;omega⟩)
 refine bI.bW (bR hx) (bI.cD (bI.bN ?_))
 refine bI.call (xL hK (show (dc u (r.getD t.toNat default)).cU.length≤_ by omega)) (fun _ _=>bI.bN ?_)
 exact T0
theorem aSI {K:Nat} {u:cZ} {d:Int} {s:Bytes} (hK:100000<K) (h:Sm u) (hw:Wf u):dA (F90 K u d s) (fun _=>True):=by
 refine dA.of ?_
 unfold F90
 refine bI.jV (aLh (by omega) (by assumption)) ?_
 refine bI.ite (fun e=>by exact T0) (fun e=>?_)
 refine bI.call (aGo hK hw) (fun _ _=>?_)
 exact T0
theorem aP8 {K:Nat} {u:cZ} {d:Int} (hK:100000<K) (h:Sm u) (hw:Wf u):dA (aMr K u d) (fun v=>v.length≤100∧∀ x∈v,0≤x∧x<u.bK.length):=by
 have hc:=hw.chain d
 refine dA.of ?_
 unfold aMr
 refine bI.call (xK hK h) ?_
 rintro _ rfl
 refine bI.cP (fun v:List Int=>v.length≤100∧∀ x∈v,0≤x∧x<u.bK.length) (bI.bJ (bI.dK ?_)) (fun v hv=>by refine bI.ret (sE.l ?_);exact hv)
 refine bI.loop (fun t:List Int × Int=>0≤t.2∧t.2≤(chain u d).length∧(t.1.length:Int)≤4 * t.2∧∀ x∈t.1,0≤x∧x<u.bK.length) (fun t=>((chain u d).length - t.2).toNat) ⟨by simp,by simp,by simp,fun x hx=>by cases hx⟩ (by dsimp only;omega) ?_
 rintro ⟨o,t⟩ ⟨g1,g2,g3,g4⟩
 dsimp only at g1 g2 g3 g4 ⊢
 simp (disch:=omega) only[wr,Int.ofNat_eq_natCast]
 refine bI.bN (bI.ite (fun e=>?_) (fun e=>by refine bI.ret (sE.l (sE.l ?_));exact ⟨by show o.length≤100;omega,g4⟩))
 simp only[aB] at e
 have hx:=oM (dQ (d:=default) (show t.toNat<(chain u d).length by omega))
 have hf:=(hw.sz ((chain u d).getD t.toNat default)).f
 refine bI.cP (fun v:List Int=>(v.length:Int)≤4 * t+4∧∀ x∈v,0≤x∧x<u.bK.length) (bI.bJ (bI.bW (bR ⟨g1,e⟩) (bI.cD (bI.bW (bR hx) (bI.cD (bI.bN (bI.bN ?_))))))) (fun v hv=>by refine bI.ret (sE.r ?_);exact ⟨⟨by dsimp only;omega,by dsimp only;omega,by dsimp only;omega,hv.2⟩,by dsimp only;omega⟩)
 refine bI.cP (fun v:List Int=>(v.length:Int)≤4 * t+4∧∀ x∈v,0≤x∧x<u.bK.length) (bI.bJ (bI.dK ?_)) (fun v hv=>by refine bI.ret (sE.r ?_);exact hv)
 change bI (iter K _ (o,0)) _
 refine bI.loop (fun s:List Int × Int=>0≤s.2∧s.2≤(dc u ((chain u d).getD t.toNat default)).eB.length∧(s.1.length:Int)≤4 * t+s.2∧∀ x∈s.1,0≤x∧x<u.bK.length) (fun s=>((dc u ((chain u d).getD t.toNat default)).eB.length - s.2).toNat) ⟨by simp,by simp,by dsimp only;omega,g4⟩ (by dsimp only;omega) ?_
 rintro ⟨p,i⟩ ⟨k1,k2,k3,k4⟩
 dsimp only at k1 k2 k3 k4 ⊢
 refine bI.ite (fun e2=>?_) (fun e2=>by refine bI.ret (sE.l (sE.l ?_));exact ⟨by show (p.length:Int)≤_;omega,k4⟩)
 have e2:i<(dc u ((chain u d).getD t.toNat default)).eB.length:=of_decide_eq_true e2
 rw[show IntKind.i64.wrap (i+1)=i+1 from wr (by omega) (by omega)]
 refine bI.cP (fun v:List Int=>(v.length:Int)≤4 * t+i+1∧∀ x∈v,0≤x∧x<u.bK.length) (bI.bJ (bI.bW (bR ⟨k1,e2⟩) (bI.cD ?_))) (fun v hv=>by refine bI.ret (sE.r ?_);exact ⟨⟨by dsimp only;omega,by dsimp only;omega,by dsimp only;omega,hv.2⟩,by dsimp only;omega⟩)
 refine bI.jV (aCN (by omega) (by assumption)) ?_
 refine bI.jV (aCO) ?_
 refine bI.cG (fun _=>aLf (by omega) (by omega)) (fun v _=>?_)
 refine bI.ite (fun e3=>bI.bW (dX ?_) (bI.cD ?_)) (fun e3=>?_)
 ·simp only[List.length_singleton];omega
 ·simp only[aC,beq_iff_eq] at e3
  refine bI.ret (sE.r ?_)
  refine ⟨by rw[aE,List.length_singleton];omega,fun x hx=>?_⟩
  rcases aY.1 hx with hx | hx
  ·exact k4 x hx
  ·rw[aO.1 hx];exact gT e3.1 (by decide)
 ·refine bI.ret (sE.r ?_)
  exact ⟨by omega,k4⟩
theorem aSJ {K:Nat} {l:List Int} (hl:l.length≤1000):dA (F89 K l) (fun v=>v.length=l.length∧∀ x∈v,x∈l):=by
 unfold F89
 rw[aH (by omega)]
 exact ⟨_,rfl,List.length_mergeSort ..,fun x hx=>List.mem_mergeSort.1 hx⟩
end Go.Proofs.YtdbfbedholdjaaaGreat
