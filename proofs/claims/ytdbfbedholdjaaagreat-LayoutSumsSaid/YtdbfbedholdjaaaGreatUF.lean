/- No conditions. -/
import Derived.Test.YtdbfbedholdjaaaGreatUE
set_option linter.unusedVariables false
set_option linter.unusedSimpArgs false
set_option linter.unusedSectionVars false
namespace Go.Proofs.YtdbfbedholdjaaaGreat
open Go Go.Dl
variable [eC]
set_option maxRecDepth 100000
set_option maxHeartbeats 8000000
def rm (t:fP):Int:=if t.bP=6∨t.bP=7 then 0 else if t.bP=4 then eY (IntKind.i64.wrap (t.vG+1)) 0 else 1
def rn (t:fP):Nat:=(wA (rm t) 10000).toNat
def ltr (t:fP):Bytes:=if t.bP=5 then [114] else [105]
theorem aTn (t:fP):0≤rm t:=by
 unfold rm eY
 split
 ·omega
 ·split
  ·split <;> omega
  ·omega
theorem aK8 (t:fP):wA (rm t) 10000=(rn t:Int):=by
 have:=aTn t
 unfold rn wA
 split <;> omega
theorem aHT (t:fP):rn t≤10000:=by
 have:=aTn t
 unfold rn wA
 split <;> omega
theorem aSe {K:Nat} {t:fP}:dG (F83 K t) (fun v=>v=ltr t):=by
 refine dG.of ?_
 unfold F83 ltr
 refine bJ.ite (fun e=>?_) (fun e=>?_)
 ·refine bJ.ret (sE.l ?_)
  rw[aH (beq_iff_eq.1 e)]
 ·refine bJ.ret (sE.l ?_)
  rw[aG (fun q=>e (beq_iff_eq.2 q))]
theorem aGg {K:Nat} {t:fP}:dG (F84 K t) (fun v=>v=rm t):=by
 refine dG.of ?_
 unfold F84
 refine bJ.cN (fun _=>rm t=1) (bJ.bL ?_) (fun _ h=>by refine bJ.ret (sE.l ?_);exact h.symm)
 refine bJ.cN (fun b=>b=true↔t.bP=6∨t.bP=7) ?_ (fun b hb=>?_)
 ·refine bJ.ite (fun _=>bJ.ret (sE.r ?_)) (fun _=>bJ.ret (sE.r ?_))
  all_goals simp only[beq_iff_eq] at *
  all_goals omega
 ·refine bJ.ite (fun e=>?_) (fun e=>?_)
  ·refine bJ.ret (sE.l (sE.r ?_))
   unfold rm
   rw[aH (hb.1 e)]
  ·have hn:¬ (t.bP=6∨t.bP=7):=fun q=>e (hb.2 q)
   refine bJ.ite (fun e2=>?_) (fun e2=>?_)
   ·refine bJ.ret (sE.l (sE.r ?_))
    unfold rm
    rw[aG hn,aH (beq_iff_eq.1 e2)]
   ·refine bJ.ret (sE.r ?_)
    unfold rm
    rw[aG hn,aG (fun q=>e2 (beq_iff_eq.2 q))]
theorem aSf {K:Nat} {t:fP} {n:Nat} (hn:n≤10000):dG (F82 K (ltr t) (n:Int)) (fun v=>v=Lib.repeatL (ltr t) n):=by
 have hl:(ltr t).length=1:=by unfold ltr;split <;> rfl
 unfold F82
 rw[aH (by rw[hl];simp;omega)]
 exact ⟨_,rfl,by rw[Int.toNat_natCast]⟩
theorem aK9 (t:fP) (n:Nat):(Lib.repeatL (ltr t) n).length=n:=by
 rw[Lib.repeatL_length]
 have hl:(ltr t).length=1:=by unfold ltr;split <;> rfl
 rw[hl];omega
theorem aSg {K:Nat} {s:zL} {b:Bytes} (h:s.kM.length+b.length≤100000000):dG (F81 K s b) (fun v=>v.2.2.kM=s.kM++b):=by
 refine dG.of ?_
 unfold F81
 refine bJ.call (P:=fun v=>v.kM=s.kM) ⟨_,rfl,rfl⟩ (fun v hv=>?_)
 refine bJ.bW (eB (by rw[hv];omega)) (bJ.cC ?_)
 refine bJ.ret (sE.l ?_)
 show v.kM++b=_
 rw[hv]
def kA (l:List fG):Bytes:=l.flatMap fun x=>Lib.repeatL (ltr x.cI) (rn x.cI)
def l5:List fG→Nat
 | []=>0
 | x::r=>rn x.cI+l5 r
theorem sJ:∀ l:List fG,(kA l).length=l5 l
 | []=>rfl
 | x::r=>by
   have:=sJ r
   unfold kA at *
   rw[List.flatMap_cons,aE,aK9,this,l5]
theorem xG:∀ l:List fG,l5 l≤10000 * l.length
 | []=>by simp [l5]
 | x::r=>by rw[l5,List.length_cons];have:=xG r;have:=aHT x.cI;omega
theorem aAN:∀ a b:List fG,l5 (a++b)=l5 a+l5 b
 | [],b=>by simp [l5]
 | x::a,b=>by rw[List.cons_append,l5,l5,aAN a b];omega
theorem aHU (a b:List fG):kA (a++b)=kA a++kA b:=by unfold kA;rw[List.flatMap_append]
theorem aJA {l:List fG} {n:Nat} (h:n<l.length):kA (l.take (n+1))=kA (l.take n)++Lib.repeatL (ltr (l.getD n default).cI) (rn (l.getD n default).cI):=by
 rw[gN default h,aHU];simp [kA]
theorem xH {K:Nat} {l:List fG} (hK:100000<K) (hl:l.length≤1000):dG (F36 K l) (fun v=>v=kA l):=by
 refine dG.of ?_
 unfold F36
 refine bJ.cN (fun v:Bool × List UInt8=>v.2=kA l) (bJ.bL (bJ.dN ?_)) (fun v hv=>?_)
 ·refine bJ.loop (fun t:Bool × List UInt8 × Int=>0≤t.2.2∧t.2.2≤l.length∧t.2.1=kA (l.take t.2.2.toNat)) (fun t=>(l.length - t.2.2).toNat) ⟨by simp,by simp,rfl⟩ (by dsimp only;omega) ?_
  rintro ⟨a,o,t⟩ ⟨g1,g2,g3⟩
  dsimp only at g1 g2 g3 ⊢
  obtain ⟨n,rfl⟩:=aJ g1
  rw[Int.toNat_natCast] at g3
  have ho:o.length≤10000000:=by
   rw[g3,sJ]
   have:=xG (l.take n)
   rw[aR] at this;omega
  simp (disch:=omega) only[wr,Int.ofNat_eq_natCast]
  refine bJ.bO (bJ.ite (fun e=>?_) (fun e=>?_))
  ·simp only[aB] at e
   have hn:n<l.length:=by omega
   have s8:=aJA hn
   rw[Int.toNat_natCast]
   generalize (l.getD n default).cI=ty at s8
   refine bJ.cN (fun v:Bool × List UInt8=>v.2=kA (l.take (n+1))) (bJ.bL (bJ.bW (bV (by omega)) (bJ.cC ?_))) (fun v hv=>by refine bJ.ret (sE.r ?_);exact ⟨⟨by dsimp only;omega,by dsimp only;omega,by dsimp only;rw[show ((n:Int)+1).toNat=n+1 by omega];exact hv⟩,by dsimp only;omega⟩)
   refine bJ.dB (by decide) aSe ?_
   rintro _ rfl
   refine bJ.dB (by decide) aGg ?_
   rintro _ rfl
   rw[aK8]
   refine bJ.dB (by decide) (aSf (aHT ty)) ?_
   rintro _ rfl
   have:=aHT ty
   refine bJ.call (aSg (by rw[aK9];show o.length+_≤_;omega)) (fun v hv=>?_)
   refine bJ.ret (sE.r ?_)
   show v.2.2.kM=_
   rw[hv,s8,← g3]
  ·simp only[aB] at e
   refine bJ.ret (sE.l (sE.l ?_))
   show o=_
   rw[g3,bF (by omega)]
 ·refine bJ.call (P:=fun r=>r=kA l) ⟨_,rfl,hv⟩ ?_
  rintro _ rfl
  refine bJ.ret (sE.l ?_);rfl
def aAO (m:iI):Bytes:=kA m.cV++(if m.fH.bP≠0 then [62,105] else [62])
theorem aLa {K:Nat} {m:iI} (hK:100000<K) (hl:m.cV.length≤1000):dG (F39 K m) (fun v=>v=aAO m):=by
 have hb:=xG m.cV
 rw[← sJ] at hb
 refine dG.of ?_
 unfold F39
 refine bJ.dB (by decide) (xH hK hl) ?_
 rintro _ rfl
 refine bJ.dB (by decide) (P:=fun v=>v=aAO m) (dG.of ?_) ?_
 ·unfold F86 aAO
  refine bJ.ite (fun e=>bJ.bW (eB ?_) (bJ.cC ?_)) (fun e=>bJ.bW (eB ?_) (bJ.cC ?_))
  ·simp only[List.length_cons,List.length_nil];omega
  ·refine bJ.ret (sE.l ?_)
   rw[aH (bne_iff_ne.1 e)]
  ·simp only[List.length_cons,List.length_nil];omega
  ·refine bJ.ret (sE.l ?_)
   rw[aG (fun q=>e (bne_iff_ne.2 q))]
 ·rintro _ rfl
  refine bJ.ret (sE.l ?_);rfl
theorem aLb {K:Nat} {l:List fG} (hK:100000<K) (hl:l.length≤1000):dG (F38 K l) (fun v=>v.length=l5 l):=by
 refine dG.of ?_
 unfold F38
 refine bJ.cN (fun v:List Int=>v.length=l5 l) (bJ.bL (bJ.dN ?_)) (fun v hv=>by refine bJ.ret (sE.l ?_);exact hv)
 refine bJ.loop (fun t:List Int × Int=>0≤t.2∧t.2≤l.length∧t.1.length=l5 (l.take t.2.toNat)) (fun t=>(l.length - t.2).toNat) ⟨by simp,by simp,rfl⟩ (by dsimp only;omega) ?_
 rintro ⟨o,t⟩ ⟨g1,g2,g3⟩
 dsimp only at g1 g2 g3 ⊢
 obtain ⟨n,rfl⟩:=aJ g1
 rw[Int.toNat_natCast] at g3
 have ho:o.length≤10000000:=by
  rw[g3]
  have:=xG (l.take n)
  rw[aR] at this;omega
 simp (disch:=omega) only[wr,Int.ofNat_eq_natCast]
 refine bJ.bO (bJ.ite (fun e=>?_) (fun e=>?_))
 ·simp only[aB] at e
  have hn:n<l.length:=by omega
  have s8:l5 (l.take (n+1))=l5 (l.take n)+rn (l.getD n default).cI:=by rw[gN default hn,aAN];simp [l5]
  rw[Int.toNat_natCast]
  generalize l.getD n default=x at s8
  have hr:=aHT x.cI
  refine bJ.cN (fun v:List Int=>v.length=l5 (l.take (n+1))) (bJ.bL (bJ.bW (bV (by omega)) (bJ.cC (bJ.call aGg ?_)))) (fun v hv=>by refine bJ.ret (sE.r ?_);exact ⟨⟨by dsimp only;omega,by dsimp only;omega,by dsimp only;rw[show ((n:Int)+1).toNat=n+1 by omega];exact hv⟩,by dsimp only;omega⟩)
  rintro _ rfl
  refine bJ.cN (fun v:List Int=>v.length=o.length+rn x.cI) (bJ.bL (bJ.dN ?_)) (fun v hv=>by refine bJ.ret (sE.r ?_);omega)
  rw[aK8]
  refine bJ.loop (fun s:List Int × Int=>0≤s.2∧s.2≤rn x.cI∧(s.1.length:Int)=o.length+s.2) (fun s=>(rn x.cI - s.2).toNat) ⟨by simp,by simp,by simp⟩ (by dsimp only;omega) ?_
  rintro ⟨p,i⟩ ⟨k1,k2,k3⟩
  dsimp only at k1 k2 k3 ⊢
  simp (disch:=omega) only[wr,Int.ofNat_eq_natCast]
  refine bJ.bO (bJ.ite (fun e=>?_) (fun e=>?_))
  ·simp only[aB] at e
   refine bJ.cN (fun v:List Int=>(v.length:Int)=o.length+i+1) (bJ.bL (bJ.bO (bJ.eE ?_ (fun z=>bJ.bW (eB ?_) (bJ.cC ?_))))) (fun v hv=>by refine bJ.ret (sE.r ?_);exact ⟨⟨by dsimp only;omega,by dsimp only;omega,by dsimp only;omega⟩,by dsimp only;omega⟩)
   ·exact T0
   ·simp only[List.length_singleton];omega
   ·refine bJ.ret (sE.r ?_)
    rw[aE,List.length_singleton];omega
  ·simp only[aB] at e
   refine bJ.ret (sE.l (sE.l ?_))
   show p.length=_
   omega
 ·simp only[aB] at e
  refine bJ.ret (sE.l (sE.l ?_))
  show o.length=_
  rw[g3,bF (by omega)]
theorem aPM {K:Nat} {l:List fG} (hK:100000<K) (hl:l.length≤1000):dG (aRj K l) (fun v=>v.length=l5 l):=aLb hK hl
end Go.Proofs.YtdbfbedholdjaaaGreat

namespace Go.Proofs.YtdbfbedholdjaaaGreat
open Go Go.Dl
variable [eC]
set_option maxRecDepth 100000
set_option maxHeartbeats 8000000
theorem aPO {u:dD} {d:Int} (h:0≤d∧d<u.bK.length):kd u d=(dc u d).bP:=by unfold kd;rw[aG (by omega)]
theorem Wf.len' {u:dD} (hw:Wf u):u.bK.length≤12:=by
 by_cases h:u.bK.length≤12
 ·exact h
 ·have:=(hw 12 ⟨by omega,by omega⟩).lim
  omega
theorem Wf.sz {u:dD} (hw:Wf u) (d:Int):Sz8 (dc u d):=by
 by_cases h:d.toNat<u.bK.length
 ·exact (hw d.toNat ⟨by omega,by omega⟩).sz
 ·rw[dc,aEe h]
  exact ⟨by decide,by decide,by decide,fun m hm=>by cases hm⟩
theorem Wf.all {u:dD} (hw:Wf u):∀ d∈u.bK,Sz8 d:=wX (d:=default) fun i hi=>hw.sz i
def pv (l:List jX):List fG:=l.flatMap fun d=>if d.bP=3 then d.cU else []
theorem aEf:∀ {l:List jX},(∀ d∈l,Sz8 d)→(pv l).length≤8 * l.length
 | [],_=>by simp [pv]
 | x::r,h=>by
   have:=aEf (l:=r) fun d hd=>h d (aX _ hd)
   have hx:=(h x (List.mem_cons_self ..)).v
   unfold pv at *
   rw[List.flatMap_cons,aE,List.length_cons]
   split
   ·omega
   ·simp only[List.length_nil];omega
theorem aPP {l:List jX} {n:Nat} (h:n<l.length):pv (l.take (n+1))=pv (l.take n)++(if (l.getD n default).bP=3 then (l.getD n default).cU else []):=by
 rw[gN default h];simp [pv]
theorem aEg (u:dD) (a b:List Int):varsOf u (a++b)=varsOf u a++varsOf u b:=by unfold varsOf;rw[List.flatMap_append]
theorem aLc {K:Nat} {u:dD} (hK:100000<K) (hw:Wf u):dG (F55 K u) (fun v=>v.length≤12∧(∀ x∈v,kd u x=3)∧varsOf u v=pv u.bK):=by
 have hl:=hw.len'
 refine dG.of ?_
 unfold F55
 refine bJ.cN (fun v:List Int=>v.length≤12∧(∀ x∈v,kd u x=3)∧varsOf u v=pv u.bK) (bJ.bL (bJ.dN ?_)) (fun v hv=>by refine bJ.ret (sE.l ?_);exact hv)
 refine bJ.loop (fun t:List Int × Int=>0≤t.2∧t.2≤u.bK.length∧(t.1.length:Int)≤t.2∧(∀ x∈t.1,kd u x=3)∧varsOf u t.1=pv (u.bK.take t.2.toNat)) (fun t=>(u.bK.length - t.2).toNat) ⟨by simp,by simp,by simp,fun x hx=>(by cases hx),rfl⟩ (by dsimp only;omega) ?_
 rintro ⟨o,t⟩ ⟨g1,g2,g3,g4,g5⟩
 dsimp only at g1 g2 g3 g4 g5 ⊢
 obtain ⟨n,rfl⟩:=aJ g1
 rw[Int.toNat_natCast] at g5
 simp (disch:=omega) only[wr,Int.ofNat_eq_natCast]
 refine bJ.bO (bJ.ite (fun e=>?_) (fun e=>?_))
 ·simp only[aB] at e
  have hn:n<u.bK.length:=by omega
  have s8:=aPP hn
  refine bJ.cN (fun v:List Int=>(v.length:Int)≤n+1∧(∀ x∈v,kd u x=3)∧varsOf u v=pv (u.bK.take (n+1))) (bJ.bL (bJ.call (aGe (by decide)) ?_)) (fun v hv=>by refine bJ.ret (sE.r ?_);exact ⟨⟨by dsimp only;omega,by dsimp only;omega,by dsimp only;omega,hv.2.1,by dsimp only;rw[show ((n:Int)+1).toNat=n+1 by omega];exact hv.2.2⟩,by dsimp only;omega⟩)
  rintro _ rfl
  have hk:=aPO (u:=u) (d:=n) ⟨by omega,by omega⟩
  refine bJ.ite (fun e2=>bJ.bW (eB ?_) (bJ.cC ?_)) (fun e2=>?_)
  ·simp only[List.length_singleton];omega
  ·have e2:=beq_iff_eq.1 e2
   refine bJ.ret (sE.r ?_)
   refine ⟨by rw[aE,List.length_singleton];omega,fun x hx=>?_,?_⟩
   ·rcases bG.1 hx with hx | hx
    ·exact g4 x hx
    ·rw[aQ.1 hx];exact e2
   ·rw[aEg,g5,s8,aH (by rw[← e2,hk];rfl)]
    simp [varsOf]
  ·have e2:¬ kd u n=3:=fun q=>e2 (beq_iff_eq.2 q)
   refine bJ.ret (sE.r ?_)
   refine ⟨by omega,g4,?_⟩
   rw[g5,s8,aG (by rw[hk] at e2;exact e2)];simp
 ·simp only[aB] at e
  refine bJ.ret (sE.l (sE.l ?_))
  refine ⟨by show o.length≤12;omega,g4,?_⟩
  rw[g5,bF (by omega)]
theorem aLd {K:Nat} {u:dD} (hK:100000<K) (hw:Wf u):dG (F37 K u) (fun v=>v=pv u.bK):=by
 refine dG.of ?_
 unfold F37
 refine bJ.call (aLc hK hw) (fun r hr=>?_)
 obtain ⟨h1,h2,h3⟩:=hr
 refine bJ.cN (fun v:List fG=>v=pv u.bK) (bJ.bL (bJ.dN ?_)) (fun v hv=>by refine bJ.ret (sE.l ?_);exact hv)
 refine bJ.loop (fun t:List fG × Int=>0≤t.2∧t.2≤r.length∧(t.1.length:Int)≤8 * t.2∧t.1=varsOf u (r.take t.2.toNat)) (fun t=>(r.length - t.2).toNat) ⟨by simp,by simp,by simp,rfl⟩ (by dsimp only;omega) ?_
 rintro ⟨o,t⟩ ⟨g1,g2,g3,g4⟩
 dsimp only at g1 g2 g3 g4 ⊢
 obtain ⟨n,rfl⟩:=aJ g1
 rw[Int.toNat_natCast] at g4
 simp (disch:=omega) only[wr,Int.ofNat_eq_natCast]
 refine bJ.bO (bJ.ite (fun e=>?_) (fun e=>?_))
 ·simp only[aB] at e
  have hn:n<r.length:=by omega
  have hx:=lH (h2 _ (eA (d:=default) hn)) (by decide)
  have hv:=(hw.sz (r.getD n default)).v
  have s8:varsOf u (r.take (n+1))=varsOf u (r.take n)++(dc u (r.getD n default)).cU:=by
   rw[gN default hn,aEg];simp [varsOf]
  rw[Int.toNat_natCast]
  refine bJ.cN (fun v:List fG=>(v.length:Int)≤8 * n+8∧v=varsOf u (r.take (n+1))) (bJ.bL (bJ.bW (bV (by omega)) (bJ.cC (bJ.bW (bV hx) (bJ.cC (bJ.bO (bJ.bW (eB ?_) (bJ.cC ?_)))))))) (fun v hv=>by refine bJ.ret (sE.r ?_);exact ⟨⟨by dsimp only;omega,by dsimp only;omega,by dsimp only;omega,by dsimp only;rw[show ((n:Int)+1).toNat=n+1 by omega];exact hv.2⟩,by dsimp only;omega⟩)
  ·show (o.length+(dc u (r.getD n default)).cU.length) * 80≤_
   omega
  ·refine bJ.ret (sE.r ?_)
   refine ⟨?_,?_⟩
   ·show ((o++(dc u (r.getD n default)).cU).length:Int)≤_
    rw[aE];omega
   ·rw[s8,← g4]
 ·simp only[aB] at e
  refine bJ.ret (sE.l (sE.l ?_))
  show o=_
  rw[g4,bF (by omega),h3]
def aCk (d:jX):Nat:=if d.bP=2 then d.bN.countP (fun m=>!m.eN) else if d.bP=3 then 1 else 0
def rO:List jX→Nat
 | []=>0
 | d::r=>aCk d+rO r
theorem aHX:∀ a b:List jX,rO (a++b)=rO a+rO b
 | [],b=>by simp [rO]
 | x::a,b=>by rw[List.cons_append,rO,rO,aHX a b];omega
theorem aGh {l:List jX} {n:Nat} (h:n<l.length):rO (l.take (n+1))=rO (l.take n)+aCk (l.getD n default):=by
 rw[gN default h,aHX];simp [rO]
def Cd (u:dD) (w:dX):Prop:=w.dH<0∨Vw u w
theorem aLe {K:Nat} {u:dD} (hK:100000<K) (hw:Wf u):dG (F43 K u) (fun v=>v.length=rO u.bK∧v.length≤100∧∀ w∈v,Cd u w):=by
 have hl:=hw.len'
 refine dG.of ?_
 unfold F43
 refine bJ.cN (fun v:List dX × List dX=>v.1.length+v.2.length=rO u.bK∧v.1.length+v.2.length≤100∧(∀ w∈v.1,Cd u w)∧∀ w∈v.2,Cd u w) (bJ.bL (bJ.dN ?_)) (fun v hv=>?_)
 ·refine bJ.loop (fun t:List dX × List dX × Int=>0≤t.2.2∧t.2.2≤u.bK.length∧t.1.length+t.2.1.length=rO (u.bK.take t.2.2.toNat)∧(t.1.length+t.2.1.length:Int)≤7 * t.2.2∧(∀ w∈t.1,Cd u w)∧∀ w∈t.2.1,Cd u w) (fun t=>(u.bK.length - t.2.2).toNat) ⟨by simp,by simp,rfl,by simp,fun x hx=>(by cases hx),fun x hx=>(by cases hx)⟩ (by dsimp only;omega) ?_
  rintro ⟨a,b,t⟩ ⟨g1,g2,g3,g4,g5,g6⟩
  dsimp only at g1 g2 g3 g4 g5 g6 ⊢
  obtain ⟨n,rfl⟩:=aJ g1
  rw[Int.toNat_natCast] at g3
  simp (disch:=omega) only[wr,Int.ofNat_eq_natCast]
  refine bJ.bO (bJ.ite (fun e=>?_) (fun e=>?_))
  ·simp only[aB] at e
   have hn:n<u.bK.length:=by omega
   have s8:=aGh hn
   have hsz:=(hw.sz n).m
   have hdn:dc u n=u.bK.getD n default:=by rw[dc,Int.toNat_natCast]
   rw[hdn] at hsz
   rw[Int.toNat_natCast]
   refine bJ.cN (fun v:List dX × List dX=>v.1.length+v.2.length=rO (u.bK.take (n+1))∧(v.1.length+v.2.length:Int)≤7 * n+7∧(∀ w∈v.1,Cd u w)∧∀ w∈v.2,Cd u w) (bJ.bL (bJ.bW (bV (by omega)) (bJ.cC (bJ.bO ?_)))) (fun v hv=>by refine bJ.ret (sE.r ?_);exact ⟨⟨by dsimp only;omega,by dsimp only;omega,by dsimp only;rw[show ((n:Int)+1).toNat=n+1 by omega];exact hv.1,by dsimp only;omega,hv.2.2.1,hv.2.2.2⟩,by dsimp only;omega⟩)
   refine bJ.cN (fun v:List dX × List dX=>v.1.length+v.2.length=rO (u.bK.take (n+1))∧(v.1.length+v.2.length:Int)≤7 * n+7∧(∀ w∈v.1,Cd u w)∧∀ w∈v.2,Cd u w) (bJ.bL (bJ.ite (fun e2=>?_) (fun e2=>bJ.ite (fun e3=>?_) (fun e3=>?_)))) (fun v hv=>by refine bJ.ret (sE.r ?_);exact hv)
   ·have e2:=beq_iff_eq.1 e2
    have hone:aCk (u.bK.getD n default)=(u.bK.getD n default).bN.countP (fun m=>!m.eN):=by unfold aCk;rw[aH e2]
    refine bJ.bO (bJ.bO ?_)
    refine bJ.cN (fun v:List dX=>v.length=a.length+aCk (u.bK.getD n default)∧(v.length:Int)≤a.length+6∧∀ w∈v,Cd u w) (bJ.bL (bJ.dN ?_)) (fun v hv=>?_)
    ·rw[hone]
     have hvw:∀ i:Nat,i<(u.bK.getD n default).bN.length→Vw u ⟨n,i⟩:=fun i hi=>⟨⟨by show (0:Int)≤n;omega,by show (n:Int)<_;omega⟩,by show (0:Int)≤i;omega,by show (i:Int)<((dc u n).bN.length:Int);rw[hdn];omega⟩
     generalize (u.bK.getD n default).bN=ms at hsz hvw
     refine bJ.loop (fun s:List dX × Int=>0≤s.2∧s.2≤ms.length∧s.1.length=a.length+(ms.take s.2.toNat).countP (fun m=>!m.eN)∧(s.1.length:Int)≤a.length+s.2∧∀ w∈s.1,Cd u w) (fun s=>(ms.length - s.2).toNat) ⟨by simp,by simp,by simp,by simp,g5⟩ (by dsimp only;omega) ?_
     rintro ⟨p,i⟩ ⟨k1,k2,k3,k4,k5⟩
     dsimp only at k1 k2 k3 k4 k5 ⊢
     obtain ⟨j,rfl⟩:=aJ k1
     rw[Int.toNat_natCast] at k3
     simp (disch:=omega) only[wr,Int.ofNat_eq_natCast]
     refine bJ.ite (fun e4=>?_) (fun e4=>?_)
     ·simp only[aB] at e4
      have hj:j<ms.length:=by omega
      have hct:(ms.take (j+1)).countP (fun m=>!m.eN)=(ms.take j).countP (fun m=>!m.eN)+(if (!(ms.getD j default).eN)=true then 1 else 0):=by
       rw[gN default hj,List.countP_append,List.countP_singleton]
      rw[Int.toNat_natCast]
      refine bJ.cN (fun v:List dX=>v.length=a.length+(ms.take (j+1)).countP (fun m=>!m.eN)∧(v.length:Int)≤a.length+j+1∧∀ w∈v,Cd u w) (bJ.bL (bJ.bW (bV (by omega)) (bJ.cC (bJ.bO (bJ.ite (fun e5=>bJ.bW (eB ?_) (bJ.cC ?_)) (fun e5=>?_)))))) (fun v hv=>by refine bJ.ret (sE.r ?_);exact ⟨⟨by dsimp only;omega,by dsimp only;omega,by dsimp only;rw[show ((j:Int)+1).toNat=j+1 by omega];exact hv.1,by dsimp only;omega,hv.2.2⟩,by dsimp only;omega⟩)
      ·simp only[List.length_singleton];omega
      ·rw[aH e5] at hct
       refine bJ.ret (sE.r ?_)
       refine ⟨by rw[aE,List.length_singleton];omega,by rw[aE,List.length_singleton];omega,fun w hw=>?_⟩
       rcases bG.1 hw with hw | hw
       ·exact k5 w hw
       ·rw[aQ.1 hw];exact .inr (hvw j hj)
      ·rw[aG e5] at hct
       refine bJ.ret (sE.r ?_)
       exact ⟨by omega,by omega,k5⟩
     ·simp only[aB] at e4
      rw[bF (by omega)] at k3
      refine bJ.ret (sE.l (sE.l ?_))
      exact ⟨k3,by show (p.length:Int)≤_;omega,k5⟩
    ·refine bJ.ret (sE.r ?_)
     refine ⟨?_,?_,hv.2.2,g6⟩
     ·show v.length+b.length=_
      omega
     ·show (v.length+b.length:Int)≤_
      omega
   ·have e3:=beq_iff_eq.1 e3
    have hone:aCk (u.bK.getD n default)=1:=by unfold aCk;rw[aG (by omega),aH e3]
    refine bJ.bW (eB ?_) (bJ.cC ?_)
    ·simp only[List.length_singleton];omega
    ·refine bJ.ret (sE.r ?_)
     refine ⟨?_,?_,g5,fun w hw=>?_⟩
     ·show a.length+(b++[_]).length=_
      rw[aE,List.length_singleton];omega
     ·show (a.length+(b++[_]).length:Int)≤_
      rw[aE,List.length_singleton];omega
     ·rcases bG.1 hw with hw | hw
      ·exact g6 w hw
      ·rw[aQ.1 hw];exact .inl (by show (-1:Int)<0;omega)
   ·have hone:aCk (u.bK.getD n default)=0:=by unfold aCk;rw[aG (fun q=>e2 (beq_iff_eq.2 q)),aG (fun q=>e3 (beq_iff_eq.2 q))]
    refine bJ.ret (sE.r ?_)
    exact ⟨by show a.length+b.length=_;omega,by show (a.length+b.length:Int)≤_;omega,g5,g6⟩
  ·simp only[aB] at e
   rw[bF (by omega)] at g3
   refine bJ.ret (sE.l (sE.l ?_))
   exact ⟨g3,by show a.length+b.length≤100;omega,g5,g6⟩
 ·obtain ⟨v1,v2⟩:=v
  obtain ⟨h1,h2,h3,h4⟩:=hv
  dsimp only at h1 h2 h3 h4 ⊢
  refine bJ.bW (eB (by omega)) (bJ.cC ?_)
  refine bJ.ret (sE.l ?_)
  refine ⟨by rw[aE];exact h1,by rw[aE];exact h2,fun w hw=>?_⟩
  rcases bG.1 hw with hw | hw
  ·exact h3 w hw
  ·exact h4 w hw
theorem aSh {K:Nat} {l:List dX} {w:dX} (hK:100000<K) (hl:l.length≤1000):dG (F57 K l w) (fun _=>True):=by
 refine dG.of ?_
 unfold F57
 refine bJ.eE (bJ.bL (bJ.dN ?_)) (fun _=>by exact T0)
 refine bJ.mA l.length (by omega) (fun i hi=>?_) ?_
 ·simp (disch:=omega) only[wr,Int.ofNat_eq_natCast]
  refine bJ.bO (bJ.eX (by simp only[aB];omega) ?_)
  refine bJ.eE (bJ.bL (bJ.bW (bV (by omega)) (bJ.cC ?_))) (fun _=>by refine bJ.ret (sE.r ?_);rfl)
  exact T0
 ·simp (disch:=omega) only[wr,Int.ofNat_eq_natCast]
  refine bJ.bO (bJ.fC (by simp only[aB];exact Int.lt_irrefl _) ?_)
  exact T0
theorem aGi {K:Nat} {u:dD} {w:dX} (hK:100000<K) (hw:Wf u):dG (F19 K u w) (fun _=>True):=by
 refine dG.of ?_
 unfold F19
 refine bJ.call (aLe hK hw) (fun v hv=>?_)
 refine bJ.dB (by decide) (aSh hK (by omega)) (fun _ _=>?_)
 exact T0
theorem aSi {K:Nat} {u:dD} {w:dX} (hK:100000<K) (h:Sm u) (hw:Wf u) (hc:Cd u w):dG (F44 K u w) (fun _=>True):=by
 refine dG.of ?_
 unfold F44
 refine bJ.ite (fun e=>by exact T0) (fun e=>?_)
 simp only[aB] at e
 have hv:Vw u w:=by
  rcases hc with hc | hc
  ·exact absurd hc e
  ·exact hc
 have hp:=(hw.sz w.dA).p _ (eA (d:=default) (show w.dH.toNat<(dc u w.dA).bN.length by have:=hv.2;omega))
 refine bJ.bW (bV hv.1) (bJ.bW (bV hv.2) (bJ.cC (bJ.bO (bJ.bO (bJ.bO ?_)))))
 refine bJ.dB (by decide) (aGf hK h) (fun _ _=>?_)
 refine bJ.dB (by decide) (xH hK (aV hp.1 (by decide))) (fun _ _=>?_)
 refine bJ.dB (by decide) (xH hK (aV hp.2 (by decide))) (fun _ _=>?_)
 exact T0
end Go.Proofs.YtdbfbedholdjaaaGreat

namespace Go.Proofs.YtdbfbedholdjaaaGreat
open Go Go.Dl
variable [eC]
set_option maxRecDepth 100000
set_option maxHeartbeats 8000000
theorem aJB {m:Nat}:∀ {l:List Nat},(∀ x∈l,x≤m)→bl.mx l≤m
 | [],_=>Nat.zero_le _
 | x::r,h=>by
   have h1:=h x (List.mem_cons_self ..)
   have h2:=aJB (l:=r) fun y hy=>h y (aX _ hy)
   show max x (bl.mx r)≤m
   omega
theorem Wf.vI {u:dD} (hw:Wf u):bl.vI u≤8:=aJB fun x hx=>by
 obtain ⟨d,hd,rfl⟩:=List.mem_map.1 hx
 exact (hw.all d hd).v
theorem Wf.uS {u:dD} (hw:Wf u):bl.uS u≤6:=aJB fun x hx=>by
 obtain ⟨d,hd,rfl⟩:=List.mem_map.1 hx
 exact (hw.all d hd).m
theorem Wf.chain {u:dD} (hw:Wf u) (d:Int):(chain u d).length≤12:=aV (n7 u d) hw.len'
theorem aLf {K:Nat} {u:dD} {d:Int} (hK:100000<K) (h:Sm u) (hw:Wf u) (hk:kd u d=2):dG (F52 K u d) (fun v=>v=aEh u d∧v.length≤96):=by
 have hc:=hw.chain d
 have hm:=hw.vI
 have hmul:(chain u d).length * bl.vI u≤12 * 8:=Nat.mul_le_mul hc hm
 refine dG.of ?_
 unfold F52
 refine bJ.call aCH ?_
 rintro _ rfl
 refine bJ.eX hk ?_
 refine bJ.call (aAM hK h) ?_
 rintro _ rfl
 refine bJ.eX ⟨fun x hx=>bV (oM hx),by omega,by omega⟩ ?_
 refine bJ.ret (sE.l ?_)
 refine ⟨?_,?_⟩
 ·unfold aEh
  rw[aG (by omega)];rfl
 ·refine aV (bl.zJ (fun x=>(u.bK.getD x.toNat default).cU) (bl.vI u) (fun x=>bl.aJE u x) (chain u d).reverse) ?_
  rw[List.length_reverse];exact hmul
def sls (u:dD) (d:Int):List Bytes:=bl.ns u (chain u d).reverse
theorem aSj {K:Nat} {u:dD} {d:Int} (hK:100000<K) (h:Sm u) (hw:Wf u):dG (F49 K u d) (fun v=>v=sls u d∧v.length≤72):=by
 have hc:=hw.chain d
 have hm:=hw.uS
 have hmul:(chain u d).length * bl.uS u≤12 * 6:=Nat.mul_le_mul hc hm
 refine dG.of ?_
 unfold F49
 refine bJ.call (aAM hK h) ?_
 rintro _ rfl
 refine bJ.eX ⟨fun x hx=>bV (oM hx),by omega,by omega,by omega⟩ ?_
 refine bJ.ret (sE.l ?_)
 refine ⟨rfl,?_⟩
 refine aV (bl.zJ (fun x=>bl.new (u.bK.getD x.toNat default).bN) (bl.uS u) (fun x=>aV (bl.aIi _) (bl.zK u x)) (chain u d).reverse) ?_
 rw[List.length_reverse];exact hmul
def plc:List fG→Bytes→Int→Int
 | [],_,_=>-1
 | x::r,s,a=>if x.cG=s∧0<rn x.cI then a else plc r s (a+rn x.cI)
theorem aSl {K:Nat} {l:List fG} {s:Bytes} (hK:100000<K) (hl:l.length≤1000):dG (F51 K l s) (fun v=>v=plc l s 0):=by
 refine dG.of ?_
 unfold F51
 refine bJ.cN (fun _=>plc l s 0 = -1) (bJ.bL (bJ.dN ?_)) (fun _ h=>by refine bJ.ret (sE.l ?_);exact h.symm)
 refine bJ.loop (fun t:Int × Int=>0≤t.2∧t.2≤l.length∧0≤t.1∧t.1≤10000 * t.2∧plc (l.drop t.2.toNat) s t.1=plc l s 0) (fun t=>(l.length - t.2).toNat) ⟨by simp,by simp,by simp,by simp,rfl⟩ (by dsimp only;omega) ?_
 rintro ⟨a,t⟩ ⟨g1,g2,g3,g4,g5⟩
 dsimp only at g1 g2 g3 g4 g5 ⊢
 obtain ⟨n,rfl⟩:=aJ g1
 rw[Int.toNat_natCast] at g5
 simp (disch:=omega) only[wr,Int.ofNat_eq_natCast]
 refine bJ.bO (bJ.ite (fun e=>?_) (fun e=>?_))
 ·simp only[aB] at e
  have hn:n<l.length:=by omega
  rw[qF default hn,plc] at g5
  rw[Int.toNat_natCast]
  generalize l.getD n default=x at g5
  have hr:=aHT x.cI
  refine bJ.cN (fun v:Int=>0≤v∧v≤10000 * n+10000∧plc (l.drop (n+1)) s v=plc l s 0) (bJ.bL (bJ.bW (bV (by omega)) (bJ.cC (bJ.call aGg ?_)))) (fun v hv=>by refine bJ.ret (sE.r ?_);exact ⟨⟨by dsimp only;omega,by dsimp only;omega,by dsimp only;omega,by dsimp only;omega,by dsimp only;rw[show ((n:Int)+1).toNat=n+1 by omega];exact hv.2.2⟩,by dsimp only;omega⟩)
  rintro _ rfl
  rw[aK8]
  refine bJ.bO (bJ.ite (fun e2=>?_) (fun e2=>bJ.bO ?_))
  ·simp only[aC,beq_iff_eq,aB] at e2
   rw[aH ⟨e2.1,by omega⟩] at g5
   refine bJ.ret (sE.l (sE.r (sE.r ?_)))
   exact g5
  ·rw[aG (fun q=>e2 (by simp [q.1,q.2]))] at g5
   rw[wr (by omega) (by omega)]
   refine bJ.ret (sE.r ?_)
   exact ⟨by omega,by omega,g5⟩
 ·simp only[aB] at e
  rw[List.drop_eq_nil_of_le (by omega),plc] at g5
  refine bJ.ret (sE.l (sE.l ?_))
  exact g5.symm
theorem aSm {K:Nat} {u:dD} {d:Int} {s:Bytes} (hK:100000<K) (h:Sm u) (hw:Wf u):dG (F17 K u d s) (fun _=>True):=by
 refine dG.of ?_
 unfold F17
 refine bJ.call (aGe (by decide)) ?_
 rintro _ rfl
 refine bJ.ite (fun e=>by exact T0) (fun e=>?_)
 simp only[aP,Bool.not_eq_false,beq_iff_eq] at e
 have hd:=lH e (by decide)
 have hv:=(hw.sz d).v
 refine bJ.bW (bV hd) (bJ.cC (bJ.bO ?_))
 refine bJ.call (aSl hK (show (dc u d).cU.length≤_ by omega)) (fun _ _=>?_)
 refine bJ.ite (fun e=>by exact T0) (fun e=>?_)
 refine bJ.call (aLc hK hw) (fun r hr=>?_)
 have hl:=hr.1
 refine bJ.eE (bJ.bL (bJ.dN ?_)) (fun _=>by exact T0)
 refine bJ.loop (fun t:Int × Int=>0≤t.2∧t.2≤r.length) (fun t=>(r.length - t.2).toNat) ⟨by simp,by simp⟩ (by dsimp only;omega) ?_
 rintro ⟨a,t⟩ ⟨g1,g2⟩
 dsimp only at g1 g2 ⊢
 rw[show IntKind.i64.wrap (t+1)=t+1 from wr (by omega) (by omega)]
 refine bJ.bO (bJ.ite (fun e=>?_) (fun e=>by exact T0))
 simp only[aB,Int.ofNat_eq_natCast] at e
 have hx:=lH (hr.2.1 _ (eA (d:=default) (show t.toNat<r.length by omega))) (by decide)
 have hxv:=(hw.sz (r.getD t.toNat default)).v
 refine bJ.eE (bJ.bL (bJ.bW (bV ⟨g1,e⟩) (bJ.cC (bJ.bO (bJ.ite (fun e2=>?_) (fun e2=>by exact T0)))))) (fun _=>by refine bJ.ret (sE.r ?_);exact ⟨⟨by dsimp only;omega,by dsimp only;omega⟩,by dsimp only;omega⟩)
 refine bJ.bW (bV hx) (bJ.cC (bJ.bO ?_))
 refine bJ.call (xH hK (show (dc u (r.getD t.toNat default)).cU.length≤_ by omega)) (fun _ _=>bJ.bO ?_)
 exact T0
theorem aSn {K:Nat} {u:dD} {d:Int} {s:Bytes} (hK:100000<K) (h:Sm u) (hw:Wf u):dG (F90 K u d s) (fun _=>True):=by
 refine dG.of ?_
 unfold F90
 refine bJ.jV (aK6 (by omega) (by assumption)) ?_
 refine bJ.ite (fun e=>by exact T0) (fun e=>?_)
 refine bJ.call (aGi hK hw) (fun _ _=>?_)
 exact T0
theorem aPQ {K:Nat} {u:dD} {d:Int} (hK:100000<K) (h:Sm u) (hw:Wf u):dG (aMc K u d) (fun v=>v.length≤100∧∀ x∈v,0≤x∧x<u.bK.length):=by
 have hc:=hw.chain d
 refine dG.of ?_
 unfold aMc
 refine bJ.call (aAM hK h) ?_
 rintro _ rfl
 refine bJ.cN (fun v:List Int=>v.length≤100∧∀ x∈v,0≤x∧x<u.bK.length) (bJ.bL (bJ.dN ?_)) (fun v hv=>by refine bJ.ret (sE.l ?_);exact hv)
 refine bJ.loop (fun t:List Int × Int=>0≤t.2∧t.2≤(chain u d).length∧(t.1.length:Int)≤4 * t.2∧∀ x∈t.1,0≤x∧x<u.bK.length) (fun t=>((chain u d).length - t.2).toNat) ⟨by simp,by simp,by simp,fun x hx=>by cases hx⟩ (by dsimp only;omega) ?_
 rintro ⟨o,t⟩ ⟨g1,g2,g3,g4⟩
 dsimp only at g1 g2 g3 g4 ⊢
 simp (disch:=omega) only[wr,Int.ofNat_eq_natCast]
 refine bJ.bO (bJ.ite (fun e=>?_) (fun e=>by refine bJ.ret (sE.l (sE.l ?_));exact ⟨by show o.length≤100;omega,g4⟩))
 simp only[aB] at e
 have hx:=oM (eA (d:=default) (show t.toNat<(chain u d).length by omega))
 have hf:=(hw.sz ((chain u d).getD t.toNat default)).f
 refine bJ.cN (fun v:List Int=>(v.length:Int)≤4 * t+4∧∀ x∈v,0≤x∧x<u.bK.length) (bJ.bL (bJ.bW (bV ⟨g1,e⟩) (bJ.cC (bJ.bW (bV hx) (bJ.cC (bJ.bO (bJ.bO ?_))))))) (fun v hv=>by refine bJ.ret (sE.r ?_);exact ⟨⟨by dsimp only;omega,by dsimp only;omega,by dsimp only;omega,hv.2⟩,by dsimp only;omega⟩)
 refine bJ.cN (fun v:List Int=>(v.length:Int)≤4 * t+4∧∀ x∈v,0≤x∧x<u.bK.length) (bJ.bL (bJ.dN ?_)) (fun v hv=>by refine bJ.ret (sE.r ?_);exact hv)
 change bJ (iter K _ (o,0)) _
 refine bJ.loop (fun s:List Int × Int=>0≤s.2∧s.2≤(dc u ((chain u d).getD t.toNat default)).dZ.length∧(s.1.length:Int)≤4 * t+s.2∧∀ x∈s.1,0≤x∧x<u.bK.length) (fun s=>((dc u ((chain u d).getD t.toNat default)).dZ.length - s.2).toNat) ⟨by simp,by simp,by dsimp only;omega,g4⟩ (by dsimp only;omega) ?_
 rintro ⟨p,i⟩ ⟨k1,k2,k3,k4⟩
 dsimp only at k1 k2 k3 k4 ⊢
 refine bJ.ite (fun e2=>?_) (fun e2=>by refine bJ.ret (sE.l (sE.l ?_));exact ⟨by show (p.length:Int)≤_;omega,k4⟩)
 have e2:i<(dc u ((chain u d).getD t.toNat default)).dZ.length:=of_decide_eq_true e2
 rw[show IntKind.i64.wrap (i+1)=i+1 from wr (by omega) (by omega)]
 refine bJ.cN (fun v:List Int=>(v.length:Int)≤4 * t+i+1∧∀ x∈v,0≤x∧x<u.bK.length) (bJ.bL (bJ.bW (bV ⟨k1,e2⟩) (bJ.cC ?_))) (fun v hv=>by refine bJ.ret (sE.r ?_);exact ⟨⟨by dsimp only;omega,by dsimp only;omega,by dsimp only;omega,hv.2⟩,by dsimp only;omega⟩)
 refine bJ.jV (aCG (by omega) (by assumption)) ?_
 refine bJ.jV (aCH) ?_
 refine bJ.cF (fun _=>aK4 (by omega) (by omega)) (fun v _=>?_)
 refine bJ.ite (fun e3=>bJ.bW (eB ?_) (bJ.cC ?_)) (fun e3=>?_)
 ·simp only[List.length_singleton];omega
 ·simp only[aC,beq_iff_eq] at e3
  refine bJ.ret (sE.r ?_)
  refine ⟨by rw[aE,List.length_singleton];omega,fun x hx=>?_⟩
  rcases bG.1 hx with hx | hx
  ·exact k4 x hx
  ·rw[aQ.1 hx];exact lH e3.1 (by decide)
 ·refine bJ.ret (sE.r ?_)
  exact ⟨by omega,k4⟩
theorem aSo {K:Nat} {l:List Int} (hl:l.length≤1000):dG (F89 K l) (fun v=>v.length=l.length∧∀ x∈v,x∈l):=by
 unfold F89
 rw[aH (by omega)]
 exact ⟨_,rfl,List.length_mergeSort ..,fun x hx=>List.mem_mergeSort.1 hx⟩
end Go.Proofs.YtdbfbedholdjaaaGreat
