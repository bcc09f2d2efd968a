/- No conditions. -/
import Derived.Test.YtdbfbedholdjaaaGreatHUE
set_option linter.unusedVariables false
set_option linter.unusedSimpArgs false
set_option linter.unusedSectionVars false
namespace Go.Proofs.YtdbfbedholdjaaaGreat
open Go Go.Dl
variable [dO]
set_option maxRecDepth 100000
set_option maxHeartbeats 8000000
def rm (t:fS):Int:=if t.bU=6∨t.bU=7 then 0 else if t.bU=4 then e8 (IntKind.i64.wrap (t.zO+1)) 0 else 1
def rn (t:fS):Nat:=(sJ (rm t) 10000).toNat
def ltr (t:fS):Bytes:=if t.bU=5 then [114] else [105]
theorem aWj (t:fS):0≤rm t:=by
 unfold rm e8
 split
 ·omega
 ·split
  ·split <;> omega
  ·omega
theorem aKh (t:fS):sJ (rm t) 10000=(rn t:Int):=by
 have:=aWj t
 unfold rn sJ
 split <;> omega
theorem rZ (t:fS):rn t≤10000:=by
 have:=aWj t
 unfold rn sJ
 split <;> omega
theorem aUH {K:Nat} {t:fS}:cQ (F83 K t) (fun v=>v=ltr t):=by
 refine cQ.of ?_
 unfold F83 ltr
 refine bO.ite (fun e=>?_) (fun e=>?_)
 ·refine bO.ret (sE.l ?_)
  rw[aE (beq_iff_eq.1 e)]
 ·refine bO.ret (sE.l ?_)
  rw[aD (fun q=>e (beq_iff_eq.2 q))]
theorem aFv {K:Nat} {t:fS}:cQ (F84 K t) (fun v=>v=rm t):=by
 refine cQ.of ?_
 unfold F84
 refine bO.b5 (fun _=>rm t=1) (bO.bQ ?_) (fun _ h=>by refine bO.ret (sE.l ?_);exact h.symm)
 refine bO.b5 (fun b=>b=true↔t.bU=6∨t.bU=7) ?_ (fun b hb=>?_)
 ·refine bO.ite (fun _=>bO.ret (sE.r ?_)) (fun _=>bO.ret (sE.r ?_))
  all_goals simp only[beq_iff_eq] at *
  all_goals omega
 ·refine bO.ite (fun e=>?_) (fun e=>?_)
  ·refine bO.ret (sE.l (sE.r ?_))
   unfold rm
   rw[aE (hb.1 e)]
  ·have hn:¬ (t.bU=6∨t.bU=7):=fun q=>e (hb.2 q)
   refine bO.ite (fun e2=>?_) (fun e2=>?_)
   ·refine bO.ret (sE.l (sE.r ?_))
    unfold rm
    rw[aD hn,aE (beq_iff_eq.1 e2)]
   ·refine bO.ret (sE.r ?_)
    unfold rm
    rw[aD hn,aD (fun q=>e2 (beq_iff_eq.2 q))]
theorem aUI {K:Nat} {t:fS} {n:Nat} (hn:n≤10000):cQ (F82 K (ltr t) (n:Int)) (fun v=>v=Lib.repeatL (ltr t) n):=by
 have hl:(ltr t).length=1:=by unfold ltr;split <;> rfl
 unfold F82
 rw[aE (by rw[hl];simp;omega)]
 exact ⟨_,rfl,by rw[Int.toNat_natCast]⟩
theorem aGe (t:fS) (n:Nat):(Lib.repeatL (ltr t) n).length=n:=by
 rw[Lib.repeatL_length]
 have hl:(ltr t).length=1:=by unfold ltr;split <;> rfl
 rw[hl];omega
theorem aUJ {K:Nat} {s:xF} {b:Bytes} (h:s.jH.length+b.length≤100000000):cQ (F81 K s b) (fun v=>v.2.2.jH=s.jH++b):=by
 refine cQ.of ?_
 unfold F81
 refine bO.call (P:=fun v=>v.jH=s.jH) ⟨_,rfl,rfl⟩ (fun v hv=>?_)
 refine bO.bY (cS (by rw[hv];omega)) (bO.b7 ?_)
 refine bO.ret (sE.l ?_)
 show v.jH++b=_
 rw[hv]
def dL (l:List eZ):Bytes:=l.flatMap fun x=>Lib.repeatL (ltr x.cB) (rn x.cB)
def sK:List eZ→Nat
 | []=>0
 | x::r=>rn x.cB+sK r
theorem iI:∀ l:List eZ,(dL l).length=sK l
 | []=>rfl
 | x::r=>by
   have:=iI r
   unfold dL at *
   rw[List.flatMap_cons,aG,aGe,this,sK]
theorem jU:∀ l:List eZ,sK l≤10000 * l.length
 | []=>by simp [sK]
 | x::r=>by rw[sK,List.length_cons];have:=jU r;have:=rZ x.cB;omega
theorem aA3 (a b:List eZ):dL (a++b)=dL a++dL b:=by unfold dL;rw[List.flatMap_append]
theorem aDo {l:List eZ} {n:Nat} (h:n<l.length):dL (l.take (n+1))=dL (l.take n)++Lib.repeatL (ltr (l.getD n default).cB) (rn (l.getD n default).cB):=by
 rw[dZ default h,aA3];simp [dL]
theorem uP {K:Nat} {l:List eZ} (hK:100000<K) (hl:l.length≤1000):cQ (F36 K l) (fun v=>v=dL l):=by
 refine cQ.of ?_
 unfold F36
 refine bO.b5 (fun v:Bool × List UInt8=>v.2=dL l) (bO.bQ (bO.cT ?_)) (fun v hv=>?_)
 ·refine bO.loop (fun t:Bool × List UInt8 × Int=>0≤t.2.2∧t.2.2≤l.length∧t.2.1=dL (l.take t.2.2.toNat)) (fun t=>(l.length - t.2.2).toNat) ⟨by simp,by simp,rfl⟩ (by dsimp only;omega) ?_
  rintro ⟨a,o,t⟩ ⟨g1,g2,g3⟩
  dsimp only at g1 g2 g3 ⊢
  obtain ⟨n,rfl⟩:=aP g1
  rw[Int.toNat_natCast] at g3
  have ho:o.length≤10000000:=by
   rw[g3,iI]
   have:=jU (l.take n)
   rw[aK] at this;omega
  simp (disch:=omega) only[wr,Int.ofNat_eq_natCast]
  refine bO.bR (bO.ite (fun e=>?_) (fun e=>?_))
  ·simp only[aB] at e
   have hn:n<l.length:=by omega
   have iT:=aDo hn
   rw[Int.toNat_natCast]
   generalize (l.getD n default).cB=ty at iT
   refine bO.b5 (fun v:Bool × List UInt8=>v.2=dL (l.take (n+1))) (bO.bQ (bO.bY (bW (by omega)) (bO.b7 ?_))) (fun v hv=>by refine bO.ret (sE.r ?_);exact ⟨⟨by dsimp only;omega,by dsimp only;omega,by dsimp only;rw[show ((n:Int)+1).toNat=n+1 by omega];exact hv⟩,by dsimp only;omega⟩)
   refine bO.cH (by decide) aUH ?_
   rintro _ rfl
   refine bO.cH (by decide) aFv ?_
   rintro _ rfl
   rw[aKh]
   refine bO.cH (by decide) (aUI (rZ ty)) ?_
   rintro _ rfl
   have:=rZ ty
   refine bO.call (aUJ (by rw[aGe];show o.length+_≤_;omega)) (fun v hv=>?_)
   refine bO.ret (sE.r ?_)
   show v.2.2.jH=_
   rw[hv,iT,← g3]
  ·simp only[aB] at e
   refine bO.ret (sE.l (sE.l ?_))
   show o=_
   rw[g3,List.take_of_length_le (by omega)]
 ·refine bO.call (P:=fun r=>r=dL l) ⟨_,rfl,hv⟩ ?_
  rintro _ rfl
  refine bO.ret (sE.l ?_);rfl
def kS (m:hU):Bytes:=dL m.cG++(if m.eU.bU≠0 then [62,105] else [62])
theorem aKn {K:Nat} {m:hU} (hK:100000<K) (hl:m.cG.length≤1000):cQ (F39 K m) (fun v=>v=kS m):=by
 have hb:=jU m.cG
 rw[← iI] at hb
 refine cQ.of ?_
 unfold F39
 refine bO.cH (by decide) (uP hK hl) ?_
 rintro _ rfl
 refine bO.cH (by decide) (P:=fun v=>v=kS m) (cQ.of ?_) ?_
 ·unfold F86 kS
  refine bO.ite (fun e=>bO.bY (cS ?_) (bO.b7 ?_)) (fun e=>bO.bY (cS ?_) (bO.b7 ?_))
  ·simp only[List.length_cons,List.length_nil];omega
  ·refine bO.ret (sE.l ?_)
   rw[aE (bne_iff_ne.1 e)]
  ·simp only[List.length_cons,List.length_nil];omega
  ·refine bO.ret (sE.l ?_)
   rw[aD (fun q=>e (bne_iff_ne.2 q))]
 ·rintro _ rfl
  refine bO.ret (sE.l ?_);rfl
end Go.Proofs.YtdbfbedholdjaaaGreat

namespace Go.Proofs.YtdbfbedholdjaaaGreat
open Go Go.Dl
variable [dO]
set_option maxRecDepth 100000
set_option maxHeartbeats 8000000
theorem yJ {u:cK} {d:Int} (h:0≤d∧d<u.bP.length):kd u d=(dc u d).bU:=by unfold kd;rw[aD (by omega)]
theorem Wf.len' {u:cK} (hw:Wf u):u.bP.length≤12:=by
 by_cases h:u.bP.length≤12
 ·exact h
 ·have:=(hw 12 ⟨by omega,by omega⟩).lim
  omega
theorem Wf.sz {u:cK} (hw:Wf u) (d:Int):Sz8 (dc u d):=by
 by_cases h:d.toNat<u.bP.length
 ·exact (hw d.toNat ⟨by omega,by omega⟩).sz
 ·rw[dc,aDF h]
  exact ⟨by decide,by decide,by decide,fun m hm=>by cases hm⟩
theorem Wf.all {u:cK} (hw:Wf u):∀ d∈u.bP,Sz8 d:=jJ (d:=default) fun i hi=>hw.sz i
def pv (l:List iR):List eZ:=l.flatMap fun d=>if d.bU=3 then d.cA else []
theorem aCI:∀ {l:List iR},(∀ d∈l,Sz8 d)→(pv l).length≤8 * l.length
 | [],_=>by simp [pv]
 | x::r,h=>by
   have:=aCI (l:=r) fun d hd=>h d (aT _ hd)
   have hx:=(h x (bA ..)).v
   unfold pv at *
   rw[List.flatMap_cons,aG,List.length_cons]
   split
   ·omega
   ·simp only[List.length_nil];omega
theorem aWf {l:List iR} {n:Nat} (h:n<l.length):pv (l.take (n+1))=pv (l.take n)++(if (l.getD n default).bU=3 then (l.getD n default).cA else []):=by
 rw[dZ default h];simp [pv]
theorem aDG (u:cK) (a b:List Int):varsOf u (a++b)=varsOf u a++varsOf u b:=by unfold varsOf;rw[List.flatMap_append]
theorem aUK {K:Nat} {u:cK} (hK:100000<K) (hw:Wf u):cQ (F55 K u) (fun v=>v.length≤12∧(∀ x∈v,kd u x=3)∧varsOf u v=pv u.bP):=by
 have hl:=hw.len'
 refine cQ.of ?_
 unfold F55
 refine bO.b5 (fun v:List Int=>v.length≤12∧(∀ x∈v,kd u x=3)∧varsOf u v=pv u.bP) (bO.bQ (bO.cT ?_)) (fun v hv=>by refine bO.ret (sE.l ?_);exact hv)
 refine bO.loop (fun t:List Int × Int=>0≤t.2∧t.2≤u.bP.length∧(t.1.length:Int)≤t.2∧(∀ x∈t.1,kd u x=3)∧varsOf u t.1=pv (u.bP.take t.2.toNat)) (fun t=>(u.bP.length - t.2).toNat) ⟨by simp,by simp,by simp,fun x hx=>(by cases hx),rfl⟩ (by dsimp only;omega) ?_
 rintro ⟨o,t⟩ ⟨g1,g2,g3,g4,g5⟩
 dsimp only at g1 g2 g3 g4 g5 ⊢
 obtain ⟨n,rfl⟩:=aP g1
 rw[Int.toNat_natCast] at g5
 simp (disch:=omega) only[wr,Int.ofNat_eq_natCast]
 refine bO.bR (bO.ite (fun e=>?_) (fun e=>?_))
 ·simp only[aB] at e
  have hn:n<u.bP.length:=by omega
  have iT:=aWf hn
  refine bO.b5 (fun v:List Int=>(v.length:Int)≤n+1∧(∀ x∈v,kd u x=3)∧varsOf u v=pv (u.bP.take (n+1))) (bO.bQ (bO.call (uN (by decide)) ?_)) (fun v hv=>by refine bO.ret (sE.r ?_);exact ⟨⟨by dsimp only;omega,by dsimp only;omega,by dsimp only;omega,hv.2.1,by dsimp only;rw[show ((n:Int)+1).toNat=n+1 by omega];exact hv.2.2⟩,by dsimp only;omega⟩)
  rintro _ rfl
  have hk:=yJ (u:=u) (d:=n) ⟨by omega,by omega⟩
  refine bO.ite (fun e2=>bO.bY (cS ?_) (bO.b7 ?_)) (fun e2=>?_)
  ·simp only[List.length_singleton];omega
  ·have e2:=beq_iff_eq.1 e2
   refine bO.ret (sE.r ?_)
   refine ⟨by rw[aG,List.length_singleton];omega,fun x hx=>?_,?_⟩
   ·rcases aZ.1 hx with hx | hx
    ·exact g4 x hx
    ·rw[aJ.1 hx];exact e2
   ·rw[aDG,g5,iT,aE (by rw[← e2,hk];rfl)]
    simp [varsOf]
  ·have e2:¬ kd u n=3:=fun q=>e2 (beq_iff_eq.2 q)
   refine bO.ret (sE.r ?_)
   refine ⟨by omega,g4,?_⟩
   rw[g5,iT,aD (by rw[hk] at e2;exact e2)];simp
 ·simp only[aB] at e
  refine bO.ret (sE.l (sE.l ?_))
  refine ⟨by show o.length≤12;omega,g4,?_⟩
  rw[g5,List.take_of_length_le (by omega)]
theorem aKp {K:Nat} {u:cK} (hK:100000<K) (hw:Wf u):cQ (F37 K u) (fun v=>v=pv u.bP):=by
 refine cQ.of ?_
 unfold F37
 refine bO.call (aUK hK hw) (fun r hr=>?_)
 obtain ⟨h1,h2,h3⟩:=hr
 refine bO.b5 (fun v:List eZ=>v=pv u.bP) (bO.bQ (bO.cT ?_)) (fun v hv=>by refine bO.ret (sE.l ?_);exact hv)
 refine bO.loop (fun t:List eZ × Int=>0≤t.2∧t.2≤r.length∧(t.1.length:Int)≤8 * t.2∧t.1=varsOf u (r.take t.2.toNat)) (fun t=>(r.length - t.2).toNat) ⟨by simp,by simp,by simp,rfl⟩ (by dsimp only;omega) ?_
 rintro ⟨o,t⟩ ⟨g1,g2,g3,g4⟩
 dsimp only at g1 g2 g3 g4 ⊢
 obtain ⟨n,rfl⟩:=aP g1
 rw[Int.toNat_natCast] at g4
 simp (disch:=omega) only[wr,Int.ofNat_eq_natCast]
 refine bO.bR (bO.ite (fun e=>?_) (fun e=>?_))
 ·simp only[aB] at e
  have hn:n<r.length:=by omega
  have hx:=gE (h2 _ (c6 (d:=default) hn)) (by decide)
  have hv:=(hw.sz (r.getD n default)).v
  have iT:varsOf u (r.take (n+1))=varsOf u (r.take n)++(dc u (r.getD n default)).cA:=by
   rw[dZ default hn,aDG];simp [varsOf]
  rw[Int.toNat_natCast]
  refine bO.b5 (fun v:List eZ=>(v.length:Int)≤8 * n+8∧v=varsOf u (r.take (n+1))) (bO.bQ (bO.bY (bW (by omega)) (bO.b7 (bO.bY (bW hx) (bO.b7 (bO.bR (bO.bY (cS ?_) (bO.b7 ?_)))))))) (fun v hv=>by refine bO.ret (sE.r ?_);exact ⟨⟨by dsimp only;omega,by dsimp only;omega,by dsimp only;omega,by dsimp only;rw[show ((n:Int)+1).toNat=n+1 by omega];exact hv.2⟩,by dsimp only;omega⟩)
  ·show (o.length+(dc u (r.getD n default)).cA.length) * 80≤_
   omega
  ·refine bO.ret (sE.r ?_)
   refine ⟨?_,?_⟩
   ·show ((o++(dc u (r.getD n default)).cA).length:Int)≤_
    rw[aG];omega
   ·rw[iT,← g4]
 ·simp only[aB] at e
  refine bO.ret (sE.l (sE.l ?_))
  show o=_
  rw[g4,List.take_of_length_le (by omega),h3]
def a6n (d:iR):Nat:=if d.bU=2 then d.bS.countP (fun m=>!m.eT) else if d.bU=3 then 1 else 0
def a35:List iR→Nat
 | []=>0
 | d::r=>a6n d+a35 r
def Cd (u:cK) (w:dS):Prop:=w.dF<0∨Vw u w
end Go.Proofs.YtdbfbedholdjaaaGreat

namespace Go.Proofs.YtdbfbedholdjaaaGreat
open Go Go.Dl
variable [dO]
set_option maxRecDepth 100000
set_option maxHeartbeats 8000000
theorem aJL {m:Nat}:∀ {l:List Nat},(∀ x∈l,x≤m)→bl.mx l≤m
 | [],_=>Nat.zero_le _
 | x::r,h=>by
   have h1:=h x (bA ..)
   have h2:=aJL (l:=r) fun y hy=>h y (aT _ hy)
   show max x (bl.mx r)≤m
   omega
theorem Wf.s4 {u:cK} (hw:Wf u):bl.s4 u≤8:=aJL fun x hx=>by
 obtain ⟨d,hd,rfl⟩:=List.mem_map.1 hx
 exact (hw.all d hd).v
theorem Wf.oA {u:cK} (hw:Wf u):bl.oA u≤6:=aJL fun x hx=>by
 obtain ⟨d,hd,rfl⟩:=List.mem_map.1 hx
 exact (hw.all d hd).m
theorem Wf.chain {u:cK} (hw:Wf u) (d:Int):(chain u d).length≤12:=aS (mK u d) hw.len'
theorem uR {K:Nat} {u:cK} {d:Int} (hK:100000<K) (h:Sm u) (hw:Wf u) (hk:kd u d=2):cQ (F52 K u d) (fun v=>v=rJ u d∧v.length≤96):=by
 have hc:=hw.chain d
 have hm:=hw.s4
 have hmul:(chain u d).length * bl.s4 u≤12 * 8:=Nat.mul_le_mul hc hm
 refine cQ.of ?_
 unfold F52
 refine bO.call aBI ?_
 rintro _ rfl
 refine bO.dN hk ?_
 refine bO.call (yK hK h) ?_
 rintro _ rfl
 refine bO.dN ⟨fun x hx=>bW (lV hx),by omega,by omega⟩ ?_
 refine bO.ret (sE.l ?_)
 refine ⟨?_,?_⟩
 ·unfold rJ
  rw[aD (by omega)];rfl
 ·refine aS (bl.uH (fun x=>(u.bP.getD x.toNat default).cA) (bl.s4 u) (fun x=>bl.aJN u x) (chain u d).reverse) ?_
  rw[List.length_reverse];exact hmul
def p6 (u:cK) (d:Int):List Bytes:=bl.ns u (chain u d).reverse
theorem aBJ {K:Nat} {u:cK} {d:Int} (hK:100000<K) (h:Sm u) (hw:Wf u):cQ (F49 K u d) (fun v=>v=p6 u d∧v.length≤72):=by
 have hc:=hw.chain d
 have hm:=hw.oA
 have hmul:(chain u d).length * bl.oA u≤12 * 6:=Nat.mul_le_mul hc hm
 refine cQ.of ?_
 unfold F49
 refine bO.call (yK hK h) ?_
 rintro _ rfl
 refine bO.dN ⟨fun x hx=>bW (lV hx),by omega,by omega,by omega⟩ ?_
 refine bO.ret (sE.l ?_)
 refine ⟨rfl,?_⟩
 refine aS (bl.uH (fun x=>bl.new (u.bP.getD x.toNat default).bS) (bl.oA u) (fun x=>aS (bl.zP _) (bl.s5 u x)) (chain u d).reverse) ?_
 rw[List.length_reverse];exact hmul
theorem aUL {K:Nat} {l:List Bytes} {s:Bytes} (hK:100000<K) (hl:l.length≤6004):cQ (F48 K l s) (fun v=>v=ix (fun y:Bytes=>s == y) l):=by
 refine cQ.of ?_
 unfold F48
 refine bO.b5 (fun _=>ix (fun y:Bytes=>s == y) l = -1) (bO.bQ (bO.cT ?_)) (fun _ h=>by refine bO.ret (sE.l ?_);exact h.symm)
 refine bO.upI l.length (fun i=>(s == l.getD i default)=false) (by omega) (fun i hi hb=>?_) (fun hb=>?_)
 ·simp (disch:=omega) only[wr,Int.ofNat_eq_natCast]
  refine bO.bR (bO.dN (by simp only[aB];omega) ?_)
  rw[Int.toNat_natCast]
  refine bO.b5 (fun _=>(s == l.getD i default)=false) (bO.bQ (bO.bY (bW (by omega)) (bO.b7 ?_))) (fun _ h=>by refine bO.ret (sE.r ?_);exact ⟨rfl,h⟩)
  refine bO.ite (fun e=>?_) (fun e=>by refine bO.ret (sE.r ?_);simpa using e)
  refine bO.ret (sE.l (sE.r (sE.r ?_)))
  exact (aAS (z:=default) hi hb e).symm
 ·simp (disch:=omega) only[wr,Int.ofNat_eq_natCast]
  refine bO.bR (bO.dA (by simp only[aB];exact Int.lt_irrefl _) ?_)
  refine bO.ret (sE.l (sE.l ?_))
  exact yI (z:=default) hb
theorem aUx {K:Nat} {u:cK} {d:Int} {s:Bytes} (hK:100000<K) (h:Sm u) (hw:Wf u):cQ (F13 K u d s) (fun v=>v=ix (fun y:Bytes=>s == y) (p6 u d)):=by
 refine cQ.of ?_
 unfold F13
 refine bO.call (aBJ hK h hw) ?_
 rintro _ ⟨rfl,hl⟩
 refine bO.call (aUL hK (by omega)) ?_
 rintro _ rfl
 refine bO.ret (sE.l ?_)
 rfl
def plc:List eZ→Bytes→Int→Int
 | [],_,_=>-1
 | x::r,s,a=>if x.cD=s∧0<rn x.cB then a else plc r s (a+rn x.cB)
theorem aKj {K:Nat} {l:List eZ} {s:Bytes} (hK:100000<K) (hl:l.length≤1000):cQ (F51 K l s) (fun v=>v=plc l s 0):=by
 refine cQ.of ?_
 unfold F51
 refine bO.b5 (fun _=>plc l s 0 = -1) (bO.bQ (bO.cT ?_)) (fun _ h=>by refine bO.ret (sE.l ?_);exact h.symm)
 refine bO.loop (fun t:Int × Int=>0≤t.2∧t.2≤l.length∧0≤t.1∧t.1≤10000 * t.2∧plc (l.drop t.2.toNat) s t.1=plc l s 0) (fun t=>(l.length - t.2).toNat) ⟨by simp,by simp,by simp,by simp,rfl⟩ (by dsimp only;omega) ?_
 rintro ⟨a,t⟩ ⟨g1,g2,g3,g4,g5⟩
 dsimp only at g1 g2 g3 g4 g5 ⊢
 obtain ⟨n,rfl⟩:=aP g1
 rw[Int.toNat_natCast] at g5
 simp (disch:=omega) only[wr,Int.ofNat_eq_natCast]
 refine bO.bR (bO.ite (fun e=>?_) (fun e=>?_))
 ·simp only[aB] at e
  have hn:n<l.length:=by omega
  rw[kD default hn,plc] at g5
  rw[Int.toNat_natCast]
  generalize l.getD n default=x at g5
  have hr:=rZ x.cB
  refine bO.b5 (fun v:Int=>0≤v∧v≤10000 * n+10000∧plc (l.drop (n+1)) s v=plc l s 0) (bO.bQ (bO.bY (bW (by omega)) (bO.b7 (bO.call aFv ?_)))) (fun v hv=>by refine bO.ret (sE.r ?_);exact ⟨⟨by dsimp only;omega,by dsimp only;omega,by dsimp only;omega,by dsimp only;omega,by dsimp only;rw[show ((n:Int)+1).toNat=n+1 by omega];exact hv.2.2⟩,by dsimp only;omega⟩)
  rintro _ rfl
  rw[aKh]
  refine bO.bR (bO.ite (fun e2=>?_) (fun e2=>bO.bR ?_))
  ·simp only[aC,beq_iff_eq,aB] at e2
   rw[aE ⟨e2.1,by omega⟩] at g5
   refine bO.ret (sE.l (sE.r (sE.r ?_)))
   exact g5
  ·rw[aD (fun q=>e2 (by simp [q.1,q.2]))] at g5
   rw[wr (by omega) (by omega)]
   refine bO.ret (sE.r ?_)
   exact ⟨by omega,by omega,g5⟩
 ·simp only[aB] at e
  rw[List.drop_eq_nil_of_le (by omega),plc] at g5
  refine bO.ret (sE.l (sE.l ?_))
  exact g5.symm
theorem aUw {K:Nat} {u:cK} {d:Int} {s:Bytes} (hK:100000<K) (h:Sm u) (hw:Wf u):cQ (F14 K u d s) (fun v=>v=if kd u d=2 then plc (rJ u d) s 0 else -1):=by
 refine cQ.of ?_
 unfold F14
 refine bO.call (uN (by decide)) ?_
 rintro _ rfl
 refine bO.ite (fun e=>?_) (fun e=>?_)
 ·simp only[aQ,beq_eq_false_iff_ne] at e
  refine bO.ret (sE.l ?_)
  rw[aD e]
 ·simp only[aQ,Bool.not_eq_false,beq_iff_eq] at e
  refine bO.call (uR hK h hw e) ?_
  rintro _ ⟨rfl,hl⟩
  refine bO.call (aKj hK (by omega)) ?_
  rintro _ rfl
  refine bO.ret (sE.l ?_)
  rw[aE e]
end Go.Proofs.YtdbfbedholdjaaaGreat
