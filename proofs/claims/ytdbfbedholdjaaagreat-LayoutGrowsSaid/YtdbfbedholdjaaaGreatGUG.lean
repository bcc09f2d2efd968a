/- No conditions. -/
import Derived.Test.YtdbfbedholdjaaaGreatGUF
import Derived.Test.YtdbfbedholdjaaaGreatGUE
import Derived.Test.YtdbfbedholdjaaaGreatGLt
set_option linter.unusedVariables false
set_option linter.unusedSimpArgs false
set_option linter.unusedSectionVars false
namespace Go.Proofs.YtdbfbedholdjaaaGreat
open Go Go.Dl
variable [dK]
set_option maxRecDepth 100000
set_option maxHeartbeats 8000000
structure Ds (u:cM) (d:Int) (x:S56):Prop where
 base:x.fV=if 1<(chain u d).length then num u ((chain u d).getD 1 default) 2 else -1
 fields:x.uL=eL (rS u d)
 sigs:x.rO=(qY u d).map fun s=>lV (sC u (nM u d s).1)
 vt:x.pJ.length=x.rO.length
theorem aBl {u:cM} {d:Int} (hk:kd u d=2) {s:Bytes} (h:s∈qY u d):(nM u d s).2=true:=by
 unfold qY bl.ns at h
 obtain ⟨c,hc,hs⟩:=List.mem_flatMap.1 h
 have hc:=List.mem_reverse.1 hc
 unfold bl.new at hs
 obtain ⟨m,hm,rfl⟩:=List.mem_map.1 hs
 have hm:=(List.mem_filter.1 hm).1
 refine aCZ (c:=c) ?_ (aI1 hm (beq_self_eq_true _))
 unfold line
 rw[aF (by omega)];exact hc
theorem aS6 {K:Nat} {u:cM} {d:Int} (hK:100000<K) (h:Sm u) (hw:Wf u) (hk:kd u d=2):cR (F40 K u d) (fun v=>Ds u d v):=by
 have hch:=hw.chain d
 refine cR.of ?_
 unfold F40
 refine bL.call (xN hK h hw hk) ?_
 rintro _ ⟨rfl,hfl⟩
 refine bL.cJ (by decide) (lU hK (by omega)) ?_
 rintro _ rfl
 refine bL.call (xN hK h hw hk) ?_
 rintro _ ⟨rfl,_⟩
 refine bL.call (aKp hK (by omega)) (fun r4 _=>?_)
 refine bL.call (qZ hK h) ?_
 rintro _ rfl
 refine bL.bZ (fun v:Int=>v=if 1<(chain u d).length then num u ((chain u d).getD 1 default) 2 else -1) ?_ (fun b hb=>?_)
 ·refine bL.ite (fun e=>?_) (fun e=>?_)
  ·simp only[aB,Int.ofNat_eq_natCast] at e
   refine bL.bW (bT (by omega)) (bL.bX ?_)
   refine bL.cJ (by decide) (uG hK h) ?_
   rintro _ rfl
   refine bL.ret (sE.r ?_)
   rw[aH (by omega)];rfl
  ·simp only[aB,Int.ofNat_eq_natCast] at e
   refine bL.ret (sE.r ?_)
   rw[aF (by omega)]
 refine bL.call (aJH hK h hw) ?_
 rintro _ ⟨rfl,hsl⟩
 refine bL.bZ (fun v:List Int × List Bytes=>v.2=(qY u d).map (fun s=>lV (sC u (nM u d s).1))∧v.1.length=v.2.length) (bL.bN (bL.c7 ?_)) (fun v hv=>?_)
 ·refine bL.loop (fun t:List Int × List Bytes × Int=>0≤t.2.2∧t.2.2≤(qY u d).length∧t.2.1=((qY u d).take t.2.2.toNat).map (fun s=>lV (sC u (nM u d s).1))∧t.1.length=t.2.1.length) (fun t=>((qY u d).length - t.2.2).toNat) ⟨by simp,by simp,rfl,rfl⟩ (by dsimp only;omega) ?_
  rintro ⟨a,o,t⟩ ⟨g1,g2,g3,g4⟩
  dsimp only at g1 g2 g3 g4 ⊢
  obtain ⟨n,rfl⟩:=aK g1
  rw[Int.toNat_natCast] at g3
  have ho:o.length≤72:=by rw[g3,aW,aS];omega
  simp (disch:=omega) only[wr,Int.ofNat_eq_natCast]
  refine bL.bO (bL.ite (fun e=>?_) (fun e=>?_))
  ·simp only[aB] at e
   have hn:n<(qY u d).length:=by omega
   rw[Int.toNat_natCast]
   have kU:((qY u d).take (n+1)).map (fun s=>lV (sC u (nM u d s).1))=o++[lV (sC u (nM u d ((qY u d).getD n default)).1)]:=by
    rw[eP default hn,List.map_append,← g3];rfl
   have hm:=oG (aBl hk (c9 (d:=default) hn))
   generalize (qY u d).getD n default=s at kU hm
   have hmp:=(hw.sz (nM u d s).1.c6).p _ (c9 (d:=default) (show (nM u d s).1.dJ.toNat<(dc u (nM u d s).1.c6).bQ.length by have:=hm.1.2;omega))
   refine bL.bZ (fun v:List Int × List Bytes=>v.2=((qY u d).take (n+1)).map (fun s=>lV (sC u (nM u d s).1))∧v.1.length=v.2.length) (bL.bN (bL.bW (bT (by omega)) (bL.bX (bL.call (aBk hK h) ?_)))) (fun v hv=>by refine bL.ret (sE.r ?_);exact ⟨⟨by dsimp only;omega,by dsimp only;omega,by dsimp only;rw[show ((n:Int)+1).toNat=n+1 by omega];exact hv.1,hv.2⟩,by dsimp only;omega⟩)
   rintro _ rfl
   refine bL.cJ (by decide) (aFI hK hw) (fun c _=>?_)
   refine bL.bW (cP ?_) (bL.bX (bL.bW (bT hm.1.1) (bL.bW (bT hm.1.2) (bL.bX ?_))))
   ·simp only[List.length_singleton];omega
   refine bL.cJ (by decide) (aBm (m:=sC u (nM u d s).1) hK (aR hmp.1 (by decide))) ?_
   rintro _ rfl
   refine bL.bW (cP ?_) (bL.bX ?_)
   ·simp only[List.length_singleton];omega
   ·refine bL.ret (sE.r ?_)
    refine ⟨kU.symm,?_⟩
    show (a++[c]).length=(o++[_]).length
    rw[aD,aD,g4];rfl
  ·simp only[aB] at e
   rw[List.take_of_length_le (by omega)] at g3
   refine bL.ret (sE.l (sE.l ?_))
   exact ⟨g3,g4⟩
 obtain ⟨v1,v2⟩:=v
 dsimp only at hv
 refine bL.call (aP9 hK h hw) (fun r66 h66=>?_)
 refine bL.call (aS5 (by omega)) (fun nS h67=>?_)
 have a2Z:=h67.1
 refine bL.bW (decide_eq_true a2Z.symm) (bL.bX ?_)
 refine bL.dI (bL.bN (bL.c7 ?_)) (fun tb=>by refine bL.ret (sE.l ?_);exact ⟨hb,rfl,hv.1,hv.2⟩)
 refine bL.loop (fun t:List q9 × Int=>0≤t.2∧t.2≤nS.length∧(t.1.length:Int)=t.2) (fun t=>(nS.length - t.2).toNat) ⟨by simp,by simp,by simp⟩ (by dsimp only;omega) ?_
 rintro ⟨o,t⟩ ⟨g1,g2,g3⟩
 dsimp only at g1 g2 g3 ⊢
 simp (disch:=omega) only[wr,Int.ofNat_eq_natCast]
 refine bL.bO (bL.ite (fun e=>?_) (fun e=>by exact T0))
 simp only[aB] at e
 have hx:=h66.2 _ (h67.2 _ (c9 (d:=default) (show t.toNat<nS.length by omega)))
 generalize nS.getD t.toNat default=f at hx
 have hfm:=(hw.sz f).m
 refine bL.bZ (fun v:List q9=>(v.length:Int)=t+1) (bL.bN (bL.bW (bT ⟨g1,e⟩) (bL.bX (bL.call (aJI hK h) (fun _ _=>?_))))) (fun v hv=>by refine bL.ret (sE.r ?_);exact ⟨⟨by dsimp only;omega,by dsimp only;omega,hv⟩,by dsimp only;omega⟩)
 refine bL.bW (bT hx) (bL.bX (bL.bO (bL.bO ?_)))
 refine bL.dI (bL.bN (bL.c7 ?_)) (fun sl=>?_)
 ·refine bL.loop (fun s:List Int × Int=>0≤s.2∧s.2≤(dc u f).bQ.length∧(s.1.length:Int)=s.2) (fun s=>((dc u f).bQ.length - s.2).toNat) ⟨by simp,by simp,by simp⟩ (by dsimp only;omega) ?_
  rintro ⟨p,i⟩ ⟨k1,k2,k3⟩
  dsimp only at k1 k2 k3 ⊢
  refine bL.ite (fun e2=>?_) (fun e2=>by exact T0)
  have e2:i<(dc u f).bQ.length:=of_decide_eq_true e2
  rw[show IntKind.i64.wrap (i+1)=i+1 from wr (by omega) (by omega)]
  refine bL.bZ (fun v:List Int=>(v.length:Int)=i+1) (bL.bN (bL.bW (bT ⟨k1,e2⟩) (bL.bX (bL.bO ?_)))) (fun v hv=>by refine bL.ret (sE.r ?_);exact ⟨⟨by dsimp only;omega,by dsimp only;omega,hv⟩,by dsimp only;omega⟩)
  refine bL.cJ (by decide) (aS4 hK h hw) (fun c _=>?_)
  refine bL.bW (cP ?_) (bL.bX ?_)
  ·simp only[List.length_singleton];omega
  ·refine bL.ret (sE.r ?_)
   rw[aD,List.length_singleton];omega
 ·refine bL.bW (cP ?_) (bL.bX ?_)
  ·simp only[List.length_singleton];omega
  ·refine bL.ret (sE.r ?_)
   rw[aD,List.length_singleton];omega
def isI (x:fE):Bool:=x.cO.bR == 6
def isB (x:fE):Bool:=x.cO.bR == 7
def aC5 (x:fE):Bool:=x.kO == 1
def rQ (x:fE):Bool:=x.kO == 2
structure Ad (l:List fE) (a b:gK):Prop where
 lH:b.cK=a.cK
 a1l:b.cS=a.cS
 iW:b.dQ=a.dQ
 globals:b.dS=a.dS
 init:b.dU=a.dU
 a5B:b.eV=a.eV
 a0S:b.eM.length=a.eM.length+l.countP isI
 blocks:b.bY.length=a.bY.length+l.countP isB
 ins:b.iK.length=a.iK.length+l.countP aC5
 outs:b.fJ.length=a.fJ.length+l.countP rQ
theorem Ad.cons {l:List fE} {a b c:gK} {n:Nat} (h:Ad (l.take n) a b) (hn:n<l.length) (h2:Ad [l.getD n default] b c):Ad (l.take (n+1)) a c:=by
 obtain ⟨a1,a2,a3,a4,a5,a6,a7,a8,a9,a10⟩:=h
 obtain ⟨b1,b2,b3,b4,b5,b6,b7,b8,b9,b10⟩:=h2
 rw[eP default hn]
 refine ⟨b1.trans a1,b2.trans a2,b3.trans a3,b4.trans a4,b5.trans a5,b6.trans a6,?_,?_,?_,?_⟩
 all_goals rw[List.countP_append]
 all_goals omega
def Nt (k:Nat) (s:gK):Prop:=s.eM.length≤k∧s.bY.length≤k∧s.iK.length≤k∧s.fJ.length≤k
theorem aS7 {K:Nat} {u:cM} {d:Int} {s:gK} (hK:100000<K) (h:Sm u) (hw:Wf u) (hk:kd u d=3) (hs:Nt 1000 s):cR (F41 K u d s) (fun v=>Ad (dc u d).cH s v):=by
 have hd:=gA hk (by decide)
 have hv:=(hw d hd).prg hk
 have hvl:=(hw.sz d).v
 obtain ⟨n1,n2,n3,n4⟩:=hs
 refine cR.of ?_
 unfold F41
 refine bL.bW (bT hd) (bL.bX (bL.bO (bL.bO ?_)))
 refine bL.bZ (fun v:gK=>Ad (dc u d).cH s v) (bL.bN (bL.c7 ?_)) (fun v hv=>?_)
 ·show bL (iter K _ (s,0)) _
  change ∀ x∈(u.bM.getD d.toNat default).cH,aEf x at hv
  change (u.bM.getD d.toNat default).cH.length≤8 at hvl
  show bL _ (sE (fun v=>Ad (u.bM.getD d.toNat default).cH s v) _)
  generalize (u.bM.getD d.toNat default).cH=l at hv hvl
  refine bL.loop (fun t:gK × Int=>0≤t.2∧t.2≤l.length∧Ad (l.take t.2.toNat) s t.1) (fun t=>(l.length - t.2).toNat) ⟨by simp,by simp,⟨rfl,rfl,rfl,rfl,rfl,rfl,rfl,rfl,rfl,rfl⟩⟩ (by dsimp only;omega) ?_
  rintro ⟨o,t⟩ ⟨g1,g2,g3⟩
  dsimp only at g1 g2 g3 ⊢
  obtain ⟨n,rfl⟩:=aK g1
  rw[Int.toNat_natCast] at g3
  simp (disch:=omega) only[wr,Int.ofNat_eq_natCast]
  refine bL.ite (fun e=>?_) (fun e=>?_)
  ·simp only[aB] at e
   have hn:n<l.length:=by omega
   have hc:=fun c hc2=>g3.cons (c:=c) hn hc2
   have hx:=hv _ (c9 (d:=default) hn)
   have hct:∀ p:fE→Bool,(l.take n).countP p≤8:=fun p=>aR List.countP_le_length (by rw[aS];omega)
   have q1:=g3.a0S
   have q2:=g3.blocks
   have q3:=g3.ins
   have q4:=g3.outs
   have c1:=hct isI
   have c2:=hct isB
   have c3:=hct aC5
   have c4:=hct rQ
   rw[Int.toNat_natCast]
   generalize l.getD n default=x at hc hx
   obtain ⟨hx1,hx2,hx3,hx4⟩:=hx
   refine bL.bZ (fun v:gK=>Ad (l.take (n+1)) s v) (bL.bN (bL.bW (bT (by omega)) (bL.bX (bL.cJ (by decide) (aS3 hK h hw) (fun r _=>?_))))) (fun v hv=>by refine bL.ret (sE.r ?_);exact ⟨⟨by dsimp only;omega,by dsimp only;omega,by dsimp only;rw[show ((n:Int)+1).toNat=n+1 by omega];exact hv⟩,by dsimp only;omega⟩)
   refine bL.bZ (fun v:gK=>Ad (l.take (n+1)) s v) (bL.bN (bL.bO ?_)) (fun v hv=>by refine bL.ret (sE.r ?_);exact hv)
   refine bL.ite (fun e1=>bL.bO ?_) (fun e1=>bL.bO ?_)
   ·have e1:=beq_iff_eq.1 e1
    have aI2:x.kO=0:=Classical.byContradiction fun q=>by have:=hx2 q;omega
    refine bL.cJ (by decide) (q8 hK h) ?_
    rintro _ rfl
    refine bL.cJ (by decide) (uG hK h) (fun _ _=>?_)
    refine bL.bW (cP ?_) (bL.bX ?_)
    ·simp only[List.length_singleton];omega
    ·refine bL.ret (sE.r ?_)
     exact hc _ ⟨rfl,rfl,rfl,rfl,rfl,rfl,by simp [isI,e1],by simp [isB,e1],by simp [aC5,aI2],by simp [rQ,aI2]⟩
   refine bL.ite (fun e2=>bL.bO ?_) (fun e2=>bL.bO ?_)
   ·have e2:=beq_iff_eq.1 e2
    have aI2:x.kO=0:=Classical.byContradiction fun q=>by have:=hx2 q;omega
    refine bL.bW (cP ?_) (bL.bX ?_)
    ·simp only[List.length_singleton];omega
    ·refine bL.ret (sE.r ?_)
     exact hc _ ⟨rfl,rfl,rfl,rfl,rfl,rfl,by simp [isI,e2],by simp [isB,e2],by simp [aC5,aI2],by simp [rQ,aI2]⟩
   have f1:isI x=false:=by unfold isI;simpa using e1
   have f2:isB x=false:=by unfold isB;simpa using e2
   refine bL.ite (fun e3=>?_) (fun e3=>bL.bO ?_)
   ·have e3:=beq_iff_eq.1 e3
    refine bL.bW (cP ?_) (bL.bX ?_)
    ·simp only[List.length_singleton];omega
    ·refine bL.ret (sE.r ?_)
     exact hc _ ⟨rfl,rfl,rfl,rfl,rfl,rfl,by simp [f1],by simp [f2],by simp [aC5,e3],by simp [rQ,e3]⟩
   have f3:aC5 x=false:=by unfold aC5;simpa using e3
   refine bL.ite (fun e4=>?_) (fun e4=>?_)
   ·have e4:=beq_iff_eq.1 e4
    refine bL.bW (cP ?_) (bL.bX ?_)
    ·simp only[List.length_singleton];omega
    ·refine bL.ret (sE.r ?_)
     exact hc _ ⟨rfl,rfl,rfl,rfl,rfl,rfl,by simp [f1],by simp [f2],by simp [f3],by simp [rQ,e4]⟩
   ·have f4:rQ x=false:=by unfold rQ;simpa using e4
    refine bL.ret (sE.r ?_)
    exact hc _ ⟨rfl,rfl,rfl,rfl,rfl,rfl,by simp [f1],by simp [f2],by simp [f3],by simp [f4]⟩
  ·simp only[aB] at e
   rw[List.take_of_length_le (by omega)] at g3
   refine bL.ret (sE.l (sE.l ?_))
   exact g3
 ·refine bL.ret (sE.r ?_)
  exact hv
end Go.Proofs.YtdbfbedholdjaaaGreat

namespace Go.Proofs.YtdbfbedholdjaaaGreat
open Go Go.Dl
variable [dK]
set_option maxRecDepth 100000
set_option maxHeartbeats 8000000
def nk (k:Int) (l:List gX):Nat:=l.countP fun x=>x.bR == k
theorem aKs {k:Int} {l:List gX} {n:Nat} (h:n<l.length):nk k (l.take (n+1))=nk k (l.take n)+(if (l.getD n default).bR=k then 1 else 0):=by
 unfold nk
 rw[eP default h,List.countP_append,List.countP_singleton]
 simp only[beq_iff_eq]
theorem aQa (k:Int) (l:List gX) (n:Nat):nk k (l.take n)≤l.length:=aR List.countP_le_length (by rw[aS];omega)
structure Iv (u:cM) (n:Nat) (s:gK):Prop where
 fa:s.cK.length=nk 1 (u.bM.take n)
 cl:s.cS.length=nk 2 (u.bM.take n)
 ds:∀ d:Nat,d<n→(u.bM.getD d default).bR=2→Ds u d (s.cS.getD (nk 2 (u.bM.take d)) default)
 co:s.dQ=[]
 it:s.eM.length=(pv (u.bM.take n)).countP isI
 bl:s.bY.length=(pv (u.bM.take n)).countP isB
 ii:s.iK.length=(pv (u.bM.take n)).countP aC5
 oo:s.fJ.length=(pv (u.bM.take n)).countP rQ
 jb:s.eV.length=nk 4 (u.bM.take n)
 gl:s.dS.length=jT (pv u.bM)
 ini:s.dU.length=jT (pv u.bM)
theorem Iv.step {u:cM} {n:Nat} {s s':gK} (h:Iv u n s) (hn:n<u.bM.length)
 (h1:s'.cK.length=s.cK.length+(if (u.bM.getD n default).bR=1 then 1 else 0))
 (h2:s'.cS.length=s.cS.length+(if (u.bM.getD n default).bR=2 then 1 else 0))
 (h3:∀ i,i<s.cS.length→s'.cS.getD i default=s.cS.getD i default)
 (h4:(u.bM.getD n default).bR=2→Ds u n (s'.cS.getD s.cS.length default))
 (h5:s'.dQ=[]) (h6:s'.eV.length=s.eV.length+(if (u.bM.getD n default).bR=4 then 1 else 0))
 (h7:s'.dS=s.dS) (h8:s'.dU=s.dU)
 (h9:∀ l,l=(if (u.bM.getD n default).bR=3 then (u.bM.getD n default).cH else [])→s'.eM.length=s.eM.length+l.countP isI∧s'.bY.length=s.bY.length+l.countP isB∧s'.iK.length=s.iK.length+l.countP aC5∧s'.fJ.length=s.fJ.length+l.countP rQ):Iv u (n+1) s':=by
 obtain ⟨a1,a2,a3,a4,a5,a6,a7,a8,a9,a10,a11⟩:=h
 obtain ⟨b1,b2,b3,b4⟩:=h9 _ rfl
 refine ⟨by rw[aKs hn];omega,by rw[aKs hn];omega,fun d hd hk=>?_,h5,?_,?_,?_,?_,by rw[aKs hn];omega,by rw[h7];exact a10,by rw[h8];exact a11⟩
 ·by_cases e:d=n
  ·subst e
   rw[← a2];exact h4 hk
  ·have hlt:nk 2 (u.bM.take d)<s.cS.length:=by
    have h1:=aKs (k:=2) (l:=u.bM) (n:=d) (by omega)
    rw[aH hk] at h1
    have hm:nk 2 (u.bM.take (d+1))≤nk 2 (u.bM.take n):=by
     unfold nk
     have e2:u.bM.take n=u.bM.take (d+1)++(u.bM.take n).drop (d+1):=by
      have:=List.take_append_drop (d+1) (u.bM.take n)
      rw[List.take_take,show min (d+1) n=d+1 by omega] at this
      exact this.symm
     rw[e2,List.countP_append];omega
    omega
   rw[h3 _ hlt]
   exact a3 d (by omega) hk
 all_goals rw[aM6 hn,List.countP_append]
 all_goals omega
theorem aQb {α:Type} {l:List α} {x z:α} {i:Nat} (h:i<l.length):(l++[x]).getD i z=l.getD i z:=by
 rw[List.getD,List.getD,List.getElem?_append_left h]
theorem aLY {α:Type} {l:List α} {x z:α}:(l++[x]).getD l.length z=x:=by
 rw[List.getD,List.getElem?_append_right (aJ _)];simp
structure Im (u:cM) (s:gK):Prop where
 fa:s.cK.length=nk 1 u.bM
 cl:s.cS.length=nk 2 u.bM
 ds:∀ d:Nat,d<u.bM.length→(u.bM.getD d default).bR=2→Ds u d (s.cS.getD (nk 2 (u.bM.take d)) default)
 co:s.dQ.length=tV u.bM
 it:s.eM.length=(pv u.bM).countP isI
 bl:s.bY.length=(pv u.bM).countP isB
 ii:s.iK.length=(pv u.bM).countP aC5
 oo:s.fJ.length=(pv u.bM).countP rQ
 jb:s.eV.length=nk 4 u.bM
 gl:s.dS.length=jT (pv u.bM)
 ini:s.dU.length=jT (pv u.bM)
abbrev T9:Type:=(List (List Bytes)) × (List S56) × (List uF) × (List Int) × Bytes × (List Int) × (List Int) × (List jU) × (List jU) × (List S85) × Int × Int
def to9 (t:T9):gK:=⟨t.1,t.2.1,t.2.2.1,t.2.2.2.1,t.2.2.2.2.1,t.2.2.2.2.2.1,t.2.2.2.2.2.2.1,t.2.2.2.2.2.2.2.1,t.2.2.2.2.2.2.2.2.1,t.2.2.2.2.2.2.2.2.2.1,t.2.2.2.2.2.2.2.2.2.2.1,t.2.2.2.2.2.2.2.2.2.2.2⟩
theorem aU9 {K:Nat} {u:cM} (hK:100000<K) (h:Sm u) (hw:Wf u):cR (F9 K u) (fun v=>Im u v):=by
 have hl:=hw.len'
 have hpv:=zO hw.all
 refine cR.of ?_
 unfold F9
 refine bL.call (aBn hK hw) ?_
 rintro _ rfl
 refine bL.cJ (by decide) (lU hK (by omega)) ?_
 rintro _ rfl
 refine bL.call (aBn hK hw) ?_
 rintro _ rfl
 refine bL.call (aP7 hK (by omega)) (fun r4 h4=>?_)
 refine bL.bZ (fun v:T9=>Iv u u.bM.length (to9 v)) (bL.bN (bL.c7 ?_)) (fun v hv=>?_)
 ·refine bL.loop (fun t:(List (List Bytes)) × (List S56) × (List uF) × (List Int) × Bytes × (List Int) × (List Int) × (List jU) × (List jU) × (List S85) × Int × Int × Int=>0≤t.2.2.2.2.2.2.2.2.2.2.2.2∧t.2.2.2.2.2.2.2.2.2.2.2.2≤u.bM.length∧Iv u t.2.2.2.2.2.2.2.2.2.2.2.2.toNat ⟨t.1,t.2.1,t.2.2.1,t.2.2.2.1,t.2.2.2.2.1,t.2.2.2.2.2.1,t.2.2.2.2.2.2.1,t.2.2.2.2.2.2.2.1,t.2.2.2.2.2.2.2.2.1,t.2.2.2.2.2.2.2.2.2.1,t.2.2.2.2.2.2.2.2.2.2.1,t.2.2.2.2.2.2.2.2.2.2.2.1⟩) (fun t=>(u.bM.length - t.2.2.2.2.2.2.2.2.2.2.2.2).toNat) ⟨by simp,by simp,⟨rfl,rfl,fun d hd=>by simp at hd,rfl,rfl,rfl,rfl,rfl,rfl,lG _,h4⟩⟩ (by dsimp only;omega) ?_
  rintro ⟨f1,f2,f3,f4,f5,f6,f7,f8,f9,f10,f11,f12,t⟩ ⟨g1,g2,g3⟩
  dsimp only at g1 g2 g3 ⊢
  obtain ⟨n,rfl⟩:=aK g1
  rw[Int.toNat_natCast] at g3
  rw[show IntKind.i64.wrap ((n:Int)+1)=n+1 from wr (by omega) (by omega)]
  refine bL.bO (bL.ite (fun e=>?_) (fun e=>?_))
  ·simp only[aB,Int.ofNat_eq_natCast] at e
   have hn:n<u.bM.length:=by omega
   have st:=fun s'=>g3.step (s':=s') hn
   have m1:=g3.fa
   have m2:=g3.cl
   have m3:=g3.it
   have m4:=g3.bl
   have m5:=g3.ii
   have m6:=g3.oo
   have m7:=g3.jb
   have m8:=g3.co
   dsimp only at m1 m2 m3 m4 m5 m6 m7 m8
   have n1:=aQa 1 u.bM n
   have n2:=aQa 2 u.bM n
   have n4:=aQa 4 u.bM n
   have npv:∀ p:fE→Bool,(pv (u.bM.take n)).countP p≤96:=fun p=>aR List.countP_le_length (by
    have:=zO (l:=u.bM.take n) (fun d hd=>hw.all d (List.mem_of_mem_take hd))
    rw[aS] at this;omega)
   have p1:=npv isI
   have p2:=npv isB
   have p3:=npv aC5
   have p4:=npv rQ
   have hkd:=aCe (u:=u) (d:=n) ⟨by omega,by omega⟩
   have hdn:dc u n=u.bM.getD n default:=by rw[dc,Int.toNat_natCast]
   rw[hdn] at hkd
   refine bL.bZ (fun s:gK=>Iv u (n+1) s) (bL.bN (bL.bW (bT (by omega)) (bL.bX (bL.bO ?_)))) (fun s hs=>by refine bL.bO (bL.ret (sE.r ?_));exact ⟨⟨by dsimp only;omega,by dsimp only;omega,by dsimp only;rw[show ((n:Int)+1).toNat=n+1 by omega];exact hs⟩,by dsimp only;omega⟩)
   rw[Int.toNat_natCast]
   refine bL.bZ (fun s:gK=>Iv u (n+1) s) (bL.bN (bL.ite (fun e1=>bL.bO (bL.bO ?_)) (fun e1=>bL.ite (fun e2=>?_) (fun e2=>bL.ite (fun e3=>?_) (fun e3=>bL.ite (fun e4=>bL.bO ?_) (fun e4=>?_)))))) (fun s hs=>by refine bL.ret (sE.r ?_);exact hs)
   ·have e1:=beq_iff_eq.1 e1
    have hsz:=hw.sz n
    rw[hdn] at hsz
    have hm:=hsz.m
    have hp:=hsz.p
    refine bL.dI (bL.bN (bL.c7 ?_)) (fun sg=>?_)
    ·generalize (u.bM.getD n default).bQ=ms at hm hp
     refine bL.loop (fun s:List Bytes × Int=>0≤s.2∧s.2≤ms.length∧(s.1.length:Int)=s.2) (fun s=>(ms.length - s.2).toNat) ⟨by simp,by simp,by simp⟩ (by dsimp only;omega) ?_
     rintro ⟨p,i⟩ ⟨k1,k2,k3⟩
     dsimp only at k1 k2 k3 ⊢
     refine bL.ite (fun e2=>?_) (fun e2=>by exact T0)
     simp only[aB,Int.ofNat_eq_natCast] at e2
     rw[show IntKind.i64.wrap (i+1)=i+1 from wr (by omega) (by omega)]
     have hpm:=hp _ (c9 (d:=default) (show i.toNat<ms.length by omega))
     refine bL.bZ (fun v:List Bytes=>(v.length:Int)=i+1) (bL.bN (bL.bW (bT ⟨k1,e2⟩) (bL.bX (bL.call (aBm hK (aR hpm.1 (by decide))) (fun _ _=>bL.bW (cP ?_) (bL.bX ?_)))))) (fun v hv=>by refine bL.ret (sE.r ?_);exact ⟨⟨by dsimp only;omega,by dsimp only;omega,hv⟩,by dsimp only;omega⟩)
     ·simp only[List.length_singleton];omega
     ·refine bL.ret (sE.r ?_)
      rw[aD,List.length_singleton];omega
    ·refine bL.bW (cP ?_) (bL.bX ?_)
     ·simp only[List.length_singleton];omega
     ·refine bL.ret (sE.r ?_)
      refine st _ ?_ ?_ (fun i hi=>rfl) (fun q=>by omega) m8 ?_ rfl rfl ?_
      ·rw[aH e1];simp
      ·rw[aF (by omega)];rfl
      ·rw[aF (by omega)];rfl
      ·rintro _ rfl
       rw[aF (by omega)];exact ⟨rfl,rfl,rfl,rfl⟩
   ·have e2:=beq_iff_eq.1 e2
    refine bL.call (aS6 hK h hw (by rw[hkd];exact e2)) (fun r hr=>?_)
    refine bL.bW (cP ?_) (bL.bX ?_)
    ·simp only[List.length_singleton];omega
    ·refine bL.ret (sE.r ?_)
     refine st _ ?_ ?_ (fun i hi=>aQb hi) (fun q=>?_) m8 ?_ rfl rfl ?_
     ·rw[aF (by omega)];rfl
     ·rw[aH e2];simp
     ·show Ds u n ((f2++[r]).getD f2.length default)
      rw[aLY];exact hr
     ·rw[aF (by omega)];rfl
     ·rintro _ rfl
      rw[aF (by omega)];exact ⟨rfl,rfl,rfl,rfl⟩
   ·have e3:=beq_iff_eq.1 e3
    refine bL.call (aS7 hK h hw (by rw[hkd];exact e3) ⟨by dsimp only;omega,by dsimp only;omega,by dsimp only;omega,by dsimp only;omega⟩) (fun r hr=>?_)
    rw[hdn] at hr
    refine bL.ret (sE.r ?_)
    obtain ⟨b1,b2,b3,b4,b5,b6,b7,b8,b9,b10⟩:=hr
    refine st r ?_ ?_ (fun i hi=>by rw[b2]) (fun q=>by omega) (b3.trans m8) ?_ b4 b5 ?_
    ·rw[aF (by omega),b1];rfl
    ·rw[aF (by omega),b2];rfl
    ·rw[aF (by omega),b6];rfl
    ·rintro _ rfl
     rw[aH e3];exact ⟨b7,b8,b9,b10⟩
   ·have e4:=beq_iff_eq.1 e4
    refine bL.call (q8 hK h) (fun _ _=>bL.bO (bL.bO ?_))
    refine bL.cJ (by decide) (aFI hK hw) (fun _ _=>?_)
    refine bL.bW (cP ?_) (bL.bX ?_)
    ·simp only[List.length_singleton];omega
    ·refine bL.ret (sE.r ?_)
     refine st _ ?_ ?_ (fun i hi=>rfl) (fun q=>by omega) m8 ?_ rfl rfl ?_
     ·rw[aF (by omega)];rfl
     ·rw[aF (by omega)];rfl
     ·rw[aH e4];simp
     ·rintro _ rfl
      rw[aF (by omega)];exact ⟨rfl,rfl,rfl,rfl⟩
   ·simp only[beq_iff_eq] at e1 e2 e3 e4
    refine bL.ret (sE.r ?_)
    refine st _ ?_ ?_ (fun i hi=>rfl) (fun q=>absurd q e2) m8 ?_ rfl rfl ?_
    ·rw[aF e1];rfl
    ·rw[aF e2];rfl
    ·rw[aF e4];rfl
    ·rintro _ rfl
     rw[aF e3];exact ⟨rfl,rfl,rfl,rfl⟩
  ·simp only[aB,Int.ofNat_eq_natCast] at e
   have hnl:n=u.bM.length:=by omega
   subst hnl
   refine bL.ret (sE.l (sE.l ?_))
   exact g3
 ·obtain ⟨a1,a2,a3,a4,a5,a6,a7,a8,a9,a10,a11⟩:=hv
  rw[List.take_length] at a1 a2 a5 a6 a7 a8 a9
  refine bL.call (aKr hK hw) (fun r hr=>?_)
  obtain ⟨r1,r2,r3⟩:=hr
  refine bL.bZ (fun o:List uF=>o.length=tV u.bM) (bL.bN (bL.c7 ?_)) (fun o ho=>?_)
  ·have mG:v.2.2.1=[]:=a4
   refine bL.loop (fun t:List uF × Int=>0≤t.2∧t.2≤r.length∧(t.1.length:Int)=t.2) (fun t=>(r.length - t.2).toNat) ⟨by simp,by simp,by rw[mG];rfl⟩ (by dsimp only;omega) ?_
   rintro ⟨o,t⟩ ⟨g1,g2,g3⟩
   dsimp only at g1 g2 g3 ⊢
   simp (disch:=omega) only[wr,Int.ofNat_eq_natCast]
   refine bL.bO (bL.ite (fun e=>?_) (fun e=>?_))
   ·simp only[aB] at e
    have hc:=r3 _ (c9 (d:=default) (show t.toNat<r.length by omega))
    refine bL.bZ (fun o:List uF=>(o.length:Int)=t+1) (bL.bN (bL.bW (bT ⟨g1,e⟩) (bL.bX (bL.call (aS2 hK h hw hc) (fun _ _=>bL.bW (cP ?_) (bL.bX ?_)))))) (fun o ho=>by refine bL.ret (sE.r ?_);exact ⟨⟨by dsimp only;omega,by dsimp only;omega,ho⟩,by dsimp only;omega⟩)
    ·simp only[List.length_singleton];omega
    ·refine bL.ret (sE.r ?_)
     rw[aD,List.length_singleton];omega
   ·simp only[aB] at e
    refine bL.ret (sE.l (sE.l ?_))
    show o.length=_
    omega
  ·refine bL.ret (sE.l ?_)
   exact ⟨a1,a2,a3,ho,a5,a6,a7,a8,a9,a10,a11⟩
end Go.Proofs.YtdbfbedholdjaaaGreat

namespace Go.Proofs.YtdbfbedholdjaaaGreat
open Go Go.Dl
variable [dK]
set_option maxRecDepth 100000
set_option maxHeartbeats 8000000
theorem a25:bV (F7 200000000)=some true:=by kernel_rfl
theorem aIf:cR (F7 200000000) (fun v=>v=true):=⟨_,a25,rfl⟩
theorem aJC (x:fE):(isB x=true)=(x.cO.bR=7):=by unfold isB;rw[beq_iff_eq]
end Go.Proofs.YtdbfbedholdjaaaGreat

namespace Go.Proofs.YtdbfbedholdjaaaGreat
open Go Go.Dl
variable [dK]
set_option maxRecDepth 100000
set_option maxHeartbeats 8000000
abbrev bs (u:cM) (d:Int):Int:=kY u (dc u d).fV
theorem a0U {u:cM} (hw:Wf u) (hn:Nm u) {d:Int} (hk:kd u d=2) (hb:kd u (bs u d)=2):bs u d<d:=by
 have hd:=gA hk (by decide)
 rcases ((hw d hd).cls hk).base with h | h
 ·exfalso
  have hd':=gA hb (by decide)
  have hq:=(aUf (p:=fun x:gX=>x.cD == (dc u d).fV) (default:gX) (show 0≤ix (fun x:gX=>x.cD == (dc u d).fV) u.bM from hd'.1)).2
  have hm:dc u (bs u d)∈u.bM:=c9 (by omega)
  refine hn _ hm (by rw[← aCe hd'];exact hb) ?_
  rw[← h]
  exact beq_iff_eq.1 hq
 ·exact h.2
theorem mV {u:cM} {d:Int} (hk:kd u d≠2) (n:Nat) (out:List Int):chF u n out d=out:=by
 cases n with
 | zero=>rfl
 | succ n=>rw[chF,aF (fun h=>hk h.1)]
theorem aD9 {u:cM} (hw:Wf u) (hn:Nm u):∀ (k:Nat) (d:Int),d<k→∀ (n:Nat) (out:List Int),(∀ x∈out,d<x)→d<n→chF u n out d=out++chF u (d.toNat+1) [] d:=by
 intro k
 induction k with
 | zero =>
   intro d hd n out ho hdn
   have hk:kd u d≠2:=fun e=>by have:=gA e (by decide);omega
   rw[mV hk,mV hk,List.append_nil]
 | succ k ih =>
   intro d hd n out ho hdn
   by_cases hk:kd u d=2
   ·have hd0:=gA hk (by decide)
    obtain ⟨n,rfl⟩:∃ m,n=m+1:=⟨n - 1,by omega⟩
    have hc:out.contains d=false:=by
     cases e:out.contains d with
     | false=>rfl
     | true=>exact absurd (ho d (by simpa using e)) (by omega)
    rw[chF,aH ⟨hk,hc⟩,chF,aH ⟨hk,rfl⟩,List.nil_append]
    by_cases hb:kd u (bs u d)=2
    ·have hlt:=a0U hw hn hk hb
     have hb0:=gA hb (by decide)
     have h1:=ih (bs u d) (by omega) n (out++[d]) (fun x hx=>by
      rcases aX.1 hx with hx | hx
      ·have:=ho x hx;omega
      ·rw[aL.1 hx];exact hlt) (by omega)
     have h2:=ih (bs u d) (by omega) d.toNat [d] (fun x hx=>by rw[aL.1 hx];exact hlt) (by omega)
     rw[h1,h2,List.append_assoc]
    ·rw[mV hb,mV hb]
   ·rw[mV hk,mV hk,List.append_nil]
structure Bd (u:cM) (d:Int):Prop where
 k:kd u d=2
 kb:kd u (bs u d)=2
 lt:bs u d<d
 ch:chain u d=d::chain u (bs u d)
 at1:(chain u d).getD 1 default=bs u d
theorem aVt {α:Type} {p:α→Bool} {a b:List α} (h:0≤ix p a):ix p (a++b)=ix p a:=by
 unfold ix at h ⊢
 split at h
 ·rename_i e
  rw[List.findIdx_append,aH e,aH e,aH (by rw[aD];omega)]
 ·omega
end Go.Proofs.YtdbfbedholdjaaaGreat

namespace Go.Proofs.YtdbfbedholdjaaaGreat
open Go Go.Dl
variable [dK]
set_option maxRecDepth 100000
set_option maxHeartbeats 8000000
theorem bL.aDB {α X:Type} {v w:X} {f:X→Option α} {Q:α→Prop} (e:v=w) (h:bL (f w) Q):bL (Go.Dl.bO v f) Q:=by subst e;exact h
theorem aJL {K:Nat} {a:List Bytes} (hK:100000<K) (hl:a.length≤1000):cR (F12 K a a) (fun v=>v=true):=by
 refine cR.of ?_
 unfold F12
 refine bL.bO (bL.dN (by simp) ?_)
 refine bL.dI (bL.bN (bL.c7 ?_)) (fun _=>bL.ret (sE.l rfl))
 refine bL.up a.length (by omega) (fun i hi=>?_) ?_
 ·refine bL.bO (bL.dV (by simpa using hi) ?_)
  refine bL.dI (bL.bN (bL.bW (bT (by omega)) (bL.bW (bT (by omega)) (bL.bX (bL.bO (bL.dN (by simp) (bL.ret (sE.r trivial)))))))) (fun _=>?_)
  rw[wr (by omega) (by omega)]
  exact bL.ret (sE.r ⟨rfl,trivial⟩)
 ·exact bL.bO (bL.dN (by simp) (bL.ret (sE.l (sE.l trivial))))
theorem aRm {u:cM} (hw:Wf u) (d:Int):(qY u d).length≤72:=by
 have hmul:(chain u d).length * bl.nZ u≤12 * 6:=Nat.mul_le_mul (hw.chain d) hw.nZ
 refine aR (bl.tX (fun x=>bl.new (u.bM.getD x.toNat default).bQ) (bl.nZ u) (fun x=>aR (bl.aEj _) (bl.sJ u x)) (chain u d).reverse) ?_
 rw[List.length_reverse];exact hmul
structure Pf (x y:S56):Prop where
 f:∃ l,x.uL=y.uL++l
 s:∃ l,x.rO=y.rO++l
 n:y.rO.length≤72
 v:x.pJ.length=x.rO.length
end Go.Proofs.YtdbfbedholdjaaaGreat
