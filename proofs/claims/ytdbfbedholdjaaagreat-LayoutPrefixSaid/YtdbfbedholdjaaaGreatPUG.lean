/- No conditions. -/
import Derived.Test.YtdbfbedholdjaaaGreatPUF
import Derived.Test.YtdbfbedholdjaaaGreatPUE
import Derived.Test.YtdbfbedholdjaaaGreatPLt
set_option linter.unusedVariables false
set_option linter.unusedSimpArgs false
set_option linter.unusedSectionVars false
namespace Go.Proofs.YtdbfbedholdjaaaGreat
open Go Go.Dl
variable [dW]
set_option maxRecDepth 100000
set_option maxHeartbeats 8000000
structure Ds (u:cZ) (d:Int) (x:S56):Prop where
 base:x.j6=if 1<(chain u d).length then num u ((chain u d).getD 1 default) 2 else -1
 fields:x.dV=iP (s9 u d)
 sigs:x.fM=(sls u d).map fun s=>rE (mof u (u7 u d s).1)
 vt:x.xJ.length=x.fM.length
theorem aLt {u:cZ} {d:Int} (hk:kd u d=2) {s:Bytes} (h:s∈sls u d):(u7 u d s).2=true:=by
 unfold sls bl.ns at h
 obtain ⟨c,hc,hs⟩:=List.mem_flatMap.1 h
 have hc:=List.mem_reverse.1 hc
 unfold bl.new at hs
 obtain ⟨m,hm,rfl⟩:=List.mem_map.1 hs
 have hm:=(List.mem_filter.1 hm).1
 refine aAO (c:=c) ?_ (aEi hm (beq_self_eq_true _))
 unfold line
 rw[aG (by omega)];exact hc
theorem aSK {K:Nat} {u:cZ} {d:Int} (hK:100000<K) (h:Sm u) (hw:Wf u) (hk:kd u d=2):dA (F40 K u d) (fun v=>Ds u d v):=by
 have hch:=hw.chain d
 refine dA.of ?_
 unfold F40
 refine bI.call (aGp hK h hw hk) ?_
 rintro _ ⟨rfl,hfl⟩
 refine bI.cX (by decide) (xL hK (by omega)) ?_
 rintro _ rfl
 refine bI.call (aGp hK h hw hk) ?_
 rintro _ ⟨rfl,_⟩
 refine bI.call (aLl hK (by omega)) (fun r4 _=>?_)
 refine bI.call (xK hK h) ?_
 rintro _ rfl
 refine bI.cP (fun v:Int=>v=if 1<(chain u d).length then num u ((chain u d).getD 1 default) 2 else -1) ?_ (fun b hb=>?_)
 ·refine bI.ite (fun e=>?_) (fun e=>?_)
  ·simp only[aB,Int.ofNat_eq_natCast] at e
   refine bI.bW (bR (by omega)) (bI.cD ?_)
   refine bI.cX (by decide) (aAQ hK h) ?_
   rintro _ rfl
   refine bI.ret (sE.r ?_)
   rw[aH (by omega)];rfl
  ·simp only[aB,Int.ofNat_eq_natCast] at e
   refine bI.ret (sE.r ?_)
   rw[aG (by omega)]
 refine bI.call (aLq hK h hw) ?_
 rintro _ ⟨rfl,hsl⟩
 refine bI.cP (fun v:List Int × List Bytes=>v.2=(sls u d).map (fun s=>rE (mof u (u7 u d s).1))∧v.1.length=v.2.length) (bI.bJ (bI.dK ?_)) (fun v hv=>?_)
 ·refine bI.loop (fun t:List Int × List Bytes × Int=>0≤t.2.2∧t.2.2≤(sls u d).length∧t.2.1=((sls u d).take t.2.2.toNat).map (fun s=>rE (mof u (u7 u d s).1))∧t.1.length=t.2.1.length) (fun t=>((sls u d).length - t.2.2).toNat) ⟨by simp,by simp,rfl,rfl⟩ (by dsimp only;omega) ?_
  rintro ⟨a,o,t⟩ ⟨g1,g2,g3,g4⟩
  dsimp only at g1 g2 g3 g4 ⊢
  obtain ⟨n,rfl⟩:=aJ g1
  rw[Int.toNat_natCast] at g3
  have ho:o.length≤72:=by rw[g3,List.length_map,aU];omega
  simp (disch:=omega) only[wr,Int.ofNat_eq_natCast]
  refine bI.bN (bI.ite (fun e=>?_) (fun e=>?_))
  ·simp only[aB] at e
   have hn:n<(sls u d).length:=by omega
   rw[Int.toNat_natCast]
   have tW:((sls u d).take (n+1)).map (fun s=>rE (mof u (u7 u d s).1))=o++[rE (mof u (u7 u d ((sls u d).getD n default)).1)]:=by
    rw[iO default hn,List.map_append,← g3];rfl
   have hm:=aBr (aLt hk (dQ (d:=default) hn))
   generalize (sls u d).getD n default=s at tW hm
   have hmp:=(hw.sz (u7 u d s).1.c8).p _ (dQ (d:=default) (show (u7 u d s).1.dD.toNat<(dc u (u7 u d s).1.c8).bM.length by have:=hm.1.2;omega))
   refine bI.cP (fun v:List Int × List Bytes=>v.2=((sls u d).take (n+1)).map (fun s=>rE (mof u (u7 u d s).1))∧v.1.length=v.2.length) (bI.bJ (bI.bW (bR (by omega)) (bI.cD (bI.call (aLh hK h) ?_)))) (fun v hv=>by refine bI.ret (sE.r ?_);exact ⟨⟨by dsimp only;omega,by dsimp only;omega,by dsimp only;rw[show ((n:Int)+1).toNat=n+1 by omega];exact hv.1,hv.2⟩,by dsimp only;omega⟩)
   rintro _ rfl
   refine bI.cX (by decide) (aGo hK hw) (fun c _=>?_)
   refine bI.bW (dX ?_) (bI.cD (bI.bW (bR hm.1.1) (bI.bW (bR hm.1.2) (bI.cD ?_))))
   ·simp only[List.length_singleton];omega
   refine bI.cX (by decide) (aLk (m:=mof u (u7 u d s).1) hK (aV hmp.1 (by decide))) ?_
   rintro _ rfl
   refine bI.bW (dX ?_) (bI.cD ?_)
   ·simp only[List.length_singleton];omega
   ·refine bI.ret (sE.r ?_)
    refine ⟨tW.symm,?_⟩
    show (a++[c]).length=(o++[_]).length
    rw[aE,aE,g4];rfl
  ·simp only[aB] at e
   rw[List.take_of_length_le (by omega)] at g3
   refine bI.ret (sE.l (sE.l ?_))
   exact ⟨g3,g4⟩
 obtain ⟨v1,v2⟩:=v
 dsimp only at hv
 refine bI.call (aP8 hK h hw) (fun r66 h66=>?_)
 refine bI.call (aSJ (by omega)) (fun l9 h67=>?_)
 have a0B:=h67.1
 refine bI.bW (decide_eq_true a0B.symm) (bI.cD ?_)
 refine bI.dS (bI.bJ (bI.dK ?_)) (fun tb=>by refine bI.ret (sE.l ?_);exact ⟨hb,rfl,hv.1,hv.2⟩)
 refine bI.loop (fun t:List nH × Int=>0≤t.2∧t.2≤l9.length∧(t.1.length:Int)=t.2) (fun t=>(l9.length - t.2).toNat) ⟨by simp,by simp,by simp⟩ (by dsimp only;omega) ?_
 rintro ⟨o,t⟩ ⟨g1,g2,g3⟩
 dsimp only at g1 g2 g3 ⊢
 simp (disch:=omega) only[wr,Int.ofNat_eq_natCast]
 refine bI.bN (bI.ite (fun e=>?_) (fun e=>by exact T0))
 simp only[aB] at e
 have hx:=h66.2 _ (h67.2 _ (dQ (d:=default) (show t.toNat<l9.length by omega)))
 generalize l9.getD t.toNat default=f at hx
 have hfm:=(hw.sz f).m
 refine bI.cP (fun v:List nH=>(v.length:Int)=t+1) (bI.bJ (bI.bW (bR ⟨g1,e⟩) (bI.cD (bI.call (aSz hK h) (fun _ _=>?_))))) (fun v hv=>by refine bI.ret (sE.r ?_);exact ⟨⟨by dsimp only;omega,by dsimp only;omega,hv⟩,by dsimp only;omega⟩)
 refine bI.bW (bR hx) (bI.cD (bI.bN (bI.bN ?_)))
 refine bI.dS (bI.bJ (bI.dK ?_)) (fun sl=>?_)
 ·refine bI.loop (fun s:List Int × Int=>0≤s.2∧s.2≤(dc u f).bM.length∧(s.1.length:Int)=s.2) (fun s=>((dc u f).bM.length - s.2).toNat) ⟨by simp,by simp,by simp⟩ (by dsimp only;omega) ?_
  rintro ⟨p,i⟩ ⟨k1,k2,k3⟩
  dsimp only at k1 k2 k3 ⊢
  refine bI.ite (fun e2=>?_) (fun e2=>by exact T0)
  have e2:i<(dc u f).bM.length:=of_decide_eq_true e2
  rw[show IntKind.i64.wrap (i+1)=i+1 from wr (by omega) (by omega)]
  refine bI.cP (fun v:List Int=>(v.length:Int)=i+1) (bI.bJ (bI.bW (bR ⟨k1,e2⟩) (bI.cD (bI.bN ?_)))) (fun v hv=>by refine bI.ret (sE.r ?_);exact ⟨⟨by dsimp only;omega,by dsimp only;omega,hv⟩,by dsimp only;omega⟩)
  refine bI.cX (by decide) (aSI hK h hw) (fun c _=>?_)
  refine bI.bW (dX ?_) (bI.cD ?_)
  ·simp only[List.length_singleton];omega
  ·refine bI.ret (sE.r ?_)
   rw[aE,List.length_singleton];omega
 ·refine bI.bW (dX ?_) (bI.cD ?_)
  ·simp only[List.length_singleton];omega
  ·refine bI.ret (sE.r ?_)
   rw[aE,List.length_singleton];omega
def isI (x:fE):Bool:=x.cQ.bP == 6
def isB (x:fE):Bool:=x.cQ.bP == 7
def aEp (x:fE):Bool:=x.nF == 1
def vB (x:fE):Bool:=x.nF == 2
structure Ad (l:List fE) (a b:jN):Prop where
 vA:b.eB=a.eB
 aZj:b.bQ=a.bQ
 a1H:b.gW=a.gW
 globals:b.fT=a.fT
 init:b.gA=a.gA
 a2Q:b.kW=a.kW
 aYJ:b.eS.length=a.eS.length+l.countP isI
 blocks:b.bY.length=a.bY.length+l.countP isB
 ins:b.kD.length=a.kD.length+l.countP aEp
 outs:b.gC.length=a.gC.length+l.countP vB
theorem Ad.cons {l:List fE} {a b c:jN} {n:Nat} (h:Ad (l.take n) a b) (hn:n<l.length) (h2:Ad [l.getD n default] b c):Ad (l.take (n+1)) a c:=by
 obtain ⟨a1,a2,a3,a4,a5,a6,a7,a8,a9,a10⟩:=h
 obtain ⟨b1,b2,b3,b4,b5,b6,b7,b8,b9,b10⟩:=h2
 rw[iO default hn]
 refine ⟨b1.trans a1,b2.trans a2,b3.trans a3,b4.trans a4,b5.trans a5,b6.trans a6,?_,?_,?_,?_⟩
 all_goals rw[List.countP_append]
 all_goals omega
def Nt (k:Nat) (s:jN):Prop:=s.eS.length≤k∧s.bY.length≤k∧s.kD.length≤k∧s.gC.length≤k
theorem aSL {K:Nat} {u:cZ} {d:Int} {s:jN} (hK:100000<K) (h:Sm u) (hw:Wf u) (hk:kd u d=3) (hs:Nt 1000 s):dA (F41 K u d s) (fun v=>Ad (dc u d).cU s v):=by
 have hd:=gT hk (by decide)
 have hv:=(hw d hd).prg hk
 have hvl:=(hw.sz d).v
 obtain ⟨n1,n2,n3,n4⟩:=hs
 refine dA.of ?_
 unfold F41
 refine bI.bW (bR hd) (bI.cD (bI.bN (bI.bN ?_)))
 refine bI.cP (fun v:jN=>Ad (dc u d).cU s v) (bI.bJ (bI.dK ?_)) (fun v hv=>?_)
 ·show bI (iter K _ (s,0)) _
  change ∀ x∈(u.bK.getD d.toNat default).cU,aFi x at hv
  change (u.bK.getD d.toNat default).cU.length≤8 at hvl
  show bI _ (sE (fun v=>Ad (u.bK.getD d.toNat default).cU s v) _)
  generalize (u.bK.getD d.toNat default).cU=l at hv hvl
  refine bI.loop (fun t:jN × Int=>0≤t.2∧t.2≤l.length∧Ad (l.take t.2.toNat) s t.1) (fun t=>(l.length - t.2).toNat) ⟨by simp,by simp,⟨rfl,rfl,rfl,rfl,rfl,rfl,rfl,rfl,rfl,rfl⟩⟩ (by dsimp only;omega) ?_
  rintro ⟨o,t⟩ ⟨g1,g2,g3⟩
  dsimp only at g1 g2 g3 ⊢
  obtain ⟨n,rfl⟩:=aJ g1
  rw[Int.toNat_natCast] at g3
  simp (disch:=omega) only[wr,Int.ofNat_eq_natCast]
  refine bI.ite (fun e=>?_) (fun e=>?_)
  ·simp only[aB] at e
   have hn:n<l.length:=by omega
   have hc:=fun c hc2=>g3.cons (c:=c) hn hc2
   have hx:=hv _ (dQ (d:=default) hn)
   have hct:∀ p:fE→Bool,(l.take n).countP p≤8:=fun p=>aV List.countP_le_length (by rw[aU];omega)
   have q1:=g3.aYJ
   have q2:=g3.blocks
   have q3:=g3.ins
   have q4:=g3.outs
   have c1:=hct isI
   have c2:=hct isB
   have c3:=hct aEp
   have c4:=hct vB
   rw[Int.toNat_natCast]
   generalize l.getD n default=x at hc hx
   obtain ⟨hx1,hx2,hx3,hx4⟩:=hx
   refine bI.cP (fun v:jN=>Ad (l.take (n+1)) s v) (bI.bJ (bI.bW (bR (by omega)) (bI.cD (bI.cX (by decide) (aSH hK h hw) (fun r _=>?_))))) (fun v hv=>by refine bI.ret (sE.r ?_);exact ⟨⟨by dsimp only;omega,by dsimp only;omega,by dsimp only;rw[show ((n:Int)+1).toNat=n+1 by omega];exact hv⟩,by dsimp only;omega⟩)
   refine bI.cP (fun v:jN=>Ad (l.take (n+1)) s v) (bI.bJ (bI.bN ?_)) (fun v hv=>by refine bI.ret (sE.r ?_);exact hv)
   refine bI.ite (fun e1=>bI.bN ?_) (fun e1=>bI.bN ?_)
   ·have e1:=beq_iff_eq.1 e1
    have aJG:x.nF=0:=Classical.byContradiction fun q=>by have:=hx2 q;omega
    refine bI.cX (by decide) (aCN hK h) ?_
    rintro _ rfl
    refine bI.cX (by decide) (aAQ hK h) (fun _ _=>?_)
    refine bI.bW (dX ?_) (bI.cD ?_)
    ·simp only[List.length_singleton];omega
    ·refine bI.ret (sE.r ?_)
     exact hc _ ⟨rfl,rfl,rfl,rfl,rfl,rfl,by simp [isI,e1],by simp [isB,e1],by simp [aEp,aJG],by simp [vB,aJG]⟩
   refine bI.ite (fun e2=>bI.bN ?_) (fun e2=>bI.bN ?_)
   ·have e2:=beq_iff_eq.1 e2
    have aJG:x.nF=0:=Classical.byContradiction fun q=>by have:=hx2 q;omega
    refine bI.bW (dX ?_) (bI.cD ?_)
    ·simp only[List.length_singleton];omega
    ·refine bI.ret (sE.r ?_)
     exact hc _ ⟨rfl,rfl,rfl,rfl,rfl,rfl,by simp [isI,e2],by simp [isB,e2],by simp [aEp,aJG],by simp [vB,aJG]⟩
   have f1:isI x=false:=by unfold isI;simpa using e1
   have f2:isB x=false:=by unfold isB;simpa using e2
   refine bI.ite (fun e3=>?_) (fun e3=>bI.bN ?_)
   ·have e3:=beq_iff_eq.1 e3
    refine bI.bW (dX ?_) (bI.cD ?_)
    ·simp only[List.length_singleton];omega
    ·refine bI.ret (sE.r ?_)
     exact hc _ ⟨rfl,rfl,rfl,rfl,rfl,rfl,by simp [f1],by simp [f2],by simp [aEp,e3],by simp [vB,e3]⟩
   have f3:aEp x=false:=by unfold aEp;simpa using e3
   refine bI.ite (fun e4=>?_) (fun e4=>?_)
   ·have e4:=beq_iff_eq.1 e4
    refine bI.bW (dX ?_) (bI.cD ?_)
    ·simp only[List.length_singleton];omega
    ·refine bI.ret (sE.r ?_)
     exact hc _ ⟨rfl,rfl,rfl,rfl,rfl,rfl,by simp [f1],by simp [f2],by simp [f3],by simp [vB,e4]⟩
   ·have f4:vB x=false:=by unfold vB;simpa using e4
    refine bI.ret (sE.r ?_)
    exact hc _ ⟨rfl,rfl,rfl,rfl,rfl,rfl,by simp [f1],by simp [f2],by simp [f3],by simp [f4]⟩
  ·simp only[aB] at e
   rw[List.take_of_length_le (by omega)] at g3
   refine bI.ret (sE.l (sE.l ?_))
   exact g3
 ·refine bI.ret (sE.r ?_)
  exact hv
end Go.Proofs.YtdbfbedholdjaaaGreat

namespace Go.Proofs.YtdbfbedholdjaaaGreat
open Go Go.Dl
variable [dW]
set_option maxRecDepth 100000
set_option maxHeartbeats 8000000
def nk (k:Int) (l:List jG):Nat:=l.countP fun x=>x.bP == k
theorem aH9 {k:Int} {l:List jG} {n:Nat} (h:n<l.length):nk k (l.take (n+1))=nk k (l.take n)+(if (l.getD n default).bP=k then 1 else 0):=by
 unfold nk
 rw[iO default h,List.countP_append,List.countP_singleton]
 simp only[beq_iff_eq]
theorem aP9 (k:Int) (l:List jG) (n:Nat):nk k (l.take n)≤l.length:=aV List.countP_le_length (by rw[aU];omega)
structure Iv (u:cZ) (n:Nat) (s:jN):Prop where
 fa:s.eB.length=nk 1 (u.bK.take n)
 cl:s.bQ.length=nk 2 (u.bK.take n)
 ds:∀ d:Nat,d<n→(u.bK.getD d default).bP=2→Ds u d (s.bQ.getD (nk 2 (u.bK.take d)) default)
 co:s.gW=[]
 it:s.eS.length=(pv (u.bK.take n)).countP isI
 bl:s.bY.length=(pv (u.bK.take n)).countP isB
 ii:s.kD.length=(pv (u.bK.take n)).countP aEp
 oo:s.gC.length=(pv (u.bK.take n)).countP vB
 jb:s.kW.length=nk 4 (u.bK.take n)
 gl:s.fT.length=p9 (pv u.bK)
 ini:s.gA.length=p9 (pv u.bK)
theorem Iv.step {u:cZ} {n:Nat} {s s':jN} (h:Iv u n s) (hn:n<u.bK.length)
 (h1:s'.eB.length=s.eB.length+(if (u.bK.getD n default).bP=1 then 1 else 0))
 (h2:s'.bQ.length=s.bQ.length+(if (u.bK.getD n default).bP=2 then 1 else 0))
 (h3:∀ i,i<s.bQ.length→s'.bQ.getD i default=s.bQ.getD i default)
 (h4:(u.bK.getD n default).bP=2→Ds u n (s'.bQ.getD s.bQ.length default))
 (h5:s'.gW=[]) (h6:s'.kW.length=s.kW.length+(if (u.bK.getD n default).bP=4 then 1 else 0))
 (h7:s'.fT=s.fT) (h8:s'.gA=s.gA)
 (h9:∀ l,l=(if (u.bK.getD n default).bP=3 then (u.bK.getD n default).cU else [])→s'.eS.length=s.eS.length+l.countP isI∧s'.bY.length=s.bY.length+l.countP isB∧s'.kD.length=s.kD.length+l.countP aEp∧s'.gC.length=s.gC.length+l.countP vB):Iv u (n+1) s':=by
 obtain ⟨a1,a2,a3,a4,a5,a6,a7,a8,a9,a10,a11⟩:=h
 obtain ⟨b1,b2,b3,b4⟩:=h9 _ rfl
 refine ⟨by rw[aH9 hn];omega,by rw[aH9 hn];omega,fun d hd hk=>?_,h5,?_,?_,?_,?_,by rw[aH9 hn];omega,by rw[h7];exact a10,by rw[h8];exact a11⟩
 ·by_cases e:d=n
  ·subst e
   rw[← a2];exact h4 hk
  ·have hlt:nk 2 (u.bK.take d)<s.bQ.length:=by
    have h1:=aH9 (k:=2) (l:=u.bK) (n:=d) (by omega)
    rw[aH hk] at h1
    have hm:nk 2 (u.bK.take (d+1))≤nk 2 (u.bK.take n):=by
     unfold nk
     have e2:u.bK.take n=u.bK.take (d+1)++(u.bK.take n).drop (d+1):=by
      have:=List.take_append_drop (d+1) (u.bK.take n)
      rw[List.take_take,show min (d+1) n=d+1 by omega] at this
      exact this.symm
     rw[e2,List.countP_append];omega
    omega
   rw[h3 _ hlt]
   exact a3 d (by omega) hk
 all_goals rw[aTF hn,List.countP_append]
 all_goals omega
theorem aQa {α:Type} {l:List α} {x z:α} {i:Nat} (h:i<l.length):(l++[x]).getD i z=l.getD i z:=by
 rw[List.getD,List.getD,List.getElem?_append_left h]
theorem aMQ {α:Type} {l:List α} {x z:α}:(l++[x]).getD l.length z=x:=by
 rw[List.getD,List.getElem?_append_right (aQ _)];simp
structure Im (u:cZ) (s:jN):Prop where
 fa:s.eB.length=nk 1 u.bK
 cl:s.bQ.length=nk 2 u.bK
 ds:∀ d:Nat,d<u.bK.length→(u.bK.getD d default).bP=2→Ds u d (s.bQ.getD (nk 2 (u.bK.take d)) default)
 co:s.gW.length=w9 u.bK
 it:s.eS.length=(pv u.bK).countP isI
 bl:s.bY.length=(pv u.bK).countP isB
 ii:s.kD.length=(pv u.bK).countP aEp
 oo:s.gC.length=(pv u.bK).countP vB
 jb:s.kW.length=nk 4 u.bK
 gl:s.fT.length=p9 (pv u.bK)
 ini:s.gA.length=p9 (pv u.bK)
abbrev T9:Type:=(List (List Bytes)) × (List S56) × (List uX) × (List Int) × Bytes × (List Int) × (List Int) × (List gG) × (List gG) × (List yK) × Int × Int
def to9 (t:T9):jN:=⟨t.1,t.2.1,t.2.2.1,t.2.2.2.1,t.2.2.2.2.1,t.2.2.2.2.2.1,t.2.2.2.2.2.2.1,t.2.2.2.2.2.2.2.1,t.2.2.2.2.2.2.2.2.1,t.2.2.2.2.2.2.2.2.2.1,t.2.2.2.2.2.2.2.2.2.2.1,t.2.2.2.2.2.2.2.2.2.2.2⟩
theorem aVv {K:Nat} {u:cZ} (hK:100000<K) (h:Sm u) (hw:Wf u):dA (F9 K u) (fun v=>Im u v):=by
 have hl:=hw.len'
 have hpv:=aJJ hw.all
 refine dA.of ?_
 unfold F9
 refine bI.call (aLo hK hw) ?_
 rintro _ rfl
 refine bI.cX (by decide) (xL hK (by omega)) ?_
 rintro _ rfl
 refine bI.call (aLo hK hw) ?_
 rintro _ rfl
 refine bI.call (aP6 hK (by omega)) (fun r4 h4=>?_)
 refine bI.cP (fun v:T9=>Iv u u.bK.length (to9 v)) (bI.bJ (bI.dK ?_)) (fun v hv=>?_)
 ·refine bI.loop (fun t:(List (List Bytes)) × (List S56) × (List uX) × (List Int) × Bytes × (List Int) × (List Int) × (List gG) × (List gG) × (List yK) × Int × Int × Int=>0≤t.2.2.2.2.2.2.2.2.2.2.2.2∧t.2.2.2.2.2.2.2.2.2.2.2.2≤u.bK.length∧Iv u t.2.2.2.2.2.2.2.2.2.2.2.2.toNat ⟨t.1,t.2.1,t.2.2.1,t.2.2.2.1,t.2.2.2.2.1,t.2.2.2.2.2.1,t.2.2.2.2.2.2.1,t.2.2.2.2.2.2.2.1,t.2.2.2.2.2.2.2.2.1,t.2.2.2.2.2.2.2.2.2.1,t.2.2.2.2.2.2.2.2.2.2.1,t.2.2.2.2.2.2.2.2.2.2.2.1⟩) (fun t=>(u.bK.length - t.2.2.2.2.2.2.2.2.2.2.2.2).toNat) ⟨by simp,by simp,⟨rfl,rfl,fun d hd=>by simp at hd,rfl,rfl,rfl,rfl,rfl,rfl,sK _,h4⟩⟩ (by dsimp only;omega) ?_
  rintro ⟨f1,f2,f3,f4,f5,f6,f7,f8,f9,f10,f11,f12,t⟩ ⟨g1,g2,g3⟩
  dsimp only at g1 g2 g3 ⊢
  obtain ⟨n,rfl⟩:=aJ g1
  rw[Int.toNat_natCast] at g3
  rw[show IntKind.i64.wrap ((n:Int)+1)=n+1 from wr (by omega) (by omega)]
  refine bI.bN (bI.ite (fun e=>?_) (fun e=>?_))
  ·simp only[aB,Int.ofNat_eq_natCast] at e
   have hn:n<u.bK.length:=by omega
   have st:=fun s'=>g3.step (s':=s') hn
   have m1:=g3.fa
   have m2:=g3.cl
   have m3:=g3.it
   have m4:=g3.bl
   have m5:=g3.ii
   have m6:=g3.oo
   have m7:=g3.jb
   have m8:=g3.co
   dsimp only at m1 m2 m3 m4 m5 m6 m7 m8
   have n1:=aP9 1 u.bK n
   have n2:=aP9 2 u.bK n
   have n4:=aP9 4 u.bK n
   have npv:∀ p:fE→Bool,(pv (u.bK.take n)).countP p≤96:=fun p=>aV List.countP_le_length (by
    have:=aJJ (l:=u.bK.take n) (fun d hd=>hw.all d (List.mem_of_mem_take hd))
    rw[aU] at this;omega)
   have p1:=npv isI
   have p2:=npv isB
   have p3:=npv aEp
   have p4:=npv vB
   have hkd:=aLm (u:=u) (d:=n) ⟨by omega,by omega⟩
   have hdn:dc u n=u.bK.getD n default:=by rw[dc,Int.toNat_natCast]
   rw[hdn] at hkd
   refine bI.cP (fun s:jN=>Iv u (n+1) s) (bI.bJ (bI.bW (bR (by omega)) (bI.cD (bI.bN ?_)))) (fun s hs=>by refine bI.bN (bI.ret (sE.r ?_));exact ⟨⟨by dsimp only;omega,by dsimp only;omega,by dsimp only;rw[show ((n:Int)+1).toNat=n+1 by omega];exact hs⟩,by dsimp only;omega⟩)
   rw[Int.toNat_natCast]
   refine bI.cP (fun s:jN=>Iv u (n+1) s) (bI.bJ (bI.ite (fun e1=>bI.bN (bI.bN ?_)) (fun e1=>bI.ite (fun e2=>?_) (fun e2=>bI.ite (fun e3=>?_) (fun e3=>bI.ite (fun e4=>bI.bN ?_) (fun e4=>?_)))))) (fun s hs=>by refine bI.ret (sE.r ?_);exact hs)
   ·have e1:=beq_iff_eq.1 e1
    have hsz:=hw.sz n
    rw[hdn] at hsz
    have hm:=hsz.m
    have hp:=hsz.p
    refine bI.dS (bI.bJ (bI.dK ?_)) (fun sg=>?_)
    ·generalize (u.bK.getD n default).bM=ms at hm hp
     refine bI.loop (fun s:List Bytes × Int=>0≤s.2∧s.2≤ms.length∧(s.1.length:Int)=s.2) (fun s=>(ms.length - s.2).toNat) ⟨by simp,by simp,by simp⟩ (by dsimp only;omega) ?_
     rintro ⟨p,i⟩ ⟨k1,k2,k3⟩
     dsimp only at k1 k2 k3 ⊢
     refine bI.ite (fun e2=>?_) (fun e2=>by exact T0)
     simp only[aB,Int.ofNat_eq_natCast] at e2
     rw[show IntKind.i64.wrap (i+1)=i+1 from wr (by omega) (by omega)]
     have hpm:=hp _ (dQ (d:=default) (show i.toNat<ms.length by omega))
     refine bI.cP (fun v:List Bytes=>(v.length:Int)=i+1) (bI.bJ (bI.bW (bR ⟨k1,e2⟩) (bI.cD (bI.call (aLk hK (aV hpm.1 (by decide))) (fun _ _=>bI.bW (dX ?_) (bI.cD ?_)))))) (fun v hv=>by refine bI.ret (sE.r ?_);exact ⟨⟨by dsimp only;omega,by dsimp only;omega,hv⟩,by dsimp only;omega⟩)
     ·simp only[List.length_singleton];omega
     ·refine bI.ret (sE.r ?_)
      rw[aE,List.length_singleton];omega
    ·refine bI.bW (dX ?_) (bI.cD ?_)
     ·simp only[List.length_singleton];omega
     ·refine bI.ret (sE.r ?_)
      refine st _ ?_ ?_ (fun i hi=>rfl) (fun q=>by omega) m8 ?_ rfl rfl ?_
      ·rw[aH e1];simp
      ·rw[aG (by omega)];rfl
      ·rw[aG (by omega)];rfl
      ·rintro _ rfl
       rw[aG (by omega)];exact ⟨rfl,rfl,rfl,rfl⟩
   ·have e2:=beq_iff_eq.1 e2
    refine bI.call (aSK hK h hw (by rw[hkd];exact e2)) (fun r hr=>?_)
    refine bI.bW (dX ?_) (bI.cD ?_)
    ·simp only[List.length_singleton];omega
    ·refine bI.ret (sE.r ?_)
     refine st _ ?_ ?_ (fun i hi=>aQa hi) (fun q=>?_) m8 ?_ rfl rfl ?_
     ·rw[aG (by omega)];rfl
     ·rw[aH e2];simp
     ·show Ds u n ((f2++[r]).getD f2.length default)
      rw[aMQ];exact hr
     ·rw[aG (by omega)];rfl
     ·rintro _ rfl
      rw[aG (by omega)];exact ⟨rfl,rfl,rfl,rfl⟩
   ·have e3:=beq_iff_eq.1 e3
    refine bI.call (aSL hK h hw (by rw[hkd];exact e3) ⟨by dsimp only;omega,by dsimp only;omega,by dsimp only;omega,by dsimp only;omega⟩) (fun r hr=>?_)
    rw[hdn] at hr
    refine bI.ret (sE.r ?_)
    obtain ⟨b1,b2,b3,b4,b5,b6,b7,b8,b9,b10⟩:=hr
    refine st r ?_ ?_ (fun i hi=>by rw[b2]) (fun q=>by omega) (b3.trans m8) ?_ b4 b5 ?_
    ·rw[aG (by omega),b1];rfl
    ·rw[aG (by omega),b2];rfl
    ·rw[aG (by omega),b6];rfl
    ·rintro _ rfl
     rw[aH e3];exact ⟨b7,b8,b9,b10⟩
   ·have e4:=beq_iff_eq.1 e4
    refine bI.call (aCN hK h) (fun _ _=>bI.bN (bI.bN ?_))
    refine bI.cX (by decide) (aGo hK hw) (fun _ _=>?_)
    refine bI.bW (dX ?_) (bI.cD ?_)
    ·simp only[List.length_singleton];omega
    ·refine bI.ret (sE.r ?_)
     refine st _ ?_ ?_ (fun i hi=>rfl) (fun q=>by omega) m8 ?_ rfl rfl ?_
     ·rw[aG (by omega)];rfl
     ·rw[aG (by omega)];rfl
     ·rw[aH e4];simp
     ·rintro _ rfl
      rw[aG (by omega)];exact ⟨rfl,rfl,rfl,rfl⟩
   ·simp only[beq_iff_eq] at e1 e2 e3 e4
    refine bI.ret (sE.r ?_)
    refine st _ ?_ ?_ (fun i hi=>rfl) (fun q=>absurd q e2) m8 ?_ rfl rfl ?_
    ·rw[aG e1];rfl
    ·rw[aG e2];rfl
    ·rw[aG e4];rfl
    ·rintro _ rfl
     rw[aG e3];exact ⟨rfl,rfl,rfl,rfl⟩
  ·simp only[aB,Int.ofNat_eq_natCast] at e
   have hnl:n=u.bK.length:=by omega
   subst hnl
   refine bI.ret (sE.l (sE.l ?_))
   exact g3
 ·obtain ⟨a1,a2,a3,a4,a5,a6,a7,a8,a9,a10,a11⟩:=hv
  rw[List.take_length] at a1 a2 a5 a6 a7 a8 a9
  refine bI.call (aLp hK hw) (fun r hr=>?_)
  obtain ⟨r1,r2,r3⟩:=hr
  refine bI.cP (fun o:List uX=>o.length=w9 u.bK) (bI.bJ (bI.dK ?_)) (fun o ho=>?_)
  ·have oR:v.2.2.1=[]:=a4
   refine bI.loop (fun t:List uX × Int=>0≤t.2∧t.2≤r.length∧(t.1.length:Int)=t.2) (fun t=>(r.length - t.2).toNat) ⟨by simp,by simp,by rw[oR];rfl⟩ (by dsimp only;omega) ?_
   rintro ⟨o,t⟩ ⟨g1,g2,g3⟩
   dsimp only at g1 g2 g3 ⊢
   simp (disch:=omega) only[wr,Int.ofNat_eq_natCast]
   refine bI.bN (bI.ite (fun e=>?_) (fun e=>?_))
   ·simp only[aB] at e
    have hc:=r3 _ (dQ (d:=default) (show t.toNat<r.length by omega))
    refine bI.cP (fun o:List uX=>(o.length:Int)=t+1) (bI.bJ (bI.bW (bR ⟨g1,e⟩) (bI.cD (bI.call (aSF hK h hw hc) (fun _ _=>bI.bW (dX ?_) (bI.cD ?_)))))) (fun o ho=>by refine bI.ret (sE.r ?_);exact ⟨⟨by dsimp only;omega,by dsimp only;omega,ho⟩,by dsimp only;omega⟩)
    ·simp only[List.length_singleton];omega
    ·refine bI.ret (sE.r ?_)
     rw[aE,List.length_singleton];omega
   ·simp only[aB] at e
    refine bI.ret (sE.l (sE.l ?_))
    show o.length=_
    omega
  ·refine bI.ret (sE.l ?_)
   exact ⟨a1,a2,a3,ho,a5,a6,a7,a8,a9,a10,a11⟩
end Go.Proofs.YtdbfbedholdjaaaGreat

namespace Go.Proofs.YtdbfbedholdjaaaGreat
open Go Go.Dl
variable [dW]
set_option maxRecDepth 100000
set_option maxHeartbeats 8000000
theorem a0D:bT (F7 200000000)=some true:=by kernel_rfl
theorem aJL:dA (F7 200000000) (fun v=>v=true):=⟨_,a0D,rfl⟩
end Go.Proofs.YtdbfbedholdjaaaGreat

namespace Go.Proofs.YtdbfbedholdjaaaGreat
open Go Go.Dl
variable [dW]
set_option maxRecDepth 100000
set_option maxHeartbeats 8000000
abbrev bs (u:cZ) (d:Int):Int:=fnd u (dc u d).j6
theorem aQm {u:cZ} (hw:Wf u) (hn:Nm u) {d:Int} (hk:kd u d=2) (hb:kd u (bs u d)=2):bs u d<d:=by
 have hd:=gT hk (by decide)
 rcases ((hw d hd).cls hk).base with h | h
 ·exfalso
  have hd':=gT hb (by decide)
  have hq:=(aQi (p:=fun x:jG=>x.cC == (dc u d).j6) (default:jG) (show 0≤ix (fun x:jG=>x.cC == (dc u d).j6) u.bK from hd'.1)).2
  have hm:dc u (bs u d)∈u.bK:=dQ (by omega)
  refine hn _ hm (by rw[← aLm hd'];exact hb) ?_
  rw[← h]
  exact beq_iff_eq.1 hq
 ·exact h.2
theorem oQ {u:cZ} {d:Int} (hk:kd u d≠2) (n:Nat) (out:List Int):chF u n out d=out:=by
 cases n with
 | zero=>rfl
 | succ n=>rw[chF,aG (fun h=>hk h.1)]
theorem aFm {u:cZ} (hw:Wf u) (hn:Nm u):∀ (k:Nat) (d:Int),d<k→∀ (n:Nat) (out:List Int),(∀ x∈out,d<x)→d<n→chF u n out d=out++chF u (d.toNat+1) [] d:=by
 intro k
 induction k with
 | zero =>
   intro d hd n out ho hdn
   have hk:kd u d≠2:=fun e=>by have:=gT e (by decide);omega
   rw[oQ hk,oQ hk,List.append_nil]
 | succ k ih =>
   intro d hd n out ho hdn
   by_cases hk:kd u d=2
   ·have hd0:=gT hk (by decide)
    obtain ⟨n,rfl⟩:∃ m,n=m+1:=⟨n - 1,by omega⟩
    have hc:out.contains d=false:=by
     cases e:out.contains d with
     | false=>rfl
     | true=>exact absurd (ho d (by simpa using e)) (by omega)
    rw[chF,aH ⟨hk,hc⟩,chF,aH ⟨hk,rfl⟩,List.nil_append]
    by_cases hb:kd u (bs u d)=2
    ·have hlt:=aQm hw hn hk hb
     have hb0:=gT hb (by decide)
     have h1:=ih (bs u d) (by omega) n (out++[d]) (fun x hx=>by
      rcases aY.1 hx with hx | hx
      ·have:=ho x hx;omega
      ·rw[aO.1 hx];exact hlt) (by omega)
     have h2:=ih (bs u d) (by omega) d.toNat [d] (fun x hx=>by rw[aO.1 hx];exact hlt) (by omega)
     rw[h1,h2,List.append_assoc]
    ·rw[oQ hb,oQ hb]
   ·rw[oQ hk,oQ hk,List.append_nil]
theorem uT {u:cZ} {d:Int} (hk:kd u d≠2):chain u d=[]:=oQ hk _ _
theorem n6 {u:cZ} (hw:Wf u) (hn:Nm u) {d:Int} (hk:kd u d=2):chain u d=d::chain u (bs u d):=by
 have hd:=gT hk (by decide)
 have h0:chain u d=chF u u.bK.length [d] (bs u d):=by
  unfold chain
  rw[chF,aH ⟨hk,rfl⟩,List.nil_append]
 rw[h0]
 by_cases hb:kd u (bs u d)=2
 ·have hlt:=aQm hw hn hk hb
  have hb0:=gT hb (by decide)
  have h1:=aFm hw hn u.bK.length (bs u d) (by omega) u.bK.length [d] (fun x hx=>by rw[aO.1 hx];exact hlt) (by omega)
  have h2:=aFm hw hn u.bK.length (bs u d) (by omega) (u.bK.length+1) [] (fun x hx=>by cases hx) (by omega)
  rw[h1]
  unfold chain
  rw[h2];rfl
 ·rw[oQ hb,uT hb]
structure Bd (u:cZ) (d:Int):Prop where
 k:kd u d=2
 kb:kd u (bs u d)=2
 lt:bs u d<d
 ch:chain u d=d::chain u (bs u d)
 at1:(chain u d).getD 1 default=bs u d
theorem Bd.of {u:cZ} (hw:Wf u) (hn:Nm u) {d:Int} (h:2≤(chain u d).length):Bd u d:=by
 have hk:kd u d=2:=by
  by_cases e:kd u d=2
  ·exact e
  ·rw[uT e] at h;simp at h
 have hc:=n6 hw hn hk
 have hb:kd u (bs u d)=2:=by
  by_cases e:kd u (bs u d)=2
  ·exact e
  ·rw[hc,uT e] at h;simp at h
 refine ⟨hk,hb,aQm hw hn hk hb,hc,?_⟩
 rw[hc,n6 hw hn hb];rfl
theorem Bd.len {u:cZ} {d:Int} (hw:Wf u) (hn:Nm u) (h:Bd u d):1<(chain u d).length:=by
 rw[h.ch,n6 hw hn h.kb];simp
theorem Bd.s9 {u:cZ} {d:Int} (h:Bd u d):s9 u d=s9 u (bs u d)++(dc u d).cU:=by
 have h1:=h.k
 have h2:=h.kb
 unfold Go.Proofs.YtdbfbedholdjaaaGreat.s9
 rw[aG (by omega),aG (by omega),h.ch,List.reverse_cons,zG]
 simp [varsOf]
theorem Bd.sls {u:cZ} {d:Int} (h:Bd u d):sls u d=sls u (bs u d)++bl.new (dc u d).bM:=by
 unfold Go.Proofs.YtdbfbedholdjaaaGreat.sls bl.ns
 rw[h.ch,List.reverse_cons,List.flatMap_append]
 simp
theorem aCU {u:cZ} {d:Int} (hk:kd u d=2):line u d=chain u d:=by unfold line;rw[aG (by omega)]
theorem Bd.u7 {u:cZ} {d:Int} (h:Bd u d) (s:Bytes):u7 u d s=if 0≤own (dc u d) s then (⟨d,own (dc u d) s⟩,true) else u7 u (bs u d) s:=by
 unfold Go.Proofs.YtdbfbedholdjaaaGreat.u7
 rw[aCU h.k,aCU h.kb,h.ch,vH]
theorem aJN {D:jG} {s:Bytes} (h:0≤own D s):D.bM.getD (own D s).toNat default∈D.bM∧(D.bM.getD (own D s).toNat default).cC=s:=by
 have:=aQi (default:hU) h
 exact ⟨dQ this.1,beq_iff_eq.1 this.2⟩
theorem aVy {D:jG} {m:hU} (h:m∈D.bM):0≤own D m.cC:=aEi h (beq_self_eq_true _)
theorem Bd.sig {u:cZ} {d:Int} (hw:Wf u) (hn:Nm u) (h:Bd u d) {s:Bytes} (hs:s∈Go.Proofs.YtdbfbedholdjaaaGreat.sls u (bs u d)):rE (mof u (Go.Proofs.YtdbfbedholdjaaaGreat.u7 u d s).1)=rE (mof u (Go.Proofs.YtdbfbedholdjaaaGreat.u7 u (bs u d) s).1):=by
 rw[h.u7]
 split
 ·rename_i e
  obtain ⟨hm,hs2⟩:=aJN e
  have ho:=(((hw d (gT h.k (by decide))).cls h.k).over _ hm).2 (h.len hw hn)
  rw[hs2,h.at1] at ho
  exact (ho (aLt h.kb hs)).sig
 ·rfl
theorem aSO {u:cZ} (hw:Wf u) (hn:Nm u) {s:Bytes}:∀ (k:Nat) (d:Int),d<k→kd u d=2→(u7 u d s).2=true→s∈sls u d:=by
 intro k
 induction k with
 | zero=>intro d hd hk;have:=gT hk (by decide);omega
 | succ k ih =>
   intro d hd hk h
   have hc:=n6 hw hn hk
   by_cases hb:kd u (bs u d)=2
   ·have hB:Bd u d:=Bd.of hw hn (by rw[hc,n6 hw hn hb];simp)
    have hlt:=hB.lt
    rw[hB.sls,aY]
    rw[hB.u7] at h
    split at h
    ·rename_i e
     obtain ⟨hm,hs⟩:=aJN e
     have ho:=(((hw d (gT hk (by decide))).cls hk).over _ hm).1
     rw[hs,hB.at1] at ho
     generalize (dc u d).bM.getD (own (dc u d) s).toNat default=m at hm hs ho
     by_cases hv:m.aBt=true
     ·exact .inl (ih _ (by omega) hb (ho.1 hv).2)
     ·refine .inr ?_
      unfold bl.new
      exact List.mem_map.2 ⟨m,List.mem_filter.2 ⟨hm,by simpa using hv⟩,hs⟩
    ·exact .inl (ih _ (by omega) hb h)
   ·have hc1:chain u d=[d]:=by rw[hc,uT hb]
    unfold u7 at h
    rw[aCU hk,hc1,vH] at h
    split at h
    ·rename_i e
     obtain ⟨hm,hs⟩:=aJN e
     have ho:=(((hw d (gT hk (by decide))).cls hk).over _ hm).1
     generalize (dc u d).bM.getD (own (dc u d) s).toNat default=m at hm hs ho
     have hv:¬ m.aBt=true:=fun q=>by have:=(ho.1 q).1;rw[hc1] at this;simp at this
     unfold sls bl.ns
     rw[hc1]
     simp only[List.reverse_singleton,List.flatMap_cons,List.flatMap_nil,List.append_nil]
     unfold bl.new
     exact List.mem_map.2 ⟨m,List.mem_filter.2 ⟨hm,by simpa using hv⟩,hs⟩
    ·rw[vH] at h;cases h
theorem aVz {α:Type} {p:α→Bool} {a b:List α} (h:0≤ix p a):ix p (a++b)=ix p a:=by
 unfold ix at h ⊢
 split at h
 ·rename_i e
  rw[List.findIdx_append,aH e,aH e,aH (by rw[aE];omega)]
 ·omega
theorem aLE {b:List fE} {s:Bytes}:∀ {a:List fE} (k:Int),(∃ x∈a,x.cC=s∧0<rn x.cQ)→plc (a++b) s k=plc a s k
 | [],_,h=>by obtain ⟨x,hx,_⟩:=h;cases hx
 | y::a,k,h=>by
   rw[List.cons_append,plc,plc]
   split
   ·rfl
   ·rename_i e
    refine aLE _ ?_
    obtain ⟨x,hx,hq⟩:=h
    rcases aZ.1 hx with rfl | hx
    ·exact absurd hq e
    ·exact ⟨x,hx,hq⟩
theorem aVA {t:fL} (h:tyF t):0<rn t:=by
 have hr:1≤rm t:=by
  unfold rm
  rcases h with (h | h | h) | h | ⟨h,h2,h3⟩
  all_goals rw[aG (by omega)]
  ·rw[aG (by omega)];omega
  ·rw[aG (by omega)];omega
  ·rw[aG (by omega)];omega
  ·rw[aG (by omega)];omega
  ·rw[aH h,wr (by omega) (by omega)];unfold eX;split <;> omega
 unfold rn wB
 split <;> omega
end Go.Proofs.YtdbfbedholdjaaaGreat

namespace Go.Proofs.YtdbfbedholdjaaaGreat
open Go Go.Dl
variable [dW]
set_option maxRecDepth 100000
set_option maxHeartbeats 8000000
theorem bI.aYM {α X:Type} {v w:X} {f:X→Option α} {Q:α→Prop} (e:v=w) (h:bI (f w) Q):bI (Go.Dl.bN v f) Q:=by subst e;exact h
theorem aQn {u:cZ} {v:jN} {d:Int} (h:Im u v) (hk:kd u d=2):(0≤num u d 2∧num u d 2<v.bQ.length)∧Ds u d (v.bQ.getD (num u d 2).toNat default):=by
 have hd:=gT hk (by decide)
 obtain ⟨n,rfl⟩:=aJ hd.1
 have hn:n<u.bK.length:=by omega
 have hkn:(u.bK.getD n default).bP=2:=by
  have:=aLm hd
  rw[hk,dc,Int.toNat_natCast] at this
  exact this.symm
 have e:num u n 2=(nk 2 (u.bK.take n):Int):=by
  unfold num nk
  rw[aH hk,Int.toNat_natCast]
 have h1:=aH9 (k:=2) hn
 rw[aH hkn] at h1
 have h2:nk 2 (u.bK.take (n+1))≤nk 2 u.bK:=(List.take_sublist _ _).countP_le
 have hc:=h.cl
 refine ⟨by rw[e];omega,?_⟩
 rw[e,Int.toNat_natCast]
 exact h.ds n hn hkn
theorem aSP {K:Nat} {a:List Bytes} (hK:100000<K) (hl:a.length≤1000):dA (F12 K a a) (fun v=>v=true):=by
 refine dA.of ?_
 unfold F12
 refine bI.bN (bI.eQ (by simp) ?_)
 refine bI.dS (bI.bJ (bI.dK ?_)) (fun _=>bI.ret (sE.l rfl))
 refine bI.up a.length (by omega) (fun i hi=>?_) ?_
 ·refine bI.bN (bI.eR (by simpa using hi) ?_)
  refine bI.dS (bI.bJ (bI.bW (bR (by omega)) (bI.bW (bR (by omega)) (bI.cD (bI.bN (bI.eQ (by simp) (bI.ret (sE.r trivial)))))))) (fun _=>?_)
  rw[wr (by omega) (by omega)]
  exact bI.ret (sE.r ⟨rfl,trivial⟩)
 ·exact bI.bN (bI.eQ (by simp) (bI.ret (sE.l (sE.l trivial))))
theorem aSQ {u:cZ} (hw:Wf u) (d:Int):(sls u d).length≤72:=by
 have hmul:(chain u d).length * bl.qI u≤12 * 6:=Nat.mul_le_mul (hw.chain d) hw.qI
 refine aV (bl.xB (fun x=>bl.new (u.bK.getD x.toNat default).bM) (bl.qI u) (fun x=>aV (bl.aFo _) (bl.vK u x)) (chain u d).reverse) ?_
 rw[List.length_reverse];exact hmul
theorem aJO {α:Type} (a b:List α) (z:α):mB (a++b) (0:Int).toNat ((Int.ofNat a.length):Int).toNat z=a:=by
 show mB (a++b) 0 a.length z=a
 rw[aL2 _ _ (by rw[aE];omega),List.drop_zero,Nat.sub_zero,List.take_left]
structure Pf (x y:S56):Prop where
 f:∃ l,x.dV=y.dV++l
 s:∃ l,x.fM=y.fM++l
 n:y.fM.length≤72
 v:x.xJ.length=x.fM.length
theorem Pf.of {u:cZ} {d:Int} {x y:S56} (hw:Wf u) (hn:Nm u) (hB:Bd u d) (hx:Ds u d x) (hy:Ds u (bs u d) y):Pf x y:=by
 refine ⟨⟨iP (dc u d).cU,?_⟩,⟨(bl.new (dc u d).bM).map fun s=>rE (mof u (u7 u d s).1),?_⟩,?_,hx.vt⟩
 ·rw[hx.fields,hy.fields,hB.s9,aB7]
 ·rw[hx.sigs,hy.sigs,hB.sls,List.map_append]
  congr 1
  exact List.map_congr_left fun s hs=>hB.sig hw hn hs
 ·rw[hy.sigs,List.length_map];exact aSQ hw _
theorem aSR {u:cZ} {d:Int} (hw:Wf u) (hn:Nm u) (hB:Bd u d) {m:hU} (hm:m∈(dc u (bs u d)).bM):ix (fun y:Bytes=>m.cC == y) (sls u d)=ix (fun y:Bytes=>m.cC == y) (sls u (bs u d))∧0≤ix (fun y:Bytes=>m.cC == y) (sls u (bs u d)):=by
 have hin:m.cC∈sls u (bs u d):=by
  refine aSO hw hn ((bs u d).toNat+1) (bs u d) (by omega) hB.kb ?_
  refine aAO (c:=bs u d) ?_ (aVy hm)
  rw[aCU hB.kb,n6 hw hn hB.kb]
  exact List.mem_cons_self ..
 have h0:=aEi (p:=fun y:Bytes=>m.cC == y) hin (beq_self_eq_true _)
 exact ⟨by rw[hB.sls];exact aVz h0,h0⟩
theorem aQo {u:cZ} {d:Int} (hw:Wf u) (hB:Bd u d) {x:fE} (hx:x∈(dc u (bs u d)).cU):plc (s9 u d) x.cC 0=plc (s9 u (bs u d)) x.cC 0:=by
 rw[hB.s9]
 refine aLE 0 ⟨x,?_,rfl,aVA (((hw _ (gT hB.kb (by decide))).cls hB.kb).vars x hx)⟩
 unfold s9
 have h2:=hB.kb
 rw[aG (by omega)]
 refine List.mem_flatMap.2 ⟨bs u d,?_,hx⟩
 rw[List.mem_reverse]
 unfold chain
 rw[chF,aH ⟨hB.kb,rfl⟩]
 exact aCT (fun out=>bs u d∈out) (fun out e h _ _=>List.mem_append_left _ h) _ _ _ (List.mem_append_right _ (List.mem_singleton_self _))
theorem aVB {s:Bytes}:dA (F4 200000000 s) (fun v=>v=true):=by
 refine dA.of ?_
 unfold F4
 refine bI.bN (bI.ite (fun e=>?_) (fun e=>?_))
 ·refine bI.call aJL ?_
  rintro _ rfl
  exact bI.ret (sE.l rfl)
 refine bI.call (aVs (by omega)) (fun r3 h3=>?_)
 refine bI.bN (bI.ite (fun e=>?_) (fun e=>?_))
 ·refine bI.call aJL ?_
  rintro _ rfl
  exact bI.ret (sE.l rfl)
 have aCa:r3.2=[]:=by
  simp only[aB,Int.ofNat_eq_natCast] at e
  exact List.length_eq_zero_iff.1 (by omega)
 obtain ⟨h,hw,hn⟩:=h3 aCa
 generalize r3.1=u at h hw hn
 have hl:=hw.len'
 refine bI.call (aVv (by omega) h hw) (fun im hi=>?_)
 refine bI.dS (bI.bJ (bI.dK ?_)) (fun _=>bI.call aJL (by rintro _ rfl;exact bI.ret (sE.l rfl)))
 refine bI.up u.bK.length (by omega) (fun i hlt=>?_) (bI.bN (bI.eQ (by simp) (bI.ret (sE.l (sE.l trivial)))))
 refine bI.bN (bI.eR (by simpa using hlt) ?_)
 refine bI.dS (bI.bJ ?_) (fun _=>by rw[wr (by omega) (by omega)];exact bI.ret (sE.r ⟨rfl,trivial⟩))
 refine bI.call (xK (by omega) h) ?_
 rintro _ rfl
 refine bI.bN (bI.ite (fun e2=>bI.ret (sE.l (sE.l trivial))) (fun e2=>?_))
 simp only[aB,Int.ofNat_eq_natCast] at e2
 have hB:Bd u i:=Bd.of hw hn (by omega)
 have hlen:=hB.len hw hn
 refine bI.bW (bR (by omega)) (bI.cD ?_)
 refine bI.cX (by decide) (aAQ (by omega) h) ?_
 rintro _ rfl
 refine bI.cX (by decide) (aAQ (by omega) h) ?_
 rintro _ rfl
 rw[show (chain u i).getD (1:Int).toNat default=bs u i from hB.at1]
 have hkb:=gT hB.kb (by decide)
 obtain ⟨ha,hx⟩:=aQn hi hB.k
 obtain ⟨hb,hy⟩:=aQn hi hB.kb
 have hbase:(im.bQ.getD (num u i 2).toNat default).j6=num u (bs u i) 2:=by rw[hx.base,aH hlen,hB.at1]
 have hp:=Pf.of hw hn hB hx hy
 generalize im.bQ.getD (num u i 2).toNat default=x at hbase hp ⊢
 generalize im.bQ.getD (num u (bs u i) 2).toNat default=y at hp ⊢
 obtain ⟨⟨fl,hf⟩,⟨sl,hs⟩,hsn,hv⟩:=hp
 refine bI.bW (by rw[bR ha,Bool.or_true]) (bI.cD ?_)
 refine bI.bN (bI.eQ ?_ ?_)
 ·simp only[aM,aB,bne_iff_ne,ne_eq,Int.ofNat_eq_natCast,hbase,not_true,or_false];omega
 refine bI.bW (bR ha) (bI.cD (bI.bW (bR hb) (bI.cD ?_)))
 refine bI.bW ?_ (bI.bW ?_ (bI.cD ?_))
 ·have:cW x.dV.length 0 (Int.ofNat y.dV.length)=true:=by
   rw[hf,aE];simp only[cW,aC,aB,Int.ofNat_eq_natCast];omega
  rw[this,Bool.or_true]
 ·have:cW x.fM.length 0 (Int.ofNat y.fM.length)=true:=by
   rw[hs,aE];simp only[cW,aC,aB,Int.ofNat_eq_natCast];omega
  rw[this,Bool.or_true]
 refine bI.aYM (w:=false) ?_ ?_
 ·rw[hf,hs];simp;omega
 rw[hs,aJO,← hs]
 refine bI.cX (by decide) (aSP (by omega) (by omega)) ?_
 rintro _ rfl
 refine bI.aYM (w:=false) ?_ ?_
 ·rw[hv];simp
 refine bI.eQ (by decide) ?_
 refine bI.bW (bR (by omega)) (bI.cD (bI.bW (bR hkb) (bI.cD (bI.bN ?_))))
 have hsz:=hw.sz (bs u i)
 have yN:=hsz.m
 have hvl:=hsz.v
 refine bI.dS (bI.bJ (bI.dK ?_)) (fun _=>?_)
 ·refine bI.up (dc u (bs u i)).bM.length (by omega) (fun j hj=>?_) (bI.bN (bI.eQ (by simp) (bI.ret (sE.l (sE.l trivial)))))
  refine bI.bN (bI.eR (by simpa using hj) ?_)
  refine bI.dS (bI.bJ ?_) (fun _=>by rw[wr (by omega) (by omega)];exact bI.ret (sE.r ⟨rfl,trivial⟩))
  have hj':0≤(j:Int)∧(j:Int)<(dc u (bs u i)).bM.length:=by omega
  refine bI.bW (bR hj') (bI.bW (bR (by omega)) (bI.bW (bR hj') (bI.cD (bI.bN ?_))))
  have hq:=aSR hw hn hB (dQ (d:=default) hj)
  refine bI.cX (by decide) (aGq (by omega) h hw) ?_
  rintro _ rfl
  refine bI.cX (by decide) (aGq (by omega) h hw) ?_
  rintro _ rfl
  refine bI.bW (by rw[bR hj',Bool.or_true]) (bI.cD ?_)
  refine bI.cX ?_ (aGq (by omega) h hw) ?_
  ·rw[Int.toNat_natCast,hq.1];simp
  rintro _ rfl
  refine bI.bN (bI.eQ ?_ (bI.ret (sE.r trivial)))
  rw[Int.toNat_natCast,hq.1]
  simp only[aM,bne_iff_ne,ne_eq,not_true,aB,false_or]
  have:=hq.2
  omega
 refine bI.bW (bR (by omega)) (bI.cD (bI.bW (bR hkb) (bI.cD (bI.bN ?_))))
 refine bI.dS (bI.bJ (bI.dK ?_)) (fun _=>bI.ret (sE.r trivial))
 refine bI.up (dc u (bs u i)).cU.length (by omega) (fun j hj=>?_) (bI.bN (bI.eQ (by simp) (bI.ret (sE.l (sE.l trivial)))))
 refine bI.bN (bI.eR (by simpa using hj) ?_)
 refine bI.dS (bI.bJ ?_) (fun _=>by rw[wr (by omega) (by omega)];exact bI.ret (sE.r ⟨rfl,trivial⟩))
 have hj':0≤(j:Int)∧(j:Int)<(dc u (bs u i)).cU.length:=by omega
 refine bI.bW (bR hj') (bI.bW (bR (by omega)) (bI.bW (bR hj') (bI.cD (bI.bN ?_))))
 have hq:=aQo hw hB (dQ (d:=default) hj)
 refine bI.cX (by decide) (aLs (by omega) h hw) ?_
 rintro _ rfl
 refine bI.cX (by decide) (aLs (by omega) h hw) ?_
 rintro _ rfl
 refine bI.eQ ?_ (bI.ret (sE.r trivial))
 rw[Int.toNat_natCast,aH hB.k,aH hB.kb,hq]
 simp
theorem aSm (s:Bytes):bT (F4 200000000 s)=some true:=by
 obtain ⟨v,hv,rfl⟩:=aVB (s:=s)
 exact hv
end Go.Proofs.YtdbfbedholdjaaaGreat
