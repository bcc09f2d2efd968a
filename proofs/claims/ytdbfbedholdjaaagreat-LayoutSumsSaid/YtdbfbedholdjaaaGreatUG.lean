/- No conditions. -/
import Derived.Test.YtdbfbedholdjaaaGreatUF
import Derived.Test.YtdbfbedholdjaaaGreatUE
import Derived.Test.YtdbfbedholdjaaaGreatLt
set_option linter.unusedVariables false
set_option linter.unusedSimpArgs false
set_option linter.unusedSectionVars false
namespace Go.Proofs.YtdbfbedholdjaaaGreat
open Go Go.Dl
variable [eC]
set_option maxRecDepth 100000
set_option maxHeartbeats 8000000
structure Ds (u:dD) (d:Int) (x:S56):Prop where
 base:x.lE=if 1<(chain u d).length then num u ((chain u d).getD 1 default) 2 else -1
 fields:x.aKY=kA (aEh u d)
 sigs:x.aPh=(sls u d).map fun s=>aAO (mof u (mth u d s).1)
 vt:x.aKZ.length=x.aPh.length
theorem aSp {u:dD} {d:Int} (hk:kd u d=2) {s:Bytes} (h:s∈sls u d):(mth u d s).2=true:=by
 unfold sls bl.ns at h
 obtain ⟨c,hc,hs⟩:=List.mem_flatMap.1 h
 have hc:=List.mem_reverse.1 hc
 unfold bl.new at hs
 obtain ⟨m,hm,rfl⟩:=List.mem_map.1 hs
 have hm:=(List.mem_filter.1 hm).1
 refine aD8 (c:=c) ?_ (aJw hm (beq_self_eq_true _))
 unfold line
 rw[aG (by omega)];exact hc
theorem aSq {K:Nat} {u:dD} {d:Int} (hK:100000<K) (h:Sm u) (hw:Wf u) (hk:kd u d=2):dG (F40 K u d) (fun v=>Ds u d v):=by
 have hch:=hw.chain d
 refine dG.of ?_
 unfold F40
 refine bJ.call (aLf hK h hw hk) ?_
 rintro _ ⟨rfl,hfl⟩
 refine bJ.dB (by decide) (xH hK (by omega)) ?_
 rintro _ rfl
 refine bJ.call (aLf hK h hw hk) ?_
 rintro _ ⟨rfl,_⟩
 refine bJ.call (aLb hK (by omega)) (fun r4 _=>?_)
 refine bJ.call (aAM hK h) ?_
 rintro _ rfl
 refine bJ.cN (fun v:Int=>v=if 1<(chain u d).length then num u ((chain u d).getD 1 default) 2 else -1) ?_ (fun b hb=>?_)
 ·refine bJ.ite (fun e=>?_) (fun e=>?_)
  ·simp only[aB,Int.ofNat_eq_natCast] at e
   refine bJ.bW (bV (by omega)) (bJ.cC ?_)
   refine bJ.dB (by decide) (aGf hK h) ?_
   rintro _ rfl
   refine bJ.ret (sE.r ?_)
   rw[aH (by omega)];rfl
  ·simp only[aB,Int.ofNat_eq_natCast] at e
   refine bJ.ret (sE.r ?_)
   rw[aG (by omega)]
 refine bJ.call (aSj hK h hw) ?_
 rintro _ ⟨rfl,hsl⟩
 refine bJ.cN (fun v:List Int × List Bytes=>v.2=(sls u d).map (fun s=>aAO (mof u (mth u d s).1))∧v.1.length=v.2.length) (bJ.bL (bJ.dN ?_)) (fun v hv=>?_)
 ·refine bJ.loop (fun t:List Int × List Bytes × Int=>0≤t.2.2∧t.2.2≤(sls u d).length∧t.2.1=((sls u d).take t.2.2.toNat).map (fun s=>aAO (mof u (mth u d s).1))∧t.1.length=t.2.1.length) (fun t=>((sls u d).length - t.2.2).toNat) ⟨by simp,by simp,rfl,rfl⟩ (by dsimp only;omega) ?_
  rintro ⟨a,o,t⟩ ⟨g1,g2,g3,g4⟩
  dsimp only at g1 g2 g3 g4 ⊢
  obtain ⟨n,rfl⟩:=aJ g1
  rw[Int.toNat_natCast] at g3
  have ho:o.length≤72:=by rw[g3,List.length_map,aR];omega
  simp (disch:=omega) only[wr,Int.ofNat_eq_natCast]
  refine bJ.bO (bJ.ite (fun e=>?_) (fun e=>?_))
  ·simp only[aB] at e
   have hn:n<(sls u d).length:=by omega
   rw[Int.toNat_natCast]
   have s8:((sls u d).take (n+1)).map (fun s=>aAO (mof u (mth u d s).1))=o++[aAO (mof u (mth u d ((sls u d).getD n default)).1)]:=by
    rw[gN default hn,List.map_append,← g3];rfl
   have hm:=aBq (aSp hk (eA (d:=default) hn))
   generalize (sls u d).getD n default=s at s8 hm
   have hmp:=(hw.sz (mth u d s).1.dA).p _ (eA (d:=default) (show (mth u d s).1.dH.toNat<(dc u (mth u d s).1.dA).bN.length by have:=hm.1.2;omega))
   refine bJ.cN (fun v:List Int × List Bytes=>v.2=((sls u d).take (n+1)).map (fun s=>aAO (mof u (mth u d s).1))∧v.1.length=v.2.length) (bJ.bL (bJ.bW (bV (by omega)) (bJ.cC (bJ.call (aK6 hK h) ?_)))) (fun v hv=>by refine bJ.ret (sE.r ?_);exact ⟨⟨by dsimp only;omega,by dsimp only;omega,by dsimp only;rw[show ((n:Int)+1).toNat=n+1 by omega];exact hv.1,hv.2⟩,by dsimp only;omega⟩)
   rintro _ rfl
   refine bJ.dB (by decide) (aGi hK hw) (fun c _=>?_)
   refine bJ.bW (eB ?_) (bJ.cC (bJ.bW (bV hm.1.1) (bJ.bW (bV hm.1.2) (bJ.cC ?_))))
   ·simp only[List.length_singleton];omega
   refine bJ.dB (by decide) (aLa (m:=mof u (mth u d s).1) hK (aV hmp.1 (by decide))) ?_
   rintro _ rfl
   refine bJ.bW (eB ?_) (bJ.cC ?_)
   ·simp only[List.length_singleton];omega
   ·refine bJ.ret (sE.r ?_)
    refine ⟨s8.symm,?_⟩
    show (a++[c]).length=(o++[_]).length
    rw[aE,aE,g4];rfl
  ·simp only[aB] at e
   rw[bF (by omega)] at g3
   refine bJ.ret (sE.l (sE.l ?_))
   exact ⟨g3,g4⟩
 obtain ⟨v1,v2⟩:=v
 dsimp only at hv
 refine bJ.call (aPQ hK h hw) (fun r66 h66=>?_)
 refine bJ.call (aSo (by omega)) (fun mF h67=>?_)
 have a0f:=h67.1
 refine bJ.bW (decide_eq_true a0f.symm) (bJ.cC ?_)
 refine bJ.eE (bJ.bL (bJ.dN ?_)) (fun tb=>by refine bJ.ret (sE.l ?_);exact ⟨hb,rfl,hv.1,hv.2⟩)
 refine bJ.loop (fun t:List nM × Int=>0≤t.2∧t.2≤mF.length∧(t.1.length:Int)=t.2) (fun t=>(mF.length - t.2).toNat) ⟨by simp,by simp,by simp⟩ (by dsimp only;omega) ?_
 rintro ⟨o,t⟩ ⟨g1,g2,g3⟩
 dsimp only at g1 g2 g3 ⊢
 simp (disch:=omega) only[wr,Int.ofNat_eq_natCast]
 refine bJ.bO (bJ.ite (fun e=>?_) (fun e=>by exact T0))
 simp only[aB] at e
 have hx:=h66.2 _ (h67.2 _ (eA (d:=default) (show t.toNat<mF.length by omega)))
 generalize mF.getD t.toNat default=f at hx
 have hfm:=(hw.sz f).m
 refine bJ.cN (fun v:List nM=>(v.length:Int)=t+1) (bJ.bL (bJ.bW (bV ⟨g1,e⟩) (bJ.cC (bJ.call (aSd hK h) (fun _ _=>?_))))) (fun v hv=>by refine bJ.ret (sE.r ?_);exact ⟨⟨by dsimp only;omega,by dsimp only;omega,hv⟩,by dsimp only;omega⟩)
 refine bJ.bW (bV hx) (bJ.cC (bJ.bO (bJ.bO ?_)))
 refine bJ.eE (bJ.bL (bJ.dN ?_)) (fun sl=>?_)
 ·refine bJ.loop (fun s:List Int × Int=>0≤s.2∧s.2≤(dc u f).bN.length∧(s.1.length:Int)=s.2) (fun s=>((dc u f).bN.length - s.2).toNat) ⟨by simp,by simp,by simp⟩ (by dsimp only;omega) ?_
  rintro ⟨p,i⟩ ⟨k1,k2,k3⟩
  dsimp only at k1 k2 k3 ⊢
  refine bJ.ite (fun e2=>?_) (fun e2=>by exact T0)
  have e2:i<(dc u f).bN.length:=of_decide_eq_true e2
  rw[show IntKind.i64.wrap (i+1)=i+1 from wr (by omega) (by omega)]
  refine bJ.cN (fun v:List Int=>(v.length:Int)=i+1) (bJ.bL (bJ.bW (bV ⟨k1,e2⟩) (bJ.cC (bJ.bO ?_)))) (fun v hv=>by refine bJ.ret (sE.r ?_);exact ⟨⟨by dsimp only;omega,by dsimp only;omega,hv⟩,by dsimp only;omega⟩)
  refine bJ.dB (by decide) (aSn hK h hw) (fun c _=>?_)
  refine bJ.bW (eB ?_) (bJ.cC ?_)
  ·simp only[List.length_singleton];omega
  ·refine bJ.ret (sE.r ?_)
   rw[aE,List.length_singleton];omega
 ·refine bJ.bW (eB ?_) (bJ.cC ?_)
  ·simp only[List.length_singleton];omega
  ·refine bJ.ret (sE.r ?_)
   rw[aE,List.length_singleton];omega
def isI (x:fG):Bool:=x.cI.bP == 6
def isB (x:fG):Bool:=x.cI.bP == 7
def s7 (x:fG):Bool:=x.l9 == 1
def mC (x:fG):Bool:=x.l9 == 2
structure Ad (l:List fG) (a b:j6):Prop where
 u7:b.dZ=a.dZ
 aYY:b.dW=a.dW
 a1k:b.fO=a.fO
 globals:b.fM=a.fM
 init:b.fY=a.fY
 a2v:b.kJ=a.kJ
 aYn:b.eO.length=a.eO.length+l.countP isI
 blocks:b.bX.length=a.bX.length+l.countP isB
 ins:b.jN.length=a.jN.length+l.countP s7
 outs:b.fV.length=a.fV.length+l.countP mC
theorem Ad.cons {l:List fG} {a b c:j6} {n:Nat} (h:Ad (l.take n) a b) (hn:n<l.length) (h2:Ad [l.getD n default] b c):Ad (l.take (n+1)) a c:=by
 obtain ⟨a1,a2,a3,a4,a5,a6,a7,a8,a9,a10⟩:=h
 obtain ⟨b1,b2,b3,b4,b5,b6,b7,b8,b9,b10⟩:=h2
 rw[gN default hn]
 refine ⟨b1.trans a1,b2.trans a2,b3.trans a3,b4.trans a4,b5.trans a5,b6.trans a6,?_,?_,?_,?_⟩
 all_goals rw[List.countP_append]
 all_goals omega
def Nt (k:Nat) (s:j6):Prop:=s.eO.length≤k∧s.bX.length≤k∧s.jN.length≤k∧s.fV.length≤k
theorem aSr {K:Nat} {u:dD} {d:Int} {s:j6} (hK:100000<K) (h:Sm u) (hw:Wf u) (hk:kd u d=3) (hs:Nt 1000 s):dG (F41 K u d s) (fun v=>Ad (dc u d).cU s v):=by
 have hd:=lH hk (by decide)
 have hv:=(hw d hd).prg hk
 have hvl:=(hw.sz d).v
 obtain ⟨n1,n2,n3,n4⟩:=hs
 refine dG.of ?_
 unfold F41
 refine bJ.bW (bV hd) (bJ.cC (bJ.bO (bJ.bO ?_)))
 refine bJ.cN (fun v:j6=>Ad (dc u d).cU s v) (bJ.bL (bJ.dN ?_)) (fun v hv=>?_)
 ·show bJ (iter K _ (s,0)) _
  change ∀ x∈(u.bK.getD d.toNat default).cU,aFa x at hv
  change (u.bK.getD d.toNat default).cU.length≤8 at hvl
  show bJ _ (sE (fun v=>Ad (u.bK.getD d.toNat default).cU s v) _)
  generalize (u.bK.getD d.toNat default).cU=l at hv hvl
  refine bJ.loop (fun t:j6 × Int=>0≤t.2∧t.2≤l.length∧Ad (l.take t.2.toNat) s t.1) (fun t=>(l.length - t.2).toNat) ⟨by simp,by simp,⟨rfl,rfl,rfl,rfl,rfl,rfl,rfl,rfl,rfl,rfl⟩⟩ (by dsimp only;omega) ?_
  rintro ⟨o,t⟩ ⟨g1,g2,g3⟩
  dsimp only at g1 g2 g3 ⊢
  obtain ⟨n,rfl⟩:=aJ g1
  rw[Int.toNat_natCast] at g3
  simp (disch:=omega) only[wr,Int.ofNat_eq_natCast]
  refine bJ.ite (fun e=>?_) (fun e=>?_)
  ·simp only[aB] at e
   have hn:n<l.length:=by omega
   have hc:=fun c hc2=>g3.cons (c:=c) hn hc2
   have hx:=hv _ (eA (d:=default) hn)
   have hct:∀ p:fG→Bool,(l.take n).countP p≤8:=fun p=>aV List.countP_le_length (by rw[aR];omega)
   have q1:=g3.aYn
   have q2:=g3.blocks
   have q3:=g3.ins
   have q4:=g3.outs
   have c1:=hct isI
   have c2:=hct isB
   have c3:=hct s7
   have c4:=hct mC
   rw[Int.toNat_natCast]
   generalize l.getD n default=x at hc hx
   obtain ⟨hx1,hx2,hx3,hx4⟩:=hx
   refine bJ.cN (fun v:j6=>Ad (l.take (n+1)) s v) (bJ.bL (bJ.bW (bV (by omega)) (bJ.cC (bJ.dB (by decide) (aSm hK h hw) (fun r _=>?_))))) (fun v hv=>by refine bJ.ret (sE.r ?_);exact ⟨⟨by dsimp only;omega,by dsimp only;omega,by dsimp only;rw[show ((n:Int)+1).toNat=n+1 by omega];exact hv⟩,by dsimp only;omega⟩)
   refine bJ.cN (fun v:j6=>Ad (l.take (n+1)) s v) (bJ.bL (bJ.bO ?_)) (fun v hv=>by refine bJ.ret (sE.r ?_);exact hv)
   refine bJ.ite (fun e1=>bJ.bO ?_) (fun e1=>bJ.bO ?_)
   ·have e1:=beq_iff_eq.1 e1
    have aJx:x.l9=0:=Classical.byContradiction fun q=>by have:=hx2 q;omega
    refine bJ.dB (by decide) (aCG hK h) ?_
    rintro _ rfl
    refine bJ.dB (by decide) (aGf hK h) (fun _ _=>?_)
    refine bJ.bW (eB ?_) (bJ.cC ?_)
    ·simp only[List.length_singleton];omega
    ·refine bJ.ret (sE.r ?_)
     exact hc _ ⟨rfl,rfl,rfl,rfl,rfl,rfl,by simp [isI,e1],by simp [isB,e1],by simp [s7,aJx],by simp [mC,aJx]⟩
   refine bJ.ite (fun e2=>bJ.bO ?_) (fun e2=>bJ.bO ?_)
   ·have e2:=beq_iff_eq.1 e2
    have aJx:x.l9=0:=Classical.byContradiction fun q=>by have:=hx2 q;omega
    refine bJ.bW (eB ?_) (bJ.cC ?_)
    ·simp only[List.length_singleton];omega
    ·refine bJ.ret (sE.r ?_)
     exact hc _ ⟨rfl,rfl,rfl,rfl,rfl,rfl,by simp [isI,e2],by simp [isB,e2],by simp [s7,aJx],by simp [mC,aJx]⟩
   have f1:isI x=false:=by unfold isI;simpa using e1
   have f2:isB x=false:=by unfold isB;simpa using e2
   refine bJ.ite (fun e3=>?_) (fun e3=>bJ.bO ?_)
   ·have e3:=beq_iff_eq.1 e3
    refine bJ.bW (eB ?_) (bJ.cC ?_)
    ·simp only[List.length_singleton];omega
    ·refine bJ.ret (sE.r ?_)
     exact hc _ ⟨rfl,rfl,rfl,rfl,rfl,rfl,by simp [f1],by simp [f2],by simp [s7,e3],by simp [mC,e3]⟩
   have f3:s7 x=false:=by unfold s7;simpa using e3
   refine bJ.ite (fun e4=>?_) (fun e4=>?_)
   ·have e4:=beq_iff_eq.1 e4
    refine bJ.bW (eB ?_) (bJ.cC ?_)
    ·simp only[List.length_singleton];omega
    ·refine bJ.ret (sE.r ?_)
     exact hc _ ⟨rfl,rfl,rfl,rfl,rfl,rfl,by simp [f1],by simp [f2],by simp [f3],by simp [mC,e4]⟩
   ·have f4:mC x=false:=by unfold mC;simpa using e4
    refine bJ.ret (sE.r ?_)
    exact hc _ ⟨rfl,rfl,rfl,rfl,rfl,rfl,by simp [f1],by simp [f2],by simp [f3],by simp [f4]⟩
  ·simp only[aB] at e
   rw[bF (by omega)] at g3
   refine bJ.ret (sE.l (sE.l ?_))
   exact g3
 ·refine bJ.ret (sE.r ?_)
  exact hv
end Go.Proofs.YtdbfbedholdjaaaGreat

namespace Go.Proofs.YtdbfbedholdjaaaGreat
open Go Go.Dl
variable [eC]
set_option maxRecDepth 100000
set_option maxHeartbeats 8000000
def nk (k:Int) (l:List jX):Nat:=l.countP fun x=>x.bP == k
theorem aEi {k:Int} {l:List jX} {n:Nat} (h:n<l.length):nk k (l.take (n+1))=nk k (l.take n)+(if (l.getD n default).bP=k then 1 else 0):=by
 unfold nk
 rw[gN default h,List.countP_append,List.countP_singleton]
 simp only[beq_iff_eq]
theorem aFf (k:Int) (l:List jX) (n:Nat):nk k (l.take n)≤l.length:=aV List.countP_le_length (by rw[aR];omega)
structure Iv (u:dD) (n:Nat) (s:j6):Prop where
 fa:s.dZ.length=nk 1 (u.bK.take n)
 cl:s.dW.length=nk 2 (u.bK.take n)
 ds:∀ d:Nat,d<n→(u.bK.getD d default).bP=2→Ds u d (s.dW.getD (nk 2 (u.bK.take d)) default)
 co:s.fO=[]
 it:s.eO.length=(pv (u.bK.take n)).countP isI
 bl:s.bX.length=(pv (u.bK.take n)).countP isB
 ii:s.jN.length=(pv (u.bK.take n)).countP s7
 oo:s.fV.length=(pv (u.bK.take n)).countP mC
 jb:s.kJ.length=nk 4 (u.bK.take n)
 gl:s.fM.length=l5 (pv u.bK)
 ini:s.fY.length=l5 (pv u.bK)
theorem Iv.step {u:dD} {n:Nat} {s s':j6} (h:Iv u n s) (hn:n<u.bK.length)
 (h1:s'.dZ.length=s.dZ.length+(if (u.bK.getD n default).bP=1 then 1 else 0))
 (h2:s'.dW.length=s.dW.length+(if (u.bK.getD n default).bP=2 then 1 else 0))
 (h3:∀ i,i<s.dW.length→s'.dW.getD i default=s.dW.getD i default)
 (h4:(u.bK.getD n default).bP=2→Ds u n (s'.dW.getD s.dW.length default))
 (h5:s'.fO=[]) (h6:s'.kJ.length=s.kJ.length+(if (u.bK.getD n default).bP=4 then 1 else 0))
 (h7:s'.fM=s.fM) (h8:s'.fY=s.fY)
 (h9:∀ l,l=(if (u.bK.getD n default).bP=3 then (u.bK.getD n default).cU else [])→s'.eO.length=s.eO.length+l.countP isI∧s'.bX.length=s.bX.length+l.countP isB∧s'.jN.length=s.jN.length+l.countP s7∧s'.fV.length=s.fV.length+l.countP mC):Iv u (n+1) s':=by
 obtain ⟨a1,a2,a3,a4,a5,a6,a7,a8,a9,a10,a11⟩:=h
 obtain ⟨b1,b2,b3,b4⟩:=h9 _ rfl
 refine ⟨by rw[aEi hn];omega,by rw[aEi hn];omega,fun d hd hk=>?_,h5,?_,?_,?_,?_,by rw[aEi hn];omega,by rw[h7];exact a10,by rw[h8];exact a11⟩
 ·by_cases e:d=n
  ·subst e
   rw[← a2];exact h4 hk
  ·have hlt:nk 2 (u.bK.take d)<s.dW.length:=by
    have h1:=aEi (k:=2) (l:=u.bK) (n:=d) (by omega)
    rw[aH hk] at h1
    have hm:nk 2 (u.bK.take (d+1))≤nk 2 (u.bK.take n):=by
     unfold nk
     have e2:u.bK.take n=u.bK.take (d+1)++(u.bK.take n).drop (d+1):=by
      have:=List.take_append_drop (d+1) (u.bK.take n)
      rw[List.take_take,show min (d+1) n=d+1 by omega] at this
      exact this.symm
     rw[e2,List.countP_append];omega
    omega
   rw[h3 _ hlt]
   exact a3 d (by omega) hk
 all_goals rw[aPP hn,List.countP_append]
 all_goals omega
theorem aPR {α:Type} {l:List α} {x z:α} {i:Nat} (h:i<l.length):(l++[x]).getD i z=l.getD i z:=by
 rw[List.getD,List.getD,List.getElem?_append_left h]
theorem aMC {α:Type} {l:List α} {x z:α}:(l++[x]).getD l.length z=x:=by
 rw[List.getD,List.getElem?_append_right (aO _)];simp
structure Im (u:dD) (s:j6):Prop where
 fa:s.dZ.length=nk 1 u.bK
 cl:s.dW.length=nk 2 u.bK
 ds:∀ d:Nat,d<u.bK.length→(u.bK.getD d default).bP=2→Ds u d (s.dW.getD (nk 2 (u.bK.take d)) default)
 co:s.fO.length=rO u.bK
 it:s.eO.length=(pv u.bK).countP isI
 bl:s.bX.length=(pv u.bK).countP isB
 ii:s.jN.length=(pv u.bK).countP s7
 oo:s.fV.length=(pv u.bK).countP mC
 jb:s.kJ.length=nk 4 u.bK
 gl:s.fM.length=l5 (pv u.bK)
 ini:s.fY.length=l5 (pv u.bK)
abbrev T9:Type:=(List (List Bytes)) × (List S56) × (List uW) × (List Int) × Bytes × (List Int) × (List Int) × (List gJ) × (List gJ) × (List yG) × Int × Int
def to9 (t:T9):j6:=⟨t.1,t.2.1,t.2.2.1,t.2.2.2.1,t.2.2.2.2.1,t.2.2.2.2.2.1,t.2.2.2.2.2.2.1,t.2.2.2.2.2.2.2.1,t.2.2.2.2.2.2.2.2.1,t.2.2.2.2.2.2.2.2.2.1,t.2.2.2.2.2.2.2.2.2.2.1,t.2.2.2.2.2.2.2.2.2.2.2⟩
theorem aVc {K:Nat} {u:dD} (hK:100000<K) (h:Sm u) (hw:Wf u):dG (F9 K u) (fun v=>Im u v):=by
 have hl:=hw.len'
 have hpv:=aEf hw.all
 refine dG.of ?_
 unfold F9
 refine bJ.call (aLd hK hw) ?_
 rintro _ rfl
 refine bJ.dB (by decide) (xH hK (by omega)) ?_
 rintro _ rfl
 refine bJ.call (aLd hK hw) ?_
 rintro _ rfl
 refine bJ.call (aPM hK (by omega)) (fun r4 h4=>?_)
 refine bJ.cN (fun v:T9=>Iv u u.bK.length (to9 v)) (bJ.bL (bJ.dN ?_)) (fun v hv=>?_)
 ·refine bJ.loop (fun t:(List (List Bytes)) × (List S56) × (List uW) × (List Int) × Bytes × (List Int) × (List Int) × (List gJ) × (List gJ) × (List yG) × Int × Int × Int=>0≤t.2.2.2.2.2.2.2.2.2.2.2.2∧t.2.2.2.2.2.2.2.2.2.2.2.2≤u.bK.length∧Iv u t.2.2.2.2.2.2.2.2.2.2.2.2.toNat ⟨t.1,t.2.1,t.2.2.1,t.2.2.2.1,t.2.2.2.2.1,t.2.2.2.2.2.1,t.2.2.2.2.2.2.1,t.2.2.2.2.2.2.2.1,t.2.2.2.2.2.2.2.2.1,t.2.2.2.2.2.2.2.2.2.1,t.2.2.2.2.2.2.2.2.2.2.1,t.2.2.2.2.2.2.2.2.2.2.2.1⟩) (fun t=>(u.bK.length - t.2.2.2.2.2.2.2.2.2.2.2.2).toNat) ⟨by simp,by simp,⟨rfl,rfl,fun d hd=>by simp at hd,rfl,rfl,rfl,rfl,rfl,rfl,sJ _,h4⟩⟩ (by dsimp only;omega) ?_
  rintro ⟨f1,f2,f3,f4,f5,f6,f7,f8,f9,f10,f11,f12,t⟩ ⟨g1,g2,g3⟩
  dsimp only at g1 g2 g3 ⊢
  obtain ⟨n,rfl⟩:=aJ g1
  rw[Int.toNat_natCast] at g3
  rw[show IntKind.i64.wrap ((n:Int)+1)=n+1 from wr (by omega) (by omega)]
  refine bJ.bO (bJ.ite (fun e=>?_) (fun e=>?_))
  ·simp only[aB,Int.ofNat_eq_natCast] at e
   have hn:n<u.bK.length:=by omega
   have st:=fun s'=>g3.step (s':=s') hn
   have m1:=g3.fa
   have m2:=g3.cl
   have m3:=g3.it
   have m4:=g3.bl
   have m5:=g3.ii
   have m6:=g3.oo
   have m7:=g3.jb
   have m8:=g3.co
   dsimp only at m1 m2 m3 m4 m5 m6 m7 m8
   have n1:=aFf 1 u.bK n
   have n2:=aFf 2 u.bK n
   have n4:=aFf 4 u.bK n
   have npv:∀ p:fG→Bool,(pv (u.bK.take n)).countP p≤96:=fun p=>aV List.countP_le_length (by
    have:=aEf (l:=u.bK.take n) (fun d hd=>hw.all d (List.mem_of_mem_take hd))
    rw[aR] at this;omega)
   have p1:=npv isI
   have p2:=npv isB
   have p3:=npv s7
   have p4:=npv mC
   have hkd:=aPO (u:=u) (d:=n) ⟨by omega,by omega⟩
   have hdn:dc u n=u.bK.getD n default:=by rw[dc,Int.toNat_natCast]
   rw[hdn] at hkd
   refine bJ.cN (fun s:j6=>Iv u (n+1) s) (bJ.bL (bJ.bW (bV (by omega)) (bJ.cC (bJ.bO ?_)))) (fun s hs=>by refine bJ.bO (bJ.ret (sE.r ?_));exact ⟨⟨by dsimp only;omega,by dsimp only;omega,by dsimp only;rw[show ((n:Int)+1).toNat=n+1 by omega];exact hs⟩,by dsimp only;omega⟩)
   rw[Int.toNat_natCast]
   refine bJ.cN (fun s:j6=>Iv u (n+1) s) (bJ.bL (bJ.ite (fun e1=>bJ.bO (bJ.bO ?_)) (fun e1=>bJ.ite (fun e2=>?_) (fun e2=>bJ.ite (fun e3=>?_) (fun e3=>bJ.ite (fun e4=>bJ.bO ?_) (fun e4=>?_)))))) (fun s hs=>by refine bJ.ret (sE.r ?_);exact hs)
   ·have e1:=beq_iff_eq.1 e1
    have hsz:=hw.sz n
    rw[hdn] at hsz
    have hm:=hsz.m
    have hp:=hsz.p
    refine bJ.eE (bJ.bL (bJ.dN ?_)) (fun sg=>?_)
    ·generalize (u.bK.getD n default).bN=ms at hm hp
     refine bJ.loop (fun s:List Bytes × Int=>0≤s.2∧s.2≤ms.length∧(s.1.length:Int)=s.2) (fun s=>(ms.length - s.2).toNat) ⟨by simp,by simp,by simp⟩ (by dsimp only;omega) ?_
     rintro ⟨p,i⟩ ⟨k1,k2,k3⟩
     dsimp only at k1 k2 k3 ⊢
     refine bJ.ite (fun e2=>?_) (fun e2=>by exact T0)
     simp only[aB,Int.ofNat_eq_natCast] at e2
     rw[show IntKind.i64.wrap (i+1)=i+1 from wr (by omega) (by omega)]
     have hpm:=hp _ (eA (d:=default) (show i.toNat<ms.length by omega))
     refine bJ.cN (fun v:List Bytes=>(v.length:Int)=i+1) (bJ.bL (bJ.bW (bV ⟨k1,e2⟩) (bJ.cC (bJ.call (aLa hK (aV hpm.1 (by decide))) (fun _ _=>bJ.bW (eB ?_) (bJ.cC ?_)))))) (fun v hv=>by refine bJ.ret (sE.r ?_);exact ⟨⟨by dsimp only;omega,by dsimp only;omega,hv⟩,by dsimp only;omega⟩)
     ·simp only[List.length_singleton];omega
     ·refine bJ.ret (sE.r ?_)
      rw[aE,List.length_singleton];omega
    ·refine bJ.bW (eB ?_) (bJ.cC ?_)
     ·simp only[List.length_singleton];omega
     ·refine bJ.ret (sE.r ?_)
      refine st _ ?_ ?_ (fun i hi=>rfl) (fun q=>by omega) m8 ?_ rfl rfl ?_
      ·rw[aH e1];simp
      ·rw[aG (by omega)];rfl
      ·rw[aG (by omega)];rfl
      ·rintro _ rfl
       rw[aG (by omega)];exact ⟨rfl,rfl,rfl,rfl⟩
   ·have e2:=beq_iff_eq.1 e2
    refine bJ.call (aSq hK h hw (by rw[hkd];exact e2)) (fun r hr=>?_)
    refine bJ.bW (eB ?_) (bJ.cC ?_)
    ·simp only[List.length_singleton];omega
    ·refine bJ.ret (sE.r ?_)
     refine st _ ?_ ?_ (fun i hi=>aPR hi) (fun q=>?_) m8 ?_ rfl rfl ?_
     ·rw[aG (by omega)];rfl
     ·rw[aH e2];simp
     ·show Ds u n ((f2++[r]).getD f2.length default)
      rw[aMC];exact hr
     ·rw[aG (by omega)];rfl
     ·rintro _ rfl
      rw[aG (by omega)];exact ⟨rfl,rfl,rfl,rfl⟩
   ·have e3:=beq_iff_eq.1 e3
    refine bJ.call (aSr hK h hw (by rw[hkd];exact e3) ⟨by dsimp only;omega,by dsimp only;omega,by dsimp only;omega,by dsimp only;omega⟩) (fun r hr=>?_)
    rw[hdn] at hr
    refine bJ.ret (sE.r ?_)
    obtain ⟨b1,b2,b3,b4,b5,b6,b7,b8,b9,b10⟩:=hr
    refine st r ?_ ?_ (fun i hi=>by rw[b2]) (fun q=>by omega) (b3.trans m8) ?_ b4 b5 ?_
    ·rw[aG (by omega),b1];rfl
    ·rw[aG (by omega),b2];rfl
    ·rw[aG (by omega),b6];rfl
    ·rintro _ rfl
     rw[aH e3];exact ⟨b7,b8,b9,b10⟩
   ·have e4:=beq_iff_eq.1 e4
    refine bJ.call (aCG hK h) (fun _ _=>bJ.bO (bJ.bO ?_))
    refine bJ.dB (by decide) (aGi hK hw) (fun _ _=>?_)
    refine bJ.bW (eB ?_) (bJ.cC ?_)
    ·simp only[List.length_singleton];omega
    ·refine bJ.ret (sE.r ?_)
     refine st _ ?_ ?_ (fun i hi=>rfl) (fun q=>by omega) m8 ?_ rfl rfl ?_
     ·rw[aG (by omega)];rfl
     ·rw[aG (by omega)];rfl
     ·rw[aH e4];simp
     ·rintro _ rfl
      rw[aG (by omega)];exact ⟨rfl,rfl,rfl,rfl⟩
   ·simp only[beq_iff_eq] at e1 e2 e3 e4
    refine bJ.ret (sE.r ?_)
    refine st _ ?_ ?_ (fun i hi=>rfl) (fun q=>absurd q e2) m8 ?_ rfl rfl ?_
    ·rw[aG e1];rfl
    ·rw[aG e2];rfl
    ·rw[aG e4];rfl
    ·rintro _ rfl
     rw[aG e3];exact ⟨rfl,rfl,rfl,rfl⟩
  ·simp only[aB,Int.ofNat_eq_natCast] at e
   have hnl:n=u.bK.length:=by omega
   subst hnl
   refine bJ.ret (sE.l (sE.l ?_))
   exact g3
 ·obtain ⟨a1,a2,a3,a4,a5,a6,a7,a8,a9,a10,a11⟩:=hv
  rw[List.take_length] at a1 a2 a5 a6 a7 a8 a9
  refine bJ.call (aLe hK hw) (fun r hr=>?_)
  obtain ⟨r1,r2,r3⟩:=hr
  refine bJ.cN (fun o:List uW=>o.length=rO u.bK) (bJ.bL (bJ.dN ?_)) (fun o ho=>?_)
  ·have oR:v.2.2.1=[]:=a4
   refine bJ.loop (fun t:List uW × Int=>0≤t.2∧t.2≤r.length∧(t.1.length:Int)=t.2) (fun t=>(r.length - t.2).toNat) ⟨by simp,by simp,by rw[oR];rfl⟩ (by dsimp only;omega) ?_
   rintro ⟨o,t⟩ ⟨g1,g2,g3⟩
   dsimp only at g1 g2 g3 ⊢
   simp (disch:=omega) only[wr,Int.ofNat_eq_natCast]
   refine bJ.bO (bJ.ite (fun e=>?_) (fun e=>?_))
   ·simp only[aB] at e
    have hc:=r3 _ (eA (d:=default) (show t.toNat<r.length by omega))
    refine bJ.cN (fun o:List uW=>(o.length:Int)=t+1) (bJ.bL (bJ.bW (bV ⟨g1,e⟩) (bJ.cC (bJ.call (aSi hK h hw hc) (fun _ _=>bJ.bW (eB ?_) (bJ.cC ?_)))))) (fun o ho=>by refine bJ.ret (sE.r ?_);exact ⟨⟨by dsimp only;omega,by dsimp only;omega,ho⟩,by dsimp only;omega⟩)
    ·simp only[List.length_singleton];omega
    ·refine bJ.ret (sE.r ?_)
     rw[aE,List.length_singleton];omega
   ·simp only[aB] at e
    refine bJ.ret (sE.l (sE.l ?_))
    show o.length=_
    omega
  ·refine bJ.ret (sE.l ?_)
   exact ⟨a1,a2,a3,ho,a5,a6,a7,a8,a9,a10,a11⟩
end Go.Proofs.YtdbfbedholdjaaaGreat

namespace Go.Proofs.YtdbfbedholdjaaaGreat
open Go Go.Dl
variable [eC]
set_option maxRecDepth 100000
set_option maxHeartbeats 8000000
theorem a0h:bU (F7 200000000)=some true:=by kernel_rfl
theorem aJC:dG (F7 200000000) (fun v=>v=true):=⟨_,a0h,rfl⟩
theorem aYo {x:fG} (h:tyV x.cI):(rn x.cI:Int)=if x.cI.bP=6 then 0 else if x.cI.bP=7 then 0 else if x.cI.bP=4 then x.cI.vG+1 else 1:=by
 rw[← aK8]
 unfold rm
 by_cases h6:x.cI.bP=6
 ·rw[aH (.inl h6),aH h6];decide
 ·by_cases h7:x.cI.bP=7
  ·rw[aH (.inr h7),aG h6,aH h7];decide
  ·rw[aG (by omega),aG h6,aG h7]
   by_cases h4:x.cI.bP=4
   ·have hb:0≤x.cI.vG∧x.cI.vG<8:=by
     unfold tyV tyF tyP at h;omega
    rw[aH h4,aH h4,wr (by omega) (by omega)]
    unfold wA eY
    split <;> split <;> omega
   ·rw[aG h4,aG h4];decide
theorem aSs {l:List fG} {n:Nat} (h:n<l.length):l5 (l.take (n+1))=l5 (l.take n)+rn (l.getD n default).cI:=by
 rw[gN default h,aAN];simp [l5]
theorem aHY {α:Type} [Inhabited α] {p:α→Bool} {l:List α} {n:Nat} (h:n<l.length):(l.take (n+1)).countP p=(l.take n).countP p+(if p (l.getD n default)=true then 1 else 0):=by
 rw[gN default h,List.countP_append,List.countP_singleton]
theorem aHZ {α:Type} (p:α→Bool) (l:List α) (n:Nat):(l.take n).countP p≤l.length:=aV List.countP_le_length (by rw[aR];omega)
theorem aSt (x:fG):(isI x=true)=(x.cI.bP=6):=by unfold isI;rw[beq_iff_eq]
theorem aSu (x:fG):(isB x=true)=(x.cI.bP=7):=by unfold isB;rw[beq_iff_eq]
theorem aPS (x:fG):(s7 x=true)=(x.l9=1):=by unfold s7;rw[beq_iff_eq]
theorem aMD (x:fG):(mC x=true)=(x.l9=2):=by unfold mC;rw[beq_iff_eq]
abbrev C10:Type:=Int × Int × Int × Int × Int × Int × Int × Int × Int
def Ct (l:List jX) (c:C10):Prop :=
 c.1=nk 2 l∧c.2.1=nk 1 l∧c.2.2.1=rO l∧c.2.2.2.1=(pv l).countP isI∧c.2.2.2.2.1=(pv l).countP isB∧c.2.2.2.2.2.1=(pv l).countP s7∧c.2.2.2.2.2.2.1=(pv l).countP mC∧c.2.2.2.2.2.2.2.1=nk 4 l∧c.2.2.2.2.2.2.2.2=l5 (pv l)
theorem aVd {s:Bytes}:dG (F3 200000000 s) (fun v=>v=true):=by
 refine dG.of ?_
 unfold F3
 refine bJ.bO (bJ.ite (fun e=>?_) (fun e=>?_))
 ·refine bJ.call aJC ?_
  rintro _ rfl
  refine bJ.ret (sE.l ?_);rfl
 refine bJ.call (aU9 (by omega)) (fun r3 h3=>?_)
 refine bJ.bO (bJ.ite (fun e=>?_) (fun e=>?_))
 ·refine bJ.call aJC ?_
  rintro _ rfl
  refine bJ.ret (sE.l ?_);rfl
 have aB4:r3.2=[]:=by
  simp only[aB,Int.ofNat_eq_natCast] at e
  exact List.length_eq_zero_iff.1 (by omega)
 obtain ⟨h,hw,_⟩:=h3 aB4
 generalize r3.1=u at h hw
 have hl:=hw.len'
 have hpv:=aEf hw.all
 refine bJ.cN (fun c:C10=>Ct u.bK c) (bJ.bL (bJ.dN ?_)) (fun c hc=>?_)
 ·refine bJ.loop (fun t:Int × Int × Int × Int × Int × Int × Int × Int × Int × Int=>0≤t.2.2.2.2.2.2.2.2.2∧t.2.2.2.2.2.2.2.2.2≤u.bK.length∧Ct (u.bK.take t.2.2.2.2.2.2.2.2.2.toNat) (t.1,t.2.1,t.2.2.1,t.2.2.2.1,t.2.2.2.2.1,t.2.2.2.2.2.1,t.2.2.2.2.2.2.1,t.2.2.2.2.2.2.2.1,t.2.2.2.2.2.2.2.2.1)) (fun t=>(u.bK.length - t.2.2.2.2.2.2.2.2.2).toNat) ⟨by simp,by simp,⟨rfl,rfl,rfl,rfl,rfl,rfl,rfl,rfl,rfl⟩⟩ (by dsimp only;omega) ?_
  rintro ⟨c0,c1,c2,c3,c4,c5,c6,c7,c8,t⟩ ⟨g1,g2,g3⟩
  dsimp only at g1 g2 g3 ⊢
  obtain ⟨n,rfl⟩:=aJ g1
  rw[Int.toNat_natCast] at g3
  rw[show IntKind.i64.wrap ((n:Int)+1)=n+1 from wr (by omega) (by omega)]
  refine bJ.bO (bJ.ite (fun e=>?_) (fun e=>?_))
  ·simp only[aB,Int.ofNat_eq_natCast] at e
   have hn:n<u.bK.length:=by omega
   have hok:=hw n ⟨by omega,by omega⟩
   have hkd:=aPO (u:=u) (d:=n) ⟨by omega,by omega⟩
   have hdn:dc u n=u.bK.getD n default:=by rw[dc,Int.toNat_natCast]
   have aH0:=hok.prg
   have aVe:=hok.sz.m
   have aSv:=hok.sz.v
   rw[hdn] at hkd aH0 aVe aSv
   rw[hkd] at aH0
   obtain ⟨q1,q2,q3,q4,q5,q6,q7,q8,q9⟩:=g3
   dsimp only at q1 q2 q3 q4 q5 q6 q7 q8 q9
   have b2:=aEi (k:=2) hn
   have b1:=aEi (k:=1) hn
   have b4:=aEi (k:=4) hn
   have bc:=aGh hn
   have bp:=aPP hn
   have l2:=aFf 2 u.bK n
   have l1:=aFf 1 u.bK n
   have l4:=aFf 4 u.bK n
   have hpt:(pv (u.bK.take n)).length≤96:=by
    have:=aEf (l:=u.bK.take n) (fun d hd=>hw.all d (List.mem_of_mem_take hd))
    rw[aR] at this;omega
   have lp:∀ p:fG→Bool,(pv (u.bK.take n)).countP p≤96:=fun p=>aV List.countP_le_length hpt
   have p1:=lp isI
   have p2:=lp isB
   have p3:=lp s7
   have p4:=lp mC
   have lr:=xG (pv (u.bK.take n))
   have lc:rO (u.bK.take n)≤7 * n:=by
    clear b2 b1 b4 bc bp l2 l1 l4 lr p1 p2 p3 p4 lp hpt q1 q2 q3 q4 q5 q6 q7 q8 q9 hok hkd hdn aH0 aVe aSv e g1 g2
    induction n with
    | zero=>simp [rO]
    | succ n ih =>
      have ih:=ih (by omega)
      rw[aGh (by omega)]
      have hm:=(hw.sz n).m
      rw[dc,Int.toNat_natCast] at hm
      have:aCk (u.bK.getD n default)≤6:=by
       unfold aCk
       split
       ·exact aV List.countP_le_length hm
       ·split <;> omega
      have:rO (u.bK.take n)≤7 * n:=ih
      omega
   rw[Int.toNat_natCast]
   generalize hD:u.bK.getD n default=D at hkd aH0 aVe aSv b2 b1 b4 bc bp
   refine bJ.cN (fun c:C10=>Ct (u.bK.take (n+1)) c) (bJ.bL (bJ.bW (bV (by omega)) (bJ.cC (bJ.bO ?_)))) (fun c hc=>by refine bJ.bO (bJ.ret (sE.r ?_));exact ⟨⟨by dsimp only;omega,by dsimp only;omega,by dsimp only;rw[show ((n:Int)+1).toNat=n+1 by omega];exact hc⟩,by dsimp only;omega⟩)
   refine bJ.cN (fun c:Int × Int × Int × Int=>c.1=nk 2 (u.bK.take (n+1))∧c.2.1=nk 1 (u.bK.take (n+1))∧c.2.2.1=c2+(if D.bP=3 then 1 else 0)∧c.2.2.2=nk 4 (u.bK.take (n+1))) (bJ.bL ?_) ?_
   ·rw[show IntKind.i64.wrap (c0+1)=c0+1 from wr (by omega) (by omega),show IntKind.i64.wrap (c1+1)=c1+1 from wr (by omega) (by omega),show IntKind.i64.wrap (c2+1)=c2+1 from wr (by omega) (by omega),show IntKind.i64.wrap (c7+1)=c7+1 from wr (by omega) (by omega)]
    refine bJ.ite (fun e1=>?_) (fun e1=>bJ.ite (fun e2=>?_) (fun e2=>bJ.ite (fun e3=>?_) (fun e3=>bJ.ite (fun e4=>?_) (fun e4=>?_))))
    ·have e1:=beq_iff_eq.1 e1
     refine bJ.bW rfl (bJ.bW rfl (bJ.cC ?_))
     have f1:¬ D.bP=1:=by omega
     have f3:¬ D.bP=3:=by omega
     have f4:¬ D.bP=4:=by omega
     rw[b2,b1,b4,aH e1,aG f1,aG f3,aG f4]
     refine bJ.ret (sE.r ?_)
     exact ⟨by dsimp only;omega,by dsimp only;omega,by dsimp only;omega,by dsimp only;omega⟩
    ·have e2:=beq_iff_eq.1 e2
     refine bJ.bW rfl (bJ.bW rfl (bJ.cC ?_))
     have f1:¬ D.bP=2:=by omega
     have f3:¬ D.bP=3:=by omega
     have f4:¬ D.bP=4:=by omega
     rw[b2,b1,b4,aG f1,aH e2,aG f3,aG f4]
     refine bJ.ret (sE.r ?_)
     exact ⟨by dsimp only;omega,by dsimp only;omega,by dsimp only;omega,by dsimp only;omega⟩
    ·have e3:=beq_iff_eq.1 e3
     refine bJ.bW rfl (bJ.bW rfl (bJ.cC ?_))
     have f1:¬ D.bP=2:=by omega
     have f3:¬ D.bP=1:=by omega
     have f4:¬ D.bP=4:=by omega
     rw[b2,b1,b4,aG f1,aG f3,aH e3,aG f4]
     refine bJ.ret (sE.r ?_)
     exact ⟨by dsimp only;omega,by dsimp only;omega,rfl,by dsimp only;omega⟩
    ·have e4:=beq_iff_eq.1 e4
     refine bJ.bW rfl (bJ.bW rfl (bJ.cC ?_))
     have f1:¬ D.bP=2:=by omega
     have f3:¬ D.bP=1:=by omega
     have f4:¬ D.bP=3:=by omega
     rw[b2,b1,b4,aG f1,aG f3,aG f4,aH e4]
     refine bJ.ret (sE.r ?_)
     exact ⟨by dsimp only;omega,by dsimp only;omega,by dsimp only;omega,by dsimp only;omega⟩
    ·simp only[beq_iff_eq] at e1 e2 e3 e4
     rw[b2,b1,b4,aG e1,aG e2,aG e3,aG e4]
     refine bJ.ret (sE.r ?_)
     exact ⟨by dsimp only;omega,by dsimp only;omega,by dsimp only;omega,by dsimp only;omega⟩
   rintro ⟨d0,d1,d2,d7⟩ ⟨r0,r1,r2,r7⟩
   dsimp only at r0 r1 r2 r7 ⊢
   refine bJ.cN (fun c:Int=>c=rO (u.bK.take (n+1))) (bJ.bL (bJ.dN ?_)) (fun v hv=>?_)
   ·refine bJ.loop (fun t:Int × Int=>0≤t.2∧t.2≤D.bN.length∧t.1=d2+(if D.bP=2 then ((D.bN.take t.2.toNat).countP (fun m=>!m.eN):Int) else 0)) (fun t=>(D.bN.length - t.2).toNat) ⟨by simp,by simp,by dsimp only;split <;> simp⟩ (by dsimp only;omega) ?_
    rintro ⟨a,i⟩ ⟨k1,k2,k3⟩
    dsimp only at k1 k2 k3 ⊢
    obtain ⟨j,rfl⟩:=aJ k1
    rw[Int.toNat_natCast] at k3
    have xV:=aHZ (fun m:iI=>!m.eN) D.bN j
    rw[show IntKind.i64.wrap ((j:Int)+1)=j+1 from wr (by omega) (by omega)]
    refine bJ.bO (bJ.ite (fun e1=>?_) (fun e1=>?_))
    ·simp only[aC,aB,Int.ofNat_eq_natCast,beq_iff_eq] at e1
     obtain ⟨e1,e2⟩:=e1
     rw[aH e2] at k3
     have s8:=aHY (p:=fun m:iI=>!m.eN) (l:=D.bN) (n:=j) (by omega)
     rw[show IntKind.i64.wrap (a+1)=a+1 from wr (by omega) (by omega)]
     refine bJ.cN (fun v:Int=>v=d2+((D.bN.take (j+1)).countP (fun m=>!m.eN):Int)) (bJ.bL (bJ.bW (bV (by omega)) (bJ.cC (bJ.bO (bJ.ite (fun e3=>?_) (fun e3=>?_)))))) (fun v hv=>by refine bJ.ret (sE.r ?_);exact ⟨⟨by dsimp only;omega,by dsimp only;omega,by dsimp only;rw[aH e2,show ((j:Int)+1).toNat=j+1 by omega];exact hv⟩,by dsimp only;omega⟩)
     ·rw[Int.toNat_natCast] at e3
      rw[aH e3] at s8
      refine bJ.bW rfl (bJ.bW rfl (bJ.cC ?_))
      refine bJ.ret (sE.r ?_)
      omega
     ·rw[Int.toNat_natCast] at e3
      rw[aG e3] at s8
      refine bJ.ret (sE.r ?_)
      omega
    ·simp only[aC,aB,Int.ofNat_eq_natCast,beq_iff_eq,not_and] at e1
     refine bJ.ret (sE.l (sE.l ?_))
     show a=_
     rw[bc]
     unfold aCk
     by_cases e2:D.bP=2
     ·have hj:¬ (j<D.bN.length):=fun q=>e1 (by omega) e2
      rw[aH e2] at k3 ⊢
      rw[bF (by omega)] at k3
      rw[aG (by omega)] at r2
      omega
     ·rw[aG e2] at k3 ⊢
      split <;> rename_i e3
      ·rw[aH e3] at r2;omega
      ·rw[aG e3] at r2;omega
   ·refine bJ.cN (fun c:Int × Int × Int × Int × Int=>c.1=(pv (u.bK.take (n+1))).countP isI∧c.2.1=(pv (u.bK.take (n+1))).countP isB∧c.2.2.1=(pv (u.bK.take (n+1))).countP s7∧c.2.2.2.1=(pv (u.bK.take (n+1))).countP mC∧c.2.2.2.2=l5 (pv (u.bK.take (n+1)))) (bJ.bL (bJ.dN ?_)) (fun c hc=>by refine bJ.ret (sE.r ?_);exact ⟨r0,r1,hv,hc.1,hc.2.1,hc.2.2.1,hc.2.2.2.1,r7,hc.2.2.2.2⟩)
    rw[bp]
    by_cases e3:D.bP=3
    ·rw[aH e3]
     have aH0:=aH0 e3
     generalize D.cU=l at aH0 aSv
     refine bJ.loop (fun t:Int × Int × Int × Int × Int × Int=>0≤t.2.2.2.2.2∧t.2.2.2.2.2≤l.length∧t.1=c3+(l.take t.2.2.2.2.2.toNat).countP isI∧t.2.1=c4+(l.take t.2.2.2.2.2.toNat).countP isB∧t.2.2.1=c5+(l.take t.2.2.2.2.2.toNat).countP s7∧t.2.2.2.1=c6+(l.take t.2.2.2.2.2.toNat).countP mC∧t.2.2.2.2.1=c8+l5 (l.take t.2.2.2.2.2.toNat)) (fun t=>(l.length - t.2.2.2.2.2).toNat) ⟨by simp,by simp,by simp,by simp,by simp,by simp,by simp [l5]⟩ (by dsimp only;omega) ?_
     rintro ⟨a3,a4,a5,a6,a8,i⟩ ⟨k1,k2,k3,k4,k5,k6,k7⟩
     dsimp only at k1 k2 k3 k4 k5 k6 k7 ⊢
     obtain ⟨j,rfl⟩:=aJ k1
     rw[Int.toNat_natCast] at k3 k4 k5 k6 k7
     have z1:=aHZ isI l j
     have z2:=aHZ isB l j
     have z3:=aHZ s7 l j
     have z4:=aHZ mC l j
     have z5:=xG (l.take j)
     have z6:(l.take j).length≤8:=by rw[aR];omega
     rw[show IntKind.i64.wrap ((j:Int)+1)=j+1 from wr (by omega) (by omega)]
     refine bJ.bO (bJ.ite (fun e1=>?_) (fun e1=>?_))
     ·simp only[aC,aB,Int.ofNat_eq_natCast,beq_iff_eq] at e1
      have e1:=e1.1
      have hj:j<l.length:=by omega
      have y1:=aHY (p:=isI) hj
      have y2:=aHY (p:=isB) hj
      have y3:=aHY (p:=s7) hj
      have y4:=aHY (p:=mC) hj
      have y5:=aSs hj
      have hx:=aH0 _ (eA (d:=default) hj)
      rw[Int.toNat_natCast]
      generalize l.getD j default=x at hx y1 y2 y3 y4 y5
      have hrn:=aYo hx.1
      have hhi:x.cI.bP=4→0≤x.cI.vG∧x.cI.vG<8:=fun q=>by
       have:=hx.1
       unfold tyV tyF tyP at this;omega
      simp only[aSt,aSu,aPS,aMD] at y1 y2 y3 y4
      refine bJ.cN (fun c:Int × Int × Int × Int × Int=>c.1=c3+(l.take (j+1)).countP isI∧c.2.1=c4+(l.take (j+1)).countP isB∧c.2.2.1=c5+(l.take (j+1)).countP s7∧c.2.2.2.1=c6+(l.take (j+1)).countP mC∧c.2.2.2.2=c8+l5 (l.take (j+1))) (bJ.bL (bJ.bW (bV (by omega)) (bJ.cC (bJ.bO ?_)))) (fun c hc=>by refine bJ.ret (sE.r ?_);exact ⟨⟨by dsimp only;omega,by dsimp only;omega,by dsimp only;rw[show ((j:Int)+1).toNat=j+1 by omega];exact hc⟩,by dsimp only;omega⟩)
      refine bJ.cN (fun c:Int × Int × Int=>c.1=c3+(l.take (j+1)).countP isI∧c.2.1=c4+(l.take (j+1)).countP isB∧c.2.2=c8+l5 (l.take (j+1))) (bJ.bL ?_) ?_
      ·rw[show IntKind.i64.wrap (a3+1)=a3+1 from wr (by omega) (by omega),show IntKind.i64.wrap (a4+1)=a4+1 from wr (by omega) (by omega),show IntKind.i64.wrap (a8+1)=a8+1 from wr (by omega) (by omega)]
       refine bJ.ite (fun w1=>?_) (fun w1=>bJ.ite (fun w2=>?_) (fun w2=>bJ.ite (fun w4=>?_) (fun w4=>?_)))
       ·have w1:=beq_iff_eq.1 w1
        rw[aH w1] at y1 hrn
        rw[aG (by omega)] at y2
        refine bJ.bW rfl (bJ.bW rfl (bJ.cC ?_))
        refine bJ.ret (sE.r ?_)
        exact ⟨by dsimp only;omega,by dsimp only;omega,by dsimp only;omega⟩
       ·have w1:¬ x.cI.bP=6:=fun q=>w1 (beq_iff_eq.2 q)
        have w2:=beq_iff_eq.1 w2
        rw[aG w1] at y1 hrn
        rw[aH w2] at y2 hrn
        refine bJ.bW rfl (bJ.bW rfl (bJ.cC ?_))
        refine bJ.ret (sE.r ?_)
        exact ⟨by dsimp only;omega,by dsimp only;omega,by dsimp only;omega⟩
       ·have w1:¬ x.cI.bP=6:=fun q=>w1 (beq_iff_eq.2 q)
        have w2:¬ x.cI.bP=7:=fun q=>w2 (beq_iff_eq.2 q)
        have w4:=beq_iff_eq.1 w4
        have hh:=hhi w4
        rw[aG w1] at y1 hrn
        rw[aG w2] at y2 hrn
        rw[aH w4] at hrn
        rw[show IntKind.i64.wrap (a8+x.cI.vG)=a8+x.cI.vG from wr (by omega) (by omega),show IntKind.i64.wrap (a8+x.cI.vG+1)=a8+x.cI.vG+1 from wr (by omega) (by omega)]
        refine bJ.bW (bV (by omega)) (bJ.cC (bJ.bO ?_))
        refine bJ.ret (sE.r ?_)
        exact ⟨by dsimp only;omega,by dsimp only;omega,by dsimp only;omega⟩
       ·have w1:¬ x.cI.bP=6:=fun q=>w1 (beq_iff_eq.2 q)
        have w2:¬ x.cI.bP=7:=fun q=>w2 (beq_iff_eq.2 q)
        have w4:¬ x.cI.bP=4:=fun q=>w4 (beq_iff_eq.2 q)
        rw[aG w1] at y1 hrn
        rw[aG w2] at y2 hrn
        rw[aG w4] at hrn
        refine bJ.ret (sE.r ?_)
        exact ⟨by dsimp only;omega,by dsimp only;omega,by dsimp only;omega⟩
      rintro ⟨v3,v4,v8⟩ ⟨x3,x4,x8⟩
      dsimp only at x3 x4 x8 ⊢
      refine bJ.bW (bV (by omega)) (bJ.cC (bJ.bO ?_))
      refine bJ.cN (fun c:Int=>c=c5+(l.take (j+1)).countP s7) ?_ (fun v5 hv5=>?_)
      ·rw[show IntKind.i64.wrap (a5+1)=a5+1 from wr (by omega) (by omega)]
       refine bJ.ite (fun w1=>bJ.bW rfl (bJ.bW rfl (bJ.cC ?_))) (fun w1=>?_)
       ·rw[aH (beq_iff_eq.1 w1)] at y3
        refine bJ.ret (sE.r ?_)
        omega
       ·rw[aG (fun q=>w1 (beq_iff_eq.2 q))] at y3
        refine bJ.ret (sE.r ?_)
        omega
      ·refine bJ.bW (bV (by omega)) (bJ.cC (bJ.bO ?_))
       rw[show IntKind.i64.wrap (a6+1)=a6+1 from wr (by omega) (by omega)]
       refine bJ.ite (fun w1=>bJ.bW rfl (bJ.bW rfl (bJ.cC ?_))) (fun w1=>?_)
       ·rw[aH (beq_iff_eq.1 w1)] at y4
        refine bJ.ret (sE.r ?_)
        refine ⟨x3,x4,hv5,?_,x8⟩
        show a6+1=_
        omega
       ·rw[aG (fun q=>w1 (beq_iff_eq.2 q))] at y4
        refine bJ.ret (sE.r ?_)
        refine ⟨x3,x4,hv5,?_,x8⟩
        show a6=_
        omega
     ·simp only[aC,aB,Int.ofNat_eq_natCast,beq_iff_eq,not_and] at e1
      have hj:¬ (j<l.length):=fun q=>e1 (by omega) e3
      rw[bF (by omega)] at k3 k4 k5 k6 k7
      refine bJ.ret (sE.l (sE.l ?_))
      simp only[List.countP_append,aAN]
      exact ⟨by omega,by omega,by omega,by omega,by omega⟩
    ·rw[aG e3,List.append_nil]
     refine bJ.loop (fun t:Int × Int × Int × Int × Int × Int=>t=(c3,c4,c5,c6,c8,0)) (fun _=>0) rfl (by omega) ?_
     rintro _ rfl
     refine bJ.bO (bJ.fC ?_ ?_)
     ·simp only[aC,beq_iff_eq,not_and]
      exact fun _=>e3
     ·refine bJ.ret (sE.l (sE.l ?_))
      exact ⟨q4,q5,q6,q7,q9⟩
  ·simp only[aB,Int.ofNat_eq_natCast] at e
   rw[bF (by omega)] at g3
   refine bJ.ret (sE.l (sE.l ?_))
   exact g3
 ·obtain ⟨c0,c1,c2,c3,c4,c5,c6,c7,c8⟩:=c
  obtain ⟨q1,q2,q3,q4,q5,q6,q7,q8,q9⟩:=hc
  dsimp only at q1 q2 q3 q4 q5 q6 q7 q8 q9 ⊢
  refine bJ.call (aVc (by omega) h hw) (fun v hv=>?_)
  have a1:((Int.ofNat v.dW.length:Int) == c0)=true:=by rw[q1,hv.cl];exact beq_self_eq_true _
  have a2:((Int.ofNat v.dZ.length:Int) == c1)=true:=by rw[q2,hv.fa];exact beq_self_eq_true _
  have a3:((Int.ofNat v.fO.length:Int) == c2)=true:=by rw[q3,hv.co];exact beq_self_eq_true _
  have a4:((Int.ofNat v.eO.length:Int) == c3)=true:=by rw[q4,hv.it];exact beq_self_eq_true _
  have a5:((Int.ofNat v.bX.length:Int) == c4)=true:=by rw[q5,hv.bl];exact beq_self_eq_true _
  have a6:((Int.ofNat v.jN.length:Int) == c5)=true:=by rw[q6,hv.ii];exact beq_self_eq_true _
  have a7:((Int.ofNat v.fV.length:Int) == c6)=true:=by rw[q7,hv.oo];exact beq_self_eq_true _
  have a8:((Int.ofNat v.kJ.length:Int) == c7)=true:=by rw[q8,hv.jb];exact beq_self_eq_true _
  have a9:((Int.ofNat v.fM.length:Int) == c8)=true:=by rw[q9,hv.gl];exact beq_self_eq_true _
  have a10:((Int.ofNat v.fY.length:Int) == c8)=true:=by rw[q9,hv.ini];exact beq_self_eq_true _
  rw[a1,a2,a3,a4,a5,a6,a7,a8,a9,a10]
  refine bJ.bW rfl (bJ.bW rfl (bJ.bW rfl (bJ.bW rfl (bJ.bW rfl (bJ.bW rfl (bJ.bW rfl (bJ.bW rfl (bJ.cC (bJ.bO ?_)))))))))
  refine bJ.dB rfl aJC ?_
  rintro _ rfl
  refine bJ.ret (sE.l ?_)
  rfl
theorem aRZ (s:Bytes):bU (F3 200000000 s)=some true:=by
 obtain ⟨v,h,rfl⟩:=aVd (s:=s)
 exact h
end Go.Proofs.YtdbfbedholdjaaaGreat
