/- No conditions. -/
import Derived.Test.YtdbfbedholdjaaaGreatPUD
import Derived.Test.YtdbfbedholdjaaaGreatPLG
import Derived.Test.YtdbfbedholdjaaaGreatPUB
import Derived.Test.YtdbfbedholdjaaaGreatPLs
import Derived.Test.YtdbfbedholdjaaaGreatPLr
set_option linter.unusedVariables false
set_option linter.unusedSimpArgs false
set_option linter.unusedSectionVars false
namespace Go.Proofs.YtdbfbedholdjaaaGreat
open Go Go.Dl
variable [dW]
set_option maxRecDepth 100000
set_option maxHeartbeats 8000000
theorem aPV {K:Nat} {a b:dR}:dA (aOh K a b) (fun _=>True):=by
 refine dA.of ?_
 unfold aOh
 exact T0
theorem aPW {K:Nat} {l:List dR} {w:dR} (hK:1000000<K) (hl:l.length≤100000):dA (aOi K l w) (fun v=>-1≤v∧v<l.length):=by
 refine dA.of ?_
 unfold aOi
 refine bI.dS (bI.bJ (bI.dK ?_)) (fun _=>by refine bI.ret (sE.l ?_);exact ⟨by omega,by omega⟩)
 refine bI.l5 l.length (by omega) (fun i hi=>?_) ?_
 ·simp (disch:=omega) only[wr,Int.ofNat_eq_natCast]
  refine bI.bN (bI.eR (by simp only[aB];omega) ?_)
  refine bI.dS (bI.bJ (bI.bW (bR (by omega)) (bI.cD ?_))) (fun _=>by refine bI.ret (sE.r ?_);rfl)
  refine bI.bN (bI.ite (fun _=>bI.ret (sE.l (sE.r (sE.r ?_)))) (fun _=>bI.ret (sE.r ?_)))
  ·exact ⟨by omega,by omega⟩
  ·trivial
 ·simp (disch:=omega) only[wr,Int.ofNat_eq_natCast]
  refine bI.bN (bI.eQ (by simp only[aB];exact Int.lt_irrefl _) ?_)
  exact T0
theorem aPX {K:Nat} {u:cZ} {w:dR} (h:Sm u):dA (aOj K u w) (fun v=>cJ.jC v≤6004):=by
 refine dA.of ?_
 unfold aOj
 refine bI.call aAM (fun v hv=>?_)
 refine bI.ite (fun e=>?_) (fun e=>?_)
 ·refine bI.ret (sE.l ?_);simp [cJ.jC]
 have hp:=hv (by simpa using e)
 refine bI.ite (fun e2=>?_) (fun e2=>?_)
 ·refine bI.bW (bR hp.in) (bI.cD (bI.bN ?_))
  refine bI.ret (sE.l ?_)
  exact h.body _
 ·simp only[aB] at e2
  have hw:Vw u w:=by
   rcases hp with hp | hp
   ·exact hp.2
   ·omega
  refine bI.bW (bR hp.in) (bI.bW (bR hw.2) (bI.cD (bI.bN ?_)))
  refine bI.ret (sE.l ?_)
  exact (hU.bounds (h.m w.c8 w.dD.toNat)).2.2
theorem aPY {l:List cL} {n:Nat} (h:n<l.length):cL.jC (l.take (n+1))=cL.jC (l.take n)+(l.getD n default).sz:=by
 rw[iO default h,oD];simp [cL.jC]
theorem aGj (l:List cL) (n:Nat):cL.jC (l.take n)≤cL.jC l:=by
 have:=oD (l.take n) (l.drop n)
 rw[List.take_append_drop] at this;omega
theorem aFj:∀ (K:Nat) (o:List cL) (e:cL),e.sz≤7000→o.length≤10000000→e.sz+10000<K→o.length+e.sz≤10000000→dA (aAt K o e) (fun v=>v.length≤o.length+e.sz)
 | 0,_,_,_,_,h,_=>by omega
 | K+1,o,e,h1,h2,h3,h4=>by
   have hs:=e.szq
   have hl:=oC e.fY
   refine dA.of ?_
   rw[aAt]
   refine bI.cP (fun v:List cL=>v.length≤o.length+1) ?_ (fun v hv=>?_)
   ·refine bI.ite (fun e1=>bI.bW (dX ?_) (bI.cD ?_)) (fun e1=>?_)
    ·show (o.length+1) * 72≤_
     omega
    ·refine bI.ret (sE.r ?_)
     rw[aE];simp
    ·refine bI.ret (sE.r ?_)
     omega
   refine bI.cP (fun v:List cL=>v.length≤o.length+e.sz) (bI.bJ (bI.dK ?_)) (fun v hv=>by refine bI.ret (sE.l ?_);exact hv)
   refine bI.loop (fun t:List cL × Int=>0≤t.2∧t.2≤e.fY.length∧t.1.length≤o.length+1+cL.jC (e.fY.take t.2.toNat)) (fun t=>(e.fY.length - t.2).toNat) ⟨by simp,by simp,by dsimp only;omega⟩ (by dsimp only;omega) ?_
   rintro ⟨p,t⟩ ⟨g1,g2,g3⟩
   dsimp only at g1 g2 g3 ⊢
   obtain ⟨n,rfl⟩:=aJ g1
   rw[Int.toNat_natCast] at g3
   simp (disch:=omega) only[wr,Int.ofNat_eq_natCast]
   refine bI.bN (bI.ite (fun e1=>?_) (fun e1=>?_))
   ·simp only[aB] at e1
    have hn:n<e.fY.length:=by omega
    have hm:=p7 (dQ (d:=default) hn)
    have tW:=aPY hn
    have hle:=aGj e.fY (n+1)
    rw[Int.toNat_natCast]
    refine bI.cP (fun v:List cL=>v.length≤o.length+1+cL.jC (e.fY.take (n+1))) (bI.bJ (bI.bW (bR (by omega)) (bI.cD ?_))) (fun v hv=>?_)
    ·refine bI.call (aFj K p _ (by omega) (by omega) (by omega) (by omega)) (fun v hv=>?_)
     refine bI.ret (sE.r ?_)
     omega
    ·refine bI.ret (sE.r ?_)
     exact ⟨⟨by dsimp only;omega,by dsimp only;omega,by dsimp only;rw[show ((n:Int)+1).toNat=n+1 by omega];exact hv⟩,by dsimp only;omega⟩
   ·have hle:=aGj e.fY n
    refine bI.ret (sE.l (sE.l ?_))
    show p.length≤_
    omega
theorem aYI {l:List cJ} {n:Nat} (h:n<l.length):cJ.jC (l.take (n+1))=cJ.jC (l.take n)+(l.getD n default).sz:=by
 rw[iO default h,w5];simp [cJ.jC]
theorem aTD (l:List cJ) (n:Nat):cJ.jC (l.take n)≤cJ.jC l:=by
 have:=w5 (l.take n) (l.drop n)
 rw[List.take_append_drop] at this;omega
theorem aVr {l:List (List cJ)} {n:Nat} (h:n<l.length):cJ.lQ (l.take (n+1))=cJ.lQ (l.take n)+1+cJ.jC (l.getD n default):=by
 rw[iO default h,sJ];simp [cJ.lQ];omega
theorem aPZ (l:List (List cJ)) (n:Nat):cJ.lQ (l.take n)≤cJ.lQ l:=by
 have:=sJ (l.take n) (l.drop n)
 rw[List.take_append_drop] at this;omega
theorem aFk:∀ (K:Nat) (o:List cL) (l:List cJ),cJ.jC l≤6004→cJ.jC l+20000<K→o.length+cJ.jC l≤1000000→dA (yF K o l) (fun v=>v.length≤o.length+cJ.jC l)
 | 0,_,_,_,h,_=>by omega
 | K+1,o,l,h1,h2,h3=>by
   have hl:=aJE l
   refine dA.of ?_
   rw[yF]
   refine bI.cP (fun v:List cL=>v.length≤o.length+cJ.jC l) (bI.bJ (bI.dK ?_)) (fun v hv=>by refine bI.ret (sE.l ?_);exact hv)
   refine bI.loop (fun t:List cL × Int=>0≤t.2∧t.2≤l.length∧t.1.length≤o.length+cJ.jC (l.take t.2.toNat)) (fun t=>(l.length - t.2).toNat) ⟨by simp,by simp,by dsimp only;omega⟩ (by dsimp only;omega) ?_
   rintro ⟨p,t⟩ ⟨g1,g2,g3⟩
   dsimp only at g1 g2 g3 ⊢
   obtain ⟨n,rfl⟩:=aJ g1
   rw[Int.toNat_natCast] at g3
   simp (disch:=omega) only[wr,Int.ofNat_eq_natCast]
   refine bI.bN (bI.ite (fun e1=>?_) (fun e1=>?_))
   ·simp only[aB] at e1
    have hn:n<l.length:=by omega
    have hm:=aJD (dQ (d:=default) hn)
    have tW:=aYI hn
    have hle:=aTD l (n+1)
    simp only[Int.toNat_natCast]
    have hsz:=(l.getD n default).szq
    have hxl:=oC (l.getD n default).cT
    have hbl:=aCL (l.getD n default).bY
    refine bI.cP (fun v:List cL=>v.length≤o.length+cJ.jC (l.take (n+1))) (bI.bJ ?_) (fun v hv=>?_)
    ·refine bI.cP (fun v:List cL=>v.length≤p.length+cL.jC (l.getD n default).cT) (bI.bJ (bI.dK ?_)) (fun q hq=>?_)
     ·refine bI.loop (fun t:List cL × Int=>0≤t.2∧t.2≤(l.getD n default).cT.length∧t.1.length≤p.length+cL.jC ((l.getD n default).cT.take t.2.toNat)) (fun t=>((l.getD n default).cT.length - t.2).toNat) ⟨by simp,by simp,by dsimp only;omega⟩ (by dsimp only;omega) ?_
      rintro ⟨p2,t2⟩ ⟨k1,k2,k3⟩
      dsimp only at k1 k2 k3 ⊢
      obtain ⟨m,rfl⟩:=aJ k1
      rw[Int.toNat_natCast] at k3
      refine bI.bW (bR (by omega)) (bI.cD ?_)
      simp (disch:=omega) only[wr,Int.ofNat_eq_natCast]
      refine bI.bN (bI.ite (fun e2=>?_) (fun e2=>?_))
      ·simp only[aB] at e2
       have hm2:m<(l.getD n default).cT.length:=by omega
       have hx:=p7 (dQ (d:=default) hm2)
       have hxa:=aPY hm2
       have hxe:=aGj (l.getD n default).cT (m+1)
       refine bI.cP (fun v:List cL=>v.length≤p.length+cL.jC ((l.getD n default).cT.take (m+1))) (bI.bJ (bI.bW (bR (by omega)) (bI.cD (bI.bN (bI.bW (bR (by omega)) (bI.cD ?_)))))) (fun v hv=>?_)
       ·rw[Int.toNat_natCast]
        refine bI.call (aFj K p2 _ (by omega) (by omega) (by omega) (by omega)) (fun v hv=>?_)
        refine bI.ret (sE.r ?_)
        omega
       ·refine bI.ret (sE.r ?_)
        exact ⟨⟨by dsimp only;omega,by dsimp only;omega,by dsimp only;rw[show ((m:Int)+1).toNat=m+1 by omega];exact hv⟩,by dsimp only;omega⟩
      ·have hxe:=aGj (l.getD n default).cT m
       refine bI.ret (sE.l (sE.l ?_))
       show p2.length≤_
       omega
     ·refine bI.cP (fun v:List cL=>v.length≤p.length+cL.jC (l.getD n default).cT+cJ.lQ (l.getD n default).bY) (bI.bJ (bI.dK ?_)) (fun v hv=>by refine bI.ret (sE.r ?_);omega)
      refine bI.loop (fun t:List cL × Int=>0≤t.2∧t.2≤(l.getD n default).bY.length∧t.1.length≤p.length+cL.jC (l.getD n default).cT+cJ.lQ ((l.getD n default).bY.take t.2.toNat)) (fun t=>((l.getD n default).bY.length - t.2).toNat) ⟨by simp,by simp,by dsimp only;omega⟩ (by dsimp only;omega) ?_
      rintro ⟨p2,t2⟩ ⟨k1,k2,k3⟩
      dsimp only at k1 k2 k3 ⊢
      obtain ⟨m,rfl⟩:=aJ k1
      rw[Int.toNat_natCast] at k3
      refine bI.bW (bR (by omega)) (bI.cD ?_)
      simp (disch:=omega) only[wr,Int.ofNat_eq_natCast]
      refine bI.bN (bI.ite (fun e2=>?_) (fun e2=>?_))
      ·simp only[aB] at e2
       have hm2:m<(l.getD n default).bY.length:=by omega
       have hx:=aAL (dQ (d:=default) hm2)
       have hxa:=aVr hm2
       have hxe:=aPZ (l.getD n default).bY (m+1)
       refine bI.cP (fun v:List cL=>v.length≤p.length+cL.jC (l.getD n default).cT+cJ.lQ ((l.getD n default).bY.take (m+1))) (bI.bJ (bI.bW (bR (by omega)) (bI.cD (bI.bN (bI.bW (bR (by omega)) (bI.cD ?_)))))) (fun v hv=>?_)
       ·rw[Int.toNat_natCast]
        refine bI.call (aFk K p2 _ (by omega) (by omega) (by omega)) (fun v hv=>?_)
        refine bI.ret (sE.r ?_)
        omega
       ·refine bI.ret (sE.r ?_)
        exact ⟨⟨by dsimp only;omega,by dsimp only;omega,by dsimp only;rw[show ((m:Int)+1).toNat=m+1 by omega];exact hv⟩,by dsimp only;omega⟩
      ·have hxe:=aPZ (l.getD n default).bY m
       refine bI.ret (sE.l (sE.l ?_))
       show p2.length≤_
       omega
    ·refine bI.ret (sE.r ?_)
     exact ⟨⟨by dsimp only;omega,by dsimp only;omega,by dsimp only;rw[show ((n:Int)+1).toNat=n+1 by omega];exact hv⟩,by dsimp only;omega⟩
   ·have hle:=aTD l n
    refine bI.ret (sE.l (sE.l ?_))
    show p.length≤_
    omega
theorem aP0 {K:Nat} {l:List cJ} (hK:100000<K) (hl:cJ.jC l≤6004):dA (aOr K l) (fun v=>v.length≤6004):=by
 have e:aOr K l=yF (K+1) [] l:=by rw[yF];rfl
 rw[e]
 refine (aFk (K+1) [] l hl (by omega) (by simp;omega)).aAK (fun v hv=>?_)
 simp at hv;omega
end Go.Proofs.YtdbfbedholdjaaaGreat

namespace Go.Proofs.YtdbfbedholdjaaaGreat
open Go Go.Dl
variable [dW]
set_option maxRecDepth 100000
set_option maxHeartbeats 8000000
theorem aP1 {K:Nat} {l:List dR} {w:dR} (hK:1000000<K) (hl:l.length≤100000):dA (aMs K l w) (fun v=>v.length≤l.length+1):=by
 refine dA.of ?_
 unfold aMs
 refine bI.cP (fun i:Int=>0≤i∧i≤l.length) (bI.bJ (bI.dK ?_)) (fun i hi=>?_)
 ·refine bI.loop (fun t:Int=>0≤t∧t≤l.length) (fun t=>(l.length - t).toNat) ⟨by omega,by omega⟩ (by omega) (fun t ⟨g1,g2⟩=>?_)
  simp (disch:=omega) only[wr,Int.ofNat_eq_natCast]
  refine bI.bW ?_ (bI.cD (bI.bN ?_))
  ·by_cases q:t<l.length
   ·rw[bR ⟨g1,q⟩];simp
   ·rw[decide_eq_false q];rfl
  refine bI.cG (fun _=>aPV) (fun v _=>?_)
  refine bI.ite (fun e=>?_) (fun e=>?_)
  ·simp only[aC,aB] at e
   refine bI.bL (bI.bJ (bI.ret (sE.r (bI.ret (sE.r ?_)))))
   exact ⟨⟨by omega,by omega⟩,by omega⟩
  ·refine bI.ret (sE.l (sE.l ?_))
   exact ⟨by omega,by omega⟩
 ·refine bI.bW ?_ (bI.cD (bI.bN (bI.bN (bI.ite (fun e=>?_) (fun e=>?_)))))
  ·by_cases q:i<Int.ofNat l.length
   ·rw[bR ⟨hi.1,q⟩];simp
   ·rw[decide_eq_false q];rfl
  ·refine bI.ret (sE.l ?_);omega
  ·refine bI.bW ?_ (bI.bW ?_ (bI.cD (bI.bN (bI.bN ?_))))
   ·simp only[cW,aC,aB];omega
   ·simp only[cW,aC,aB,Int.ofNat_eq_natCast];omega
   have h1:((l.drop (0:Int).toNat).take (i.toNat - (0:Int).toNat)).length≤l.length:=by
    rw[aU,bH];omega
   have h2:((l.drop i.toNat).take ((Int.ofNat l.length).toNat - i.toNat)).length+((l.drop (0:Int).toNat).take (i.toNat - (0:Int).toNat)).length≤l.length:=by
    simp only[aU,bH,Int.ofNat_eq_natCast,Int.toNat_natCast];simp;omega
   refine bI.bW (dX (by omega)) (bI.cD (bI.bW (dX ?_) (bI.cD (bI.bW (dX ?_) (bI.cD ?_)))))
   ·simp only[List.length_singleton];omega
   ·rw[aE];simp only[List.length_singleton];omega
   ·refine bI.ret (sE.l ?_)
    rw[aE,aE];simp only[List.length_singleton];omega
theorem Wf.len {u:cZ} (hw:Wf u):u.bK.length≤12:=by
 by_cases h:u.bK.length≤12
 ·exact h
 ·have:=(hw 12 ⟨by omega,by omega⟩).lim
  omega
theorem aSs {K:Nat} {u:cZ} (hK:1000000<K) (hw:Wf u):dA (F78 K u) (fun v=>v.length≤100∧∀ w∈v,0≤w.c8∧w.c8<u.bK.length):=by
 have hl:=hw.len
 refine dA.of ?_
 unfold F78
 refine bI.cP (fun v:List dR=>v.length≤100∧∀ w∈v,0≤w.c8∧w.c8<u.bK.length) (bI.bJ (bI.dK ?_)) (fun v hv=>by refine bI.ret (sE.l ?_);exact hv)
 refine bI.loop (fun t:List dR × Int=>0≤t.2∧t.2≤u.bK.length∧(t.1.length:Int)≤7 * t.2∧∀ w∈t.1,0≤w.c8∧w.c8<u.bK.length) (fun t=>(u.bK.length - t.2).toNat) ⟨by simp,by simp,by simp,fun w hw=>by cases hw⟩ (by dsimp only;omega) ?_
 rintro ⟨o,t⟩ ⟨g1,g2,g3,g4⟩
 dsimp only at g1 g2 g3 g4 ⊢
 simp (disch:=omega) only[wr,Int.ofNat_eq_natCast]
 refine bI.bN (bI.ite (fun e1=>?_) (fun e1=>?_))
 ·simp only[aB] at e1
  have hm:=(hw t ⟨g1,e1⟩).sz.m
  refine bI.cP (fun v:List dR=>(v.length:Int)≤7 * t+7∧∀ w∈v,0≤w.c8∧w.c8<u.bK.length) (bI.bJ (bI.bW (bR ⟨g1,e1⟩) (bI.cD (bI.bN ?_)))) (fun v hv=>by refine bI.ret (sE.r ?_);exact ⟨⟨by dsimp only;omega,by dsimp only;omega,by dsimp only;omega,hv.2⟩,by dsimp only;omega⟩)
  refine bI.cP (fun v:List dR=>(v.length:Int)≤7 * t+1∧∀ w∈v,0≤w.c8∧w.c8<u.bK.length) ?_ (fun o2 ho2=>?_)
  ·refine bI.ite (fun e2=>bI.bW (dX ?_) (bI.cD ?_)) (fun e2=>?_)
   ·show (o.length+1) * 16≤_
    omega
   ·refine bI.ret (sE.r ?_)
    refine ⟨by rw[aE,List.length_singleton];omega,fun w hw=>?_⟩
    rcases aY.1 hw with hw | hw
    ·exact g4 w hw
    ·rw[aO.1 hw];exact ⟨g1,e1⟩
   ·refine bI.ret (sE.r ?_)
    exact ⟨by omega,g4⟩
  ·refine bI.cP (fun v:List dR=>(v.length:Int)≤7 * t+7∧∀ w∈v,0≤w.c8∧w.c8<u.bK.length) (bI.bJ (bI.dK ?_)) (fun v hv=>by refine bI.ret (sE.r ?_);exact hv)
   refine bI.loop (fun s:List dR × Int=>0≤s.2∧s.2≤(dc u t).bM.length∧(s.1.length:Int)≤7 * t+1+s.2∧∀ w∈s.1,0≤w.c8∧w.c8<u.bK.length) (fun s=>((dc u t).bM.length - s.2).toNat) ⟨by simp,by simp,by dsimp only;omega,ho2.2⟩ (by dsimp only;omega) ?_
   rintro ⟨o3,i⟩ ⟨k1,k2,k3,k4⟩
   dsimp only at k1 k2 k3 k4 ⊢
   refine bI.bW (bR ⟨g1,e1⟩) (bI.bW (by rw[bR ⟨g1,e1⟩];simp) (bI.cD (bI.bN (bI.ite (fun e3=>?_) (fun e3=>?_)))))
   ·simp only[aC,aB,Int.ofNat_eq_natCast] at e3
    have hi:i<(dc u t).bM.length:=e3.1
    simp (disch:=omega) only[wr,Int.ofNat_eq_natCast]
    refine bI.cP (fun v:List dR=>(v.length:Int)≤7 * t+2+i∧∀ w∈v,0≤w.c8∧w.c8<u.bK.length) (bI.bJ (bI.bW (dX ?_) (bI.cD ?_))) (fun v hv=>by refine bI.ret (sE.r ?_);exact ⟨⟨by dsimp only;omega,by dsimp only;omega,by dsimp only;omega,hv.2⟩,by dsimp only;omega⟩)
    ·show (o3.length+1) * 16≤_
     omega
    ·refine bI.ret (sE.r ?_)
     refine ⟨by rw[aE,List.length_singleton];omega,fun w hw=>?_⟩
     rcases aY.1 hw with hw | hw
     ·exact k4 w hw
     ·rw[aO.1 hw];exact ⟨g1,e1⟩
   ·refine bI.ret (sE.l (sE.l ?_))
    exact ⟨by show (o3.length:Int)≤_;omega,k4⟩
 ·refine bI.ret (sE.l (sE.l ?_))
  exact ⟨by show o.length≤_;omega,g4⟩
def aBs:List Bool→Nat
 | []=>0
 | b::r=>(if b then 0 else 1)+aBs r
theorem aHX:∀ {l:List Bool} {i:Nat},i<l.length→l.getD i default=false→aBs (l.set i true)+1=aBs l
 | b::r,0,_,h=>by
   simp at h;subst h;simp [aBs];omega
 | b::r,i+1,h1,h2=>by
   simp only[List.length_cons] at h1
   have:=aHX (l:=r) (i:=i) (by omega) (by simpa using h2)
   rw[List.set_cons_succ,aBs,aBs];omega
theorem aEl:∀ n,aBs (List.replicate n false)=n
 | 0=>rfl
 | n+1=>by rw[List.replicate_succ,aBs,aEl n];simp;omega
theorem aSt {K:Nat} {l:List (List Int)} {d:Int} (hK:100000000<K) (hl:l.length≤100) (hr:∀ r∈l,r.length≤100000∧∀ x∈r,-1≤x∧x<l.length) (hd:0≤d∧d<l.length):dA (F80 K l d) (fun v=>v.length=l.length):=by
 have tW:∀ {x:Int},0≤x→x<l.length→(l.getD x.toNat default).length≤100000∧∀ y∈l.getD x.toNat default,-1≤y∧y<l.length:=fun {x} h1 h2=>hr _ (dQ (d:=default) (by omega))
 refine dA.of ?_
 unfold F80
 have h0:=tW hd.1 hd.2
 refine bI.bW (by simp) (bI.bW (dX ?_) (bI.cD (bI.bW (bR hd) (bI.cD (bI.bW (dX ?_) (bI.cD ?_))))))
 ·simp only[Int.ofNat_eq_natCast,Int.toNat_natCast];omega
 ·omega
 refine bI.cP (fun v:List Bool=>v.length=l.length) (bI.bJ (bI.dK ?_)) (fun v hv=>by refine bI.ret (sE.l ?_);exact hv)
 refine bI.loop (fun t:List Bool × List Int × Int=>t.1.length=l.length∧0≤t.2.2∧t.2.2≤t.2.1.length∧t.2.1.length+100000 * aBs t.1≤20000000∧∀ y∈t.2.1,-1≤y∧y<l.length) (fun t=>(t.2.1.length+100000 * aBs t.1 - t.2.2).toNat) ⟨by simp,by simp,by simp,?_,h0.2⟩ ?_ ?_
 ·dsimp only
  simp only[Int.ofNat_eq_natCast,Int.toNat_natCast]
  rw[show (default:Bool)=false from rfl,aEl];omega
 ·dsimp only
  simp only[Int.ofNat_eq_natCast,Int.toNat_natCast]
  rw[show (default:Bool)=false from rfl,aEl];omega
 rintro ⟨seen,todo,i⟩ ⟨g1,g2,g3,g4,g5⟩
 dsimp only at g1 g2 g3 g4 g5 ⊢
 simp (disch:=omega) only[wr,Int.ofNat_eq_natCast]
 refine bI.bN (bI.ite (fun e1=>?_) (fun e1=>by refine bI.ret (sE.l (sE.l ?_));exact g1))
 simp only[aB] at e1
 have hy:=g5 _ (dQ (d:=default) (show i.toNat<todo.length by omega))
 generalize todo.getD i.toNat default=y at hy
 refine bI.cP (fun t:List Bool × List Int=>t.1.length=l.length∧todo.length≤t.2.length∧t.2.length+100000 * aBs t.1≤todo.length+100000 * aBs seen∧∀ y∈t.2,-1≤y∧y<l.length) (bI.bJ (bI.bW (bR ⟨g2,e1⟩) (bI.bW (by rw[bR ⟨g2,e1⟩];simp) (bI.bW ?_ (bI.cD (bI.bN (bI.ite (fun e2=>?_) (fun e2=>?_)))))))) ?_
 ·by_cases q:y<0
  ·rw[decide_eq_true q];rfl
  ·rw[bR (by omega)];simp
 ·refine bI.ret (sE.l (sE.l ?_))
  exact ⟨g1,aQ _,aQ _,g5⟩
 ·simp only[aM,not_or,aB,Bool.not_eq_true] at e2
  obtain ⟨e2,e3⟩:=e2
  have hy0:0≤y:=by omega
  have h2:=tW hy0 hy.2
  have hu:=aHX (l:=seen) (i:=y.toNat) (by omega) e3
  refine bI.bW (bR ⟨g2,e1⟩) (bI.bW (bR (by omega)) (bI.cD (bI.bW (bR ⟨g2,e1⟩) (bI.bW (bR (by omega)) (bI.cD (bI.bN (bI.bW (dX ?_) (bI.cD ?_))))))))
  ·omega
  ·refine bI.ret (sE.r ?_)
   refine ⟨by rw[List.length_set];exact g1,?_,?_,fun z hz=>?_⟩
   ·rw[aE];omega
   ·show (todo++_).length+100000 * aBs (seen.set y.toNat true)≤_
    rw[aE];omega
   ·rcases aY.1 hz with hz | hz
    ·exact g5 z hz
    ·exact h2.2 z hz
 ·rintro ⟨a,b⟩ ⟨q1,q2,q3,q4⟩
  dsimp only at q1 q2 q3 q4 ⊢
  refine bI.ret (sE.r ?_)
  exact ⟨⟨q1,by dsimp only;omega,by dsimp only;omega,by dsimp only;omega,q4⟩,by dsimp only;omega⟩
theorem aP2 {K:Nat} {u:cZ} {w:dR} (hK:101000000<K) (h:Sm u) (hw:Wf u):dA (aOO K u w) (fun v=>v.length≤80000):=by
 have hul:=hw.len
 refine dA.of ?_
 unfold aOO
 refine bI.call (aPX h) (fun r1 hr1=>?_)
 refine bI.call (aP0 (by omega) hr1) (fun r2 vI=>?_)
 refine bI.cP (fun v:List dR=>v.length≤80000) (bI.bJ (bI.dK ?_)) (fun v hv=>by refine bI.ret (sE.l ?_);exact hv)
 refine bI.loop (fun t:List dR × Int=>0≤t.2∧t.2≤r2.length∧(t.1.length:Int)≤12 * t.2) (fun t=>(r2.length - t.2).toNat) ⟨by simp,by simp,by simp⟩ (by dsimp only;omega) ?_
 rintro ⟨o,t⟩ ⟨g1,g2,g3⟩
 dsimp only at g1 g2 g3 ⊢
 simp (disch:=omega) only[wr,Int.ofNat_eq_natCast]
 refine bI.bN (bI.ite (fun e1=>?_) (fun e1=>by refine bI.ret (sE.l (sE.l ?_));show o.length≤80000;omega))
 simp only[aB] at e1
 generalize r2.getD t.toNat default=e
 refine bI.cP (fun v:List dR=>(v.length:Int)≤12 * t+12) (bI.bJ (bI.bW (bR ⟨g1,e1⟩) (bI.cD ?_))) (fun v hv=>by refine bI.ret (sE.r ?_);exact ⟨⟨by dsimp only;omega,by dsimp only;omega,by dsimp only;omega⟩,by dsimp only;omega⟩)
 refine bI.cX (by decide) (aHY (by omega) h) (fun r hr=>?_)
 refine bI.ite (fun e2=>by refine bI.ret (sE.l (sE.l ?_));show (o.length:Int)≤_;omega) (fun e2=>?_)
 have hr:=hr (by simpa using e2)
 refine bI.cP (fun v:List dR=>(v.length:Int)≤12 * t+12) (bI.bJ (bI.dK ?_)) (fun v hv=>by refine bI.ret (sE.r ?_);exact hv)
 refine bI.loop (fun s:List dR × Int=>0≤s.2∧s.2≤u.bK.length∧(s.1.length:Int)≤12 * t+s.2) (fun s=>(u.bK.length - s.2).toNat) ⟨by simp,by simp,by dsimp only;omega⟩ (by dsimp only;omega) ?_
 rintro ⟨p,i⟩ ⟨k1,k2,k3⟩
 dsimp only at k1 k2 k3 ⊢
 simp (disch:=omega) only[wr,Int.ofNat_eq_natCast]
 refine bI.bN (bI.ite (fun e3=>?_) (fun e3=>by refine bI.ret (sE.l (sE.l ?_));show (p.length:Int)≤_;omega))
 simp only[aB] at e3
 refine bI.cP (fun v:List dR=>(v.length:Int)≤12 * t+i+1) (bI.bJ (bI.bW (bR ⟨g1,e1⟩) (bI.cD (bI.bN (bI.bW (by rw[bR ⟨g1,e1⟩];simp) (bI.bW (by rw[bR ⟨k1,e3⟩];simp) (bI.bW (by rw[bR ⟨k1,e3⟩];simp) (bI.bW (by rw[bR hr];simp) (bI.cD ?_))))))))) (fun v hv=>by refine bI.ret (sE.r ?_);exact ⟨⟨by dsimp only;omega,by dsimp only;omega,by dsimp only;omega⟩,by dsimp only;omega⟩)
 refine bI.cG (fun _=>aHZ (by omega) h) (fun _ _=>bI.bN (bI.ite (fun e4=>by refine bI.ret (sE.l (sE.l ?_));show (p.length:Int)≤_;omega) (fun e4=>?_)))
 refine bI.bW (bR ⟨g1,e1⟩) (bI.cD ?_)
 refine bI.jV (wZ (by omega) (by assumption)) ?_
 refine bI.cG (fun e5=>aAP (aBr e5).1) (fun m _=>?_)
 refine bI.ite (fun e6=>?_) (fun e6=>by refine bI.ret (sE.r ?_);show (p.length:Int)≤_;omega)
 refine bI.call (aP1 (by omega) (by omega)) (fun v hv=>?_)
 refine bI.ret (sE.r ?_)
 show (v.length:Int)≤_
 omega
theorem aSu {K:Nat} {u:cZ} {l:List dR} (hK:101000000<K) (h:Sm u) (hw:Wf u) (hl:l.length≤100):dA (F79 K u l) (fun v=>v.length=l.length∧∀ r∈v,r.length≤100000∧∀ x∈r,-1≤x∧x<l.length):=by
 refine dA.of ?_
 unfold F79
 refine bI.cP (fun v:List (List Int)=>v.length=l.length∧∀ r∈v,r.length≤100000∧∀ x∈r,-1≤x∧x<l.length) (bI.bJ (bI.dK ?_)) (fun v hv=>by refine bI.ret (sE.l ?_);exact hv)
 refine bI.loop (fun t:List (List Int) × Int=>0≤t.2∧t.2≤l.length∧(t.1.length:Int)=t.2∧∀ r∈t.1,r.length≤100000∧∀ x∈r,-1≤x∧x<l.length) (fun t=>(l.length - t.2).toNat) ⟨by simp,by simp,by simp,fun r hr=>by cases hr⟩ (by dsimp only;omega) ?_
 rintro ⟨o,t⟩ ⟨g1,g2,g3,g4⟩
 dsimp only at g1 g2 g3 g4 ⊢
 simp (disch:=omega) only[wr,Int.ofNat_eq_natCast]
 refine bI.bN (bI.ite (fun e1=>?_) (fun e1=>?_))
 ·simp only[aB] at e1
  refine bI.cP (fun v:List (List Int)=>(v.length:Int)=t+1∧∀ r∈v,r.length≤100000∧∀ x∈r,-1≤x∧x<l.length) (bI.bJ (bI.bW (bR ⟨g1,e1⟩) (bI.cD ?_))) (fun v hv=>by refine bI.ret (sE.r ?_);exact ⟨⟨by dsimp only;omega,by dsimp only;omega,hv.1,hv.2⟩,by dsimp only;omega⟩)
  refine bI.call (aP2 hK h hw) (fun r hr=>?_)
  refine bI.cP (fun v:List Int=>v.length≤100000∧∀ x∈v,-1≤x∧x<l.length) (bI.bJ (bI.dK ?_)) (fun v hv=>?_)
  ·refine bI.loop (fun s:List Int × Int=>0≤s.2∧s.2≤r.length∧(s.1.length:Int)=s.2∧∀ x∈s.1,-1≤x∧x<l.length) (fun s=>(r.length - s.2).toNat) ⟨by simp,by simp,by simp,fun r hr=>by cases hr⟩ (by dsimp only;omega) ?_
   rintro ⟨p,i⟩ ⟨k1,k2,k3,k4⟩
   dsimp only at k1 k2 k3 k4 ⊢
   simp (disch:=omega) only[wr,Int.ofNat_eq_natCast]
   refine bI.bN (bI.ite (fun e3=>?_) (fun e3=>by refine bI.ret (sE.l (sE.l ?_));exact ⟨by show p.length≤_;omega,k4⟩))
   simp only[aB] at e3
   refine bI.cP (fun v:List Int=>(v.length:Int)=i+1∧∀ x∈v,-1≤x∧x<l.length) (bI.bJ (bI.bW (bR ⟨k1,e3⟩) (bI.cD ?_))) (fun v hv=>by refine bI.ret (sE.r ?_);exact ⟨⟨by dsimp only;omega,by dsimp only;omega,hv.1,hv.2⟩,by dsimp only;omega⟩)
   refine bI.call (aPW (by omega) (by omega)) (fun n hn=>?_)
   refine bI.bW (dX ?_) (bI.cD ?_)
   ·simp only[List.length_singleton];omega
   ·refine bI.ret (sE.r ?_)
    refine ⟨by rw[aE,List.length_singleton];omega,fun x hx=>?_⟩
    rcases aY.1 hx with hx | hx
    ·exact k4 x hx
    ·rw[aO.1 hx];exact hn
  ·refine bI.bW (dX ?_) (bI.cD ?_)
   ·simp only[List.length_singleton];omega
   ·refine bI.ret (sE.r ?_)
    refine ⟨by rw[aE,List.length_singleton];omega,fun x hx=>?_⟩
    rcases aY.1 hx with hx | hx
    ·exact g4 x hx
    ·rw[aO.1 hx];exact hv
 ·simp only[aB] at e1
  refine bI.ret (sE.l (sE.l ?_))
  exact ⟨by show o.length=_;omega,g4⟩
theorem aSv {K:Nat} {u:cZ} (hK:101000000<K) (h:Sm u) (hw:Wf u):dA (F35 K u) (fun v=>v<u.bK.length):=by
 refine dA.of ?_
 unfold F35
 refine bI.call (aSs (by omega) hw) (fun r1 hr1=>?_)
 refine bI.call (aSu hK h hw hr1.1) (fun r2 vI=>?_)
 refine bI.dS (bI.bJ (bI.dK ?_)) (fun _=>by refine bI.ret (sE.l ?_);omega)
 have hl:=hr1.1
 refine bI.l5 r1.length (by omega) (fun i hi=>?_) ?_
 ·simp (disch:=omega) only[wr,Int.ofNat_eq_natCast]
  refine bI.bN (bI.eR (by simp only[aB];omega) ?_)
  refine bI.dS (bI.bJ ?_) (fun _=>by refine bI.ret (sE.r ?_);rfl)
  have h2:=vI.1
  refine bI.call (aSt (by omega) (by omega) (by rw[h2];exact vI.2) (by omega)) (fun v hv=>?_)
  refine bI.bW (bR (by omega)) (bI.cD (bI.ite (fun e=>bI.bW (bR (by omega)) (bI.cD ?_)) (fun e=>by exact T0)))
  refine bI.ret (sE.l (sE.r (sE.r ?_)))
  rw[Int.toNat_natCast]
  exact (hr1.2 _ (dQ hi)).2
 ·simp (disch:=omega) only[wr,Int.ofNat_eq_natCast]
  refine bI.bN (bI.eQ (by simp only[aB];exact Int.lt_irrefl _) ?_)
  exact T0
end Go.Proofs.YtdbfbedholdjaaaGreat

namespace Go.Proofs.YtdbfbedholdjaaaGreat
open Go Go.Dl
variable [dW]
set_option maxRecDepth 100000
set_option maxHeartbeats 8000000
def Nm (u:cZ):Prop:=∀ d∈u.bK,d.bP=2→d.cC≠[]
theorem aVs {K:Nat} {s:Bytes} (hK:101000000<K):dA (F8 K s) (fun v=>v.2=[]→Sm v.1∧Wf v.1∧Nm v.1):=by
 refine dA.of ?_
 unfold F8
 refine bI.call (aSw (by omega)) (fun r1 hr1=>?_)
 refine bI.ite (fun e=>?_) (fun e=>?_)
 ·refine bI.ret (sE.l ?_)
  intro q;cases q
 have hr:=hr1 (by simpa using e)
 have h:Sm r1.1:=⟨hr.1⟩
 refine bI.call (aSr hK h) (fun r2 vI=>?_)
 refine bI.cP (fun v:List nV=>(v=[]→Wf r1.1)∧v.length≤6004∧∀ w∈v,0≤w.zK∧w.zK<r1.1.bK.length) ?_ (fun v hv=>?_)
 ·refine bI.ite (fun e2=>?_) (fun e2=>by refine bI.ret (sE.r ?_);exact vI)
  have hn:r2=[]:=by
   simp only[beq_iff_eq,Int.ofNat_eq_natCast] at e2
   exact List.length_eq_zero_iff.1 (by omega)
  refine bI.call (aSv hK h (vI.1 hn)) (fun r5 h5=>?_)
  refine bI.ite (fun e3=>?_) (fun e3=>by refine bI.ret (sE.r ?_);exact vI)
  simp only[aB] at e3
  refine bI.ret (sE.r ?_)
  refine ⟨fun q=>(by cases q),(by simp),fun w hw=>?_⟩
  rw[aO.1 hw];exact ⟨e3,h5⟩
 refine bI.ite (fun e2=>?_) (fun e2=>?_)
 ·have hn:v=[]:=by
   simp only[beq_iff_eq,Int.ofNat_eq_natCast] at e2
   exact List.length_eq_zero_iff.1 (by omega)
  refine bI.ret (sE.l ?_)
  exact fun _=>⟨h,hv.1 hn,hr.2.2⟩
 have h6:=hv.2.1
 have hne:v.length≠0:=by
  simp only[beq_iff_eq,Int.ofNat_eq_natCast] at e2;omega
 refine bI.cP (fun o:List nV=>o.length=v.length) (bI.bJ (bI.dK ?_)) (fun o ho=>?_)
 ·refine bI.loop (fun t:List nV × Int=>0≤t.2∧t.2≤v.length∧(t.1.length:Int)=t.2) (fun t=>(v.length - t.2).toNat) ⟨by simp,by simp,by simp⟩ (by dsimp only;omega) ?_
  rintro ⟨o,t⟩ ⟨g1,g2,g3⟩
  dsimp only at g1 g2 g3 ⊢
  simp (disch:=omega) only[wr,Int.ofNat_eq_natCast]
  refine bI.bN (bI.ite (fun e1=>?_) (fun e1=>?_))
  ·simp only[aB] at e1
   have hw:=hv.2.2 _ (dQ (d:=default) (show t.toNat<v.length by omega))
   refine bI.cP (fun o:List nV=>(o.length:Int)=t+1) (bI.bJ (bI.bW (bR ⟨g1,e1⟩) (bI.bW (bR ⟨g1,e1⟩) (bI.cD (bI.bW (bR (by rw[hr.2.1];exact hw)) (bI.cD (bI.bW (dX ?_) (bI.cD ?_)))))))) (fun o ho=>by refine bI.ret (sE.r ?_);exact ⟨⟨by dsimp only;omega,by dsimp only;omega,ho⟩,by dsimp only;omega⟩)
   ·simp only[List.length_singleton];omega
   ·refine bI.ret (sE.r ?_)
    rw[aE,List.length_singleton];omega
  ·simp only[aB] at e1
   refine bI.ret (sE.l (sE.l ?_))
   show o.length=v.length
   omega
 ·refine bI.ret (sE.l ?_)
  intro q
  have q:o=[]:=q
  rw[q] at ho
  exact absurd ho.symm hne
end Go.Proofs.YtdbfbedholdjaaaGreat

namespace Go.Proofs.YtdbfbedholdjaaaGreat
open Go Go.Dl
variable [dW]
set_option maxRecDepth 100000
set_option maxHeartbeats 8000000
theorem bI.upI {A:Type} {K:Nat} {f:Int→Option (A ⊕ Int)} {p:A→Prop} (n:Nat) (P:Nat→Prop) (hK:n<K) (hs:∀ i:Nat,i<n→(∀ j,j<i→P j)→bI (f i) (sE p (fun t=>t=(i:Int)+1∧P i))) (he:(∀ i,i<n→P i)→bI (f n) (sE p (fun _=>False))):bI (iter K f 0) p:=by
 refine bI.loop (fun t=>∃ i:Nat,t=i∧i≤n∧∀ j,j<i→P j) (fun t=>n - t.toNat) ⟨0,rfl,by omega,by simp⟩ (by simpa using hK) ?_
 rintro t ⟨i,rfl,hi,hP⟩
 by_cases h:i=n
 ·subst h
  refine (he hP).aAK ?_
  rintro (a | t) h
  ·exact h
  ·exact h.elim
 ·refine (hs i (by omega) hP).aAK ?_
  rintro (a | t) h
  ·exact h
  ·obtain ⟨h1,h2⟩:=h
   subst h1
   refine ⟨⟨i+1,by omega,by omega,fun j hj=>?_⟩,?_⟩
   ·by_cases h:j=i
    ·subst h;exact h2
    ·exact hP j (by omega)
   ·omega
theorem aSx {K:Nat} {d:jG} {s:Bytes}:dA (F92 K d s) (fun v=>v=(d.cC == s)):=⟨_,rfl,rfl⟩
theorem aP3 {K:Nat} {d:hU} {s:Bytes}:dA (aRJ K d s) (fun v=>v=(d.cC == s)):=⟨_,rfl,rfl⟩
theorem aJH {K:Nat} {l:List jG} {s:Bytes} (hK:100000<K) (hl:l.length≤6004):dA (aD0 K l s) (fun v=>v=ix (fun d:jG=>d.cC == s) l):=by
 refine dA.of ?_
 unfold aD0
 refine bI.cP (fun _=>ix (fun d:jG=>d.cC == s) l = -1) (bI.bJ (bI.dK ?_)) (fun _ h=>by refine bI.ret (sE.l ?_);exact h.symm)
 refine bI.upI l.length (fun i=>((l.getD i default).cC == s)=false) (by omega) (fun i hi hb=>?_) (fun hb=>?_)
 ·simp (disch:=omega) only[wr,Int.ofNat_eq_natCast]
  refine bI.bN (bI.eR (by simp only[aB];omega) ?_)
  rw[Int.toNat_natCast]
  refine bI.cP (fun _=>((l.getD i default).cC == s)=false) (bI.bJ (bI.bW (bR (by omega)) (bI.cD (bI.call aSx ?_)))) (fun _ h=>by refine bI.ret (sE.r ?_);exact ⟨rfl,h⟩)
  rintro _ rfl
  refine bI.ite (fun e=>?_) (fun e=>by refine bI.ret (sE.r ?_);simpa using e)
  refine bI.ret (sE.l (sE.r (sE.r ?_)))
  exact (aH0 (z:=default) hi hb e).symm
 ·simp (disch:=omega) only[wr,Int.ofNat_eq_natCast]
  refine bI.bN (bI.eQ (by simp only[aB];exact Int.lt_irrefl _) ?_)
  refine bI.ret (sE.l (sE.l ?_))
  exact aH1 (z:=default) hb
theorem aCN {K:Nat} {u:cZ} {s:Bytes} (hK:100000<K) (h:Sm u):dA (F42 K u s) (fun v=>v=fnd u s):=by
 refine dA.of ?_
 unfold F42
 refine bI.call (aJH hK h.len) ?_
 rintro _ rfl
 refine bI.ret (sE.l ?_)
 rfl
theorem aSy {K:Nat} {l:List Int} {x:Int} (hK:100000<K) (hl:l.length≤20000):dA (F93 K l x) (fun v=>decide (v ≥ 0)=l.contains x):=by
 refine dA.of ?_
 unfold F93
 refine bI.cP (fun _=>l.contains x=false) (bI.bJ (bI.dK ?_)) (fun _ h=>by refine bI.ret (sE.l ?_);rw[h];decide)
 refine bI.upI l.length (fun i=>l.getD i default≠x) (by omega) (fun i hi hb=>?_) (fun hb=>?_)
 ·simp (disch:=omega) only[wr,Int.ofNat_eq_natCast]
  refine bI.bN (bI.eR (by simp only[aB];omega) ?_)
  rw[Int.toNat_natCast]
  refine bI.cP (fun _=>l.getD i default≠x) (bI.bJ (bI.bW (bR (by omega)) (bI.cD (bI.bN (bI.ite (fun e=>?_) (fun e=>?_)))))) (fun _ h=>by refine bI.ret (sE.r ?_);exact ⟨rfl,h⟩)
  ·refine bI.ret (sE.l (sE.r (sE.r ?_)))
   rw[List.contains_iff_mem.2 (beq_iff_eq.1 e ▸ dQ hi)]
   exact decide_eq_true (by omega)
  ·refine bI.ret (sE.r ?_)
   exact fun q=>e (beq_iff_eq.2 q.symm)
 ·simp (disch:=omega) only[wr,Int.ofNat_eq_natCast]
  refine bI.bN (bI.eQ (by simp only[aB];exact Int.lt_irrefl _) ?_)
  refine bI.ret (sE.l (sE.l ?_))
  rw[← Bool.not_eq_true]
  intro hc
  obtain ⟨i,hi,rfl⟩:=List.getElem_of_mem (List.contains_iff_mem.1 hc)
  refine hb i hi ?_
  rw[List.getD,aD hi];rfl
theorem aLf {K:Nat} {l:List Int} {x:Int} (hK:100000<K) (hl:l.length≤20000):dA (F46 K l x) (fun v=>v=l.contains x):=by
 refine dA.of ?_
 unfold F46
 refine bI.call (aSy hK hl) (fun v hv=>?_)
 refine bI.ret (sE.l ?_)
 exact hv
theorem aCO {K:Nat} {u:cZ} {d:Int}:dA (F45 K u d) (fun v=>v=kd u d):=by
 refine dA.of ?_
 unfold F45 kd
 refine bI.bN (bI.ite (fun e=>?_) (fun e=>?_))
 ·simp only[aM,aB,Int.ofNat_eq_natCast] at e
  refine bI.ret (sE.l ?_)
  rw[aH e]
 ·simp only[aM,aB,Int.ofNat_eq_natCast] at e
  refine bI.bW (bR (by omega)) ?_
  refine bI.cD (bI.bN (bI.ret (sE.l ?_)))
  rw[aG e]
theorem xK {K:Nat} {u:cZ} {d:Int} (hK:100000<K) (h:Sm u):dA (F10 K u d) (fun v=>v=chain u d):=by
 have hl:=h.len
 refine dA.of ?_
 unfold F10
 refine bI.cP (fun v=>v=chain u d) (bI.bJ (bI.dK ?_)) (fun v hv=>by refine bI.ret (sE.l ?_);exact hv)
 refine bI.loop (fun t:Int × List Int=>t.2.length+unv u.bK.length t.2=u.bK.length∧∃ n,unv u.bK.length t.2<n∧chF u n t.2 t.1=chain u d) (fun t=>unv u.bK.length t.2) ⟨by rw[p8];simp,u.bK.length+1,by rw[p8];simp,rfl⟩ (by show unv _ []<K;rw[p8];omega) ?_
 rintro ⟨e,out⟩ ⟨h1,n,h2,h3⟩
 dsimp only at h1 h2 h3 ⊢
 obtain ⟨n,rfl⟩:∃ m,n=m+1:=⟨n - 1,by omega⟩
 rw[chF] at h3
 refine bI.call aCO ?_
 rintro _ rfl
 refine bI.cG (fun _=>aLf (by omega) (by omega)) (fun v hv=>?_)
 refine bI.ite (fun c=>?_) (fun c=>?_)
 ·simp only[aC,beq_iff_eq,aP] at c
  have hv':=hv (by simp [c.1])
  have hc:out.contains e=false:=by rw[← hv'];exact c.2
  rw[aH ⟨c.1,hc⟩] at h3
  have hd:=gT c.1 (by decide)
  have hu:=w6 u.bK.length out e hd.1 hd.2 hc
  refine bI.bL (bI.bJ ?_)
  refine bI.bW (dX ?_) (bI.cD (bI.bW (bR hd) (bI.cD (bI.bN ?_))))
  ·simp only[List.length_singleton];omega
  refine bI.cX (by decide) (aCN (by omega) h) ?_
  rintro _ rfl
  refine bI.ret (sE.r (bI.ret (sE.r ?_)))
  exact ⟨⟨by simp;omega,n,by dsimp only;omega,h3⟩,by dsimp only;omega⟩
 ·have hc:¬ (kd u e=2∧out.contains e=false):=fun ⟨c1,c2⟩=>by
   have hv':=hv (by simp [c1])
   rw[c2] at hv'
   exact c (by simp [c1,hv'])
  rw[aG hc] at h3
  refine bI.ret (sE.l (sE.l ?_))
  exact h3
theorem aGk {K:Nat} {d:jG} {s:Bytes} (hK:100000<K) (hl:d.bM.length≤6004):dA (wK K d.bM s) (fun v=>v=own d s):=by
 refine dA.of ?_
 unfold wK
 refine bI.cP (fun _=>own d s = -1) (bI.bJ (bI.dK ?_)) (fun _ h=>by refine bI.ret (sE.l ?_);exact h.symm)
 refine bI.upI d.bM.length (fun i=>((d.bM.getD i default).cC == s)=false) (by omega) (fun i hi hb=>?_) (fun hb=>?_)
 ·simp (disch:=omega) only[wr,Int.ofNat_eq_natCast]
  refine bI.bN (bI.eR (by simp only[aB];omega) ?_)
  rw[Int.toNat_natCast]
  refine bI.cP (fun _=>((d.bM.getD i default).cC == s)=false) (bI.bJ (bI.bW (bR (by omega)) (bI.cD (bI.call aP3 ?_)))) (fun _ h=>by refine bI.ret (sE.r ?_);exact ⟨rfl,h⟩)
  rintro _ rfl
  refine bI.ite (fun e=>?_) (fun e=>by refine bI.ret (sE.r ?_);simpa using e)
  refine bI.ret (sE.l (sE.r (sE.r ?_)))
  exact (aH0 (z:=default) hi hb e).symm
 ·simp (disch:=omega) only[wr,Int.ofNat_eq_natCast]
  refine bI.bN (bI.eQ (by simp only[aB];exact Int.lt_irrefl _) ?_)
  refine bI.ret (sE.l (sE.l ?_))
  exact aH1 (z:=default) hb
theorem aLh {K:Nat} {u:cZ} {d:Int} {s:Bytes} (hK:100000<K) (h:Sm u):dA (F87 K u d s) (fun v=>v=u7 u d s):=by
 have hl:=h.len
 refine dA.of ?_
 unfold F87
 refine bI.jV (xK (by omega) (by assumption)) ?_
 refine bI.jV (aCO) ?_
 refine bI.cP (fun l=>l=line u d) ?_ ?_
 ·unfold line
  refine bI.ite (fun e=>?_) (fun e=>?_)
  ·refine bI.ret (sE.r ?_)
   rw[aH (by simpa using e)]
  ·refine bI.ret (sE.r ?_)
   rw[aG (by simpa using e)]
 rintro _ rfl
 have h2:=aH3 h d
 refine bI.cP (fun _=>u7 u d s=(⟨0,0⟩,false)) (bI.bJ (bI.dK ?_)) (fun _ h=>by refine bI.ret (sE.l ?_);exact h.symm)
 refine bI.loop (fun t:Int=>0≤t∧t≤(line u d).length∧vH u s ((line u d).drop t.toNat)=u7 u d s) (fun t=>((line u d).length - t).toNat) ⟨by simp,by simp,rfl⟩ (by simp;omega) (fun t ⟨g1,g2,g3⟩=>?_)
 obtain ⟨n,rfl⟩:=aJ g1
 rw[Int.toNat_natCast] at g3
 simp (disch:=omega) only[wr,Int.ofNat_eq_natCast]
 refine bI.bN (bI.ite (fun e=>?_) (fun e=>?_))
 ·simp only[aB] at e
  have hn:n<(line u d).length:=by omega
  rw[qH default hn,vH] at g3
  have hx:=aGl (dQ (d:=default) hn)
  refine bI.bL (bI.bJ ?_)
  rw[Int.toNat_natCast]
  refine bI.bW (bR (by omega)) (bI.cD (bI.bW (bR hx) (bI.cD (bI.bN ?_))))
  refine bI.call (aGk (d:=dc u ((line u d).getD n default)) (by omega) (h.aB6 _)) ?_
  rintro _ rfl
  refine bI.ite (fun c=>?_) (fun c=>?_)
  ·simp only[aB,ge_iff_le] at c
   rw[aH c] at g3
   refine bI.ret (sE.l (sE.r (sE.r ?_)))
   exact g3
  ·simp only[aB,ge_iff_le] at c
   rw[aG c] at g3
   refine bI.ret (sE.r (bI.ret (sE.r ?_)))
   exact ⟨⟨by omega,by omega,by rw[show ((n:Int)+1).toNat=n+1 by omega];exact g3⟩,by omega⟩
 ·simp only[aB] at e
  rw[List.drop_eq_nil_of_le (by omega),vH] at g3
  refine bI.ret (sE.l (sE.l ?_))
  exact g3.symm
theorem aCP {K:Nat} {u:cZ} {d k:Int} (hk:k≠0):dA (F50 K u d k) (fun v=>v=(kd u d == k)):=by
 refine dA.of ?_
 unfold F50
 by_cases hd:0≤d∧d<u.bK.length
 ·refine bI.bW (by rw[bR hd];simp) (bI.cD (bI.bN ?_))
  refine bI.ret (sE.l ?_)
  unfold kd
  rw[aG (by omega)]
  simp [hd.1,hd.2]
 ·have e:(decide (d ≥ 0) && decide (d<Int.ofNat u.bK.length))=false:=by
   rw[Bool.and_eq_false_iff]
   simp only[decide_eq_false_iff_not,Int.ofNat_eq_natCast]
   omega
  rw[e]
  refine bI.bW rfl (bI.cD (bI.bN ?_))
  refine bI.ret (sE.l ?_)
  unfold kd
  rw[aH (by omega)]
  simp;omega
def num (u:cZ) (d k:Int):Int:=if kd u d=k then ((u.bK.take d.toNat).countP fun x=>x.bP == k:Nat) else -1
theorem aLi {K:Nat} {u:cZ} {d k:Int} (hK:100000<K) (hk:k≠0) (h:Sm u):dA (F47 K u d k) (fun v=>v=num u d k):=by
 have hl:=h.len
 refine dA.of ?_
 unfold F47 num
 refine bI.call (aCP hk) ?_
 rintro _ rfl
 refine bI.ite (fun e=>?_) (fun e=>?_)
 ·simp only[aP,beq_eq_false_iff_ne] at e
  refine bI.ret (sE.l ?_)
  rw[aG e]
 ·simp only[aP,Bool.not_eq_false,beq_iff_eq] at e
  have hd:=gT e hk
  rw[aH e]
  have e0:(u.bK.drop (0:Int).toNat).take (d.toNat - (0:Int).toNat)=u.bK.take d.toNat:=by simp
  refine bI.bW ?_ (bI.cD (bI.bN ?_))
  ·simp only[cW,aC,aB];omega
  rw[e0]
  have hlen:(u.bK.take d.toNat).length≤6004:=by rw[aU];omega
  generalize u.bK.take d.toNat=l at hlen
  refine bI.cP (fun v:Int=>v=(l.countP fun x=>x.bP == k:Nat)) (bI.bJ (bI.dK ?_)) (fun v hv=>by refine bI.ret (sE.l ?_);exact hv)
  refine bI.loop (fun t:Int × Int=>0≤t.2∧t.2≤l.length∧t.1=((l.take t.2.toNat).countP fun x=>x.bP == k:Nat)) (fun t=>(l.length - t.2).toNat) ⟨by simp,by simp,by simp⟩ (by dsimp only;omega) ?_
  rintro ⟨c,t⟩ ⟨g1,g2,g3⟩
  dsimp only at g1 g2 g3 ⊢
  obtain ⟨n,rfl⟩:=aJ g1
  rw[Int.toNat_natCast] at g3
  have hc:(l.take n).countP (fun x=>x.bP == k)≤l.length:=aV List.countP_le_length (by rw[aU];omega)
  simp (disch:=omega) only[wr,Int.ofNat_eq_natCast]
  refine bI.bN (bI.ite (fun e=>?_) (fun e=>?_))
  ·simp only[aB] at e
   have tW:(l.take (n+1)).countP (fun x=>x.bP == k)=(l.take n).countP (fun x=>x.bP == k)+(if ((l.getD n default).bP == k)=true then 1 else 0):=by
    rw[iO default (by omega),List.countP_append,List.countP_singleton]
   rw[Int.toNat_natCast]
   refine bI.cP (fun v:Int=>v=((l.take (n+1)).countP fun x=>x.bP == k:Nat)) (bI.bJ (bI.bW (bR (by omega)) (bI.cD (bI.bN (bI.ite (fun e2=>?_) (fun e2=>?_)))))) (fun v hv=>by refine bI.ret (sE.r ?_);exact ⟨⟨by dsimp only;omega,by dsimp only;omega,by dsimp only;rw[show ((n:Int)+1).toNat=n+1 by omega];exact hv⟩,by dsimp only;omega⟩)
   ·rw[aH e2] at tW
    refine bI.ret (sE.r ?_)
    rw[tW];omega
   ·rw[aG e2] at tW
    refine bI.ret (sE.r ?_)
    rw[tW];omega
  ·simp only[aB] at e
   refine bI.ret (sE.l (sE.l ?_))
   rw[List.take_of_length_le (by omega)] at g3
   exact g3
theorem aAQ {K:Nat} {u:cZ} {d:Int} (hK:100000<K) (h:Sm u):dA (F11 K u d) (fun v=>v=num u d 2):=by
 refine dA.of ?_
 unfold F11
 refine bI.call (aLi hK (by decide) h) ?_
 rintro _ rfl
 refine bI.ret (sE.l ?_)
 rfl
theorem aSz {K:Nat} {u:cZ} {d:Int} (hK:100000<K) (h:Sm u):dA (F22 K u d) (fun v=>v=num u d 1):=by
 refine dA.of ?_
 unfold F22
 refine bI.call (aLi hK (by decide) h) ?_
 rintro _ rfl
 refine bI.ret (sE.l ?_)
 rfl
end Go.Proofs.YtdbfbedholdjaaaGreat
