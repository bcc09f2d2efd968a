/- No conditions. -/
import Derived.Test.YtdbfbedholdjaaaGreatGUD
import Derived.Test.YtdbfbedholdjaaaGreatGLG
import Derived.Test.YtdbfbedholdjaaaGreatGUB
import Derived.Test.YtdbfbedholdjaaaGreatGLs
import Derived.Test.YtdbfbedholdjaaaGreatGLr
set_option linter.unusedVariables false
set_option linter.unusedSimpArgs false
set_option linter.unusedSectionVars false
namespace Go.Proofs.YtdbfbedholdjaaaGreat
open Go Go.Dl
variable [dK]
set_option maxRecDepth 100000
set_option maxHeartbeats 8000000
theorem aPX {K:Nat} {a b:dR}:cR (aNU K a b) (fun _=>True):=by
 refine cR.of ?_
 unfold aNU
 exact T0
theorem aPY {K:Nat} {l:List dR} {w:dR} (hK:1000000<K) (hl:l.length≤100000):cR (aNV K l w) (fun v=>-1≤v∧v<l.length):=by
 refine cR.of ?_
 unfold aNV
 refine bL.dI (bL.bN (bL.c7 ?_)) (fun _=>by refine bL.ret (sE.l ?_);exact ⟨by omega,by omega⟩)
 refine bL.kS l.length (by omega) (fun i hi=>?_) ?_
 ·simp (disch:=omega) only[wr,Int.ofNat_eq_natCast]
  refine bL.bO (bL.dV (by simp only[aB];omega) ?_)
  refine bL.dI (bL.bN (bL.bW (bT (by omega)) (bL.bX ?_))) (fun _=>by refine bL.ret (sE.r ?_);rfl)
  refine bL.bO (bL.ite (fun _=>bL.ret (sE.l (sE.r (sE.r ?_)))) (fun _=>bL.ret (sE.r ?_)))
  ·exact ⟨by omega,by omega⟩
  ·trivial
 ·simp (disch:=omega) only[wr,Int.ofNat_eq_natCast]
  refine bL.bO (bL.dN (by simp only[aB];exact Int.lt_irrefl _) ?_)
  exact T0
theorem aPZ {K:Nat} {u:cM} {w:dR} (h:Sm u):cR (aNW K u w) (fun v=>cG.hG v≤6004):=by
 refine cR.of ?_
 unfold aNW
 refine bL.call yS (fun v hv=>?_)
 refine bL.ite (fun e=>?_) (fun e=>?_)
 ·refine bL.ret (sE.l ?_);simp [cG.hG]
 have hp:=hv (by simpa using e)
 refine bL.ite (fun e2=>?_) (fun e2=>?_)
 ·refine bL.bW (bT hp.in) (bL.bX (bL.bO ?_))
  refine bL.ret (sE.l ?_)
  exact h.body _
 ·simp only[aB] at e2
  have hw:Vw u w:=by
   rcases hp with hp | hp
   ·exact hp.2
   ·omega
  refine bL.bW (bT hp.in) (bL.bW (bT hw.2) (bL.bX (bL.bO ?_)))
  refine bL.ret (sE.l ?_)
  exact (iT.bounds (h.m w.c6 w.dJ.toNat)).2.2
theorem aP0 {l:List cI} {n:Nat} (h:n<l.length):cI.hG (l.take (n+1))=cI.hG (l.take n)+(l.getD n default).sz:=by
 rw[eP default h,mO];simp [cI.hG]
theorem aFF (l:List cI) (n:Nat):cI.hG (l.take n)≤cI.hG l:=by
 have:=mO (l.take n) (l.drop n)
 rw[List.take_append_drop] at this;omega
theorem aEg:∀ (K:Nat) (o:List cI) (e:cI),e.sz≤7000→o.length≤10000000→e.sz+10000<K→o.length+e.sz≤10000000→cR (xV K o e) (fun v=>v.length≤o.length+e.sz)
 | 0,_,_,_,_,h,_=>by omega
 | K+1,o,e,h1,h2,h3,h4=>by
   have hs:=e.szq
   have hl:=mN e.fM
   refine cR.of ?_
   rw[xV]
   refine bL.bZ (fun v:List cI=>v.length≤o.length+1) ?_ (fun v hv=>?_)
   ·refine bL.ite (fun e1=>bL.bW (cP ?_) (bL.bX ?_)) (fun e1=>?_)
    ·show (o.length+1) * 72≤_
     omega
    ·refine bL.ret (sE.r ?_)
     rw[aD];simp
    ·refine bL.ret (sE.r ?_)
     omega
   refine bL.bZ (fun v:List cI=>v.length≤o.length+e.sz) (bL.bN (bL.c7 ?_)) (fun v hv=>by refine bL.ret (sE.l ?_);exact hv)
   refine bL.loop (fun t:List cI × Int=>0≤t.2∧t.2≤e.fM.length∧t.1.length≤o.length+1+cI.hG (e.fM.take t.2.toNat)) (fun t=>(e.fM.length - t.2).toNat) ⟨by simp,by simp,by dsimp only;omega⟩ (by dsimp only;omega) ?_
   rintro ⟨p,t⟩ ⟨g1,g2,g3⟩
   dsimp only at g1 g2 g3 ⊢
   obtain ⟨n,rfl⟩:=aK g1
   rw[Int.toNat_natCast] at g3
   simp (disch:=omega) only[wr,Int.ofNat_eq_natCast]
   refine bL.bO (bL.ite (fun e1=>?_) (fun e1=>?_))
   ·simp only[aB] at e1
    have hn:n<e.fM.length:=by omega
    have hm:=nT (c9 (d:=default) hn)
    have kU:=aP0 hn
    have hle:=aFF e.fM (n+1)
    rw[Int.toNat_natCast]
    refine bL.bZ (fun v:List cI=>v.length≤o.length+1+cI.hG (e.fM.take (n+1))) (bL.bN (bL.bW (bT (by omega)) (bL.bX ?_))) (fun v hv=>?_)
    ·refine bL.call (aEg K p _ (by omega) (by omega) (by omega) (by omega)) (fun v hv=>?_)
     refine bL.ret (sE.r ?_)
     omega
    ·refine bL.ret (sE.r ?_)
     exact ⟨⟨by dsimp only;omega,by dsimp only;omega,by dsimp only;rw[show ((n:Int)+1).toNat=n+1 by omega];exact hv⟩,by dsimp only;omega⟩
   ·have hle:=aFF e.fM n
    refine bL.ret (sE.l (sE.l ?_))
    show p.length≤_
    omega
theorem a0R {l:List cG} {n:Nat} (h:n<l.length):cG.hG (l.take (n+1))=cG.hG (l.take n)+(l.getD n default).sz:=by
 rw[eP default h,tS];simp [cG.hG]
theorem aUd (l:List cG) (n:Nat):cG.hG (l.take n)≤cG.hG l:=by
 have:=tS (l.take n) (l.drop n)
 rw[List.take_append_drop] at this;omega
theorem aWP {l:List (List cG)} {n:Nat} (h:n<l.length):cG.j9 (l.take (n+1))=cG.j9 (l.take n)+1+cG.hG (l.getD n default):=by
 rw[eP default h,pK];simp [cG.j9];omega
theorem aP1 (l:List (List cG)) (n:Nat):cG.j9 (l.take n)≤cG.j9 l:=by
 have:=pK (l.take n) (l.drop n)
 rw[List.take_append_drop] at this;omega
theorem aEh:∀ (K:Nat) (o:List cI) (l:List cG),cG.hG l≤6004→cG.hG l+20000<K→o.length+cG.hG l≤1000000→cR (u7 K o l) (fun v=>v.length≤o.length+cG.hG l)
 | 0,_,_,_,h,_=>by omega
 | K+1,o,l,h1,h2,h3=>by
   have hl:=aIZ l
   refine cR.of ?_
   rw[u7]
   refine bL.bZ (fun v:List cI=>v.length≤o.length+cG.hG l) (bL.bN (bL.c7 ?_)) (fun v hv=>by refine bL.ret (sE.l ?_);exact hv)
   refine bL.loop (fun t:List cI × Int=>0≤t.2∧t.2≤l.length∧t.1.length≤o.length+cG.hG (l.take t.2.toNat)) (fun t=>(l.length - t.2).toNat) ⟨by simp,by simp,by dsimp only;omega⟩ (by dsimp only;omega) ?_
   rintro ⟨p,t⟩ ⟨g1,g2,g3⟩
   dsimp only at g1 g2 g3 ⊢
   obtain ⟨n,rfl⟩:=aK g1
   rw[Int.toNat_natCast] at g3
   simp (disch:=omega) only[wr,Int.ofNat_eq_natCast]
   refine bL.bO (bL.ite (fun e1=>?_) (fun e1=>?_))
   ·simp only[aB] at e1
    have hn:n<l.length:=by omega
    have hm:=aIY (c9 (d:=default) hn)
    have kU:=a0R hn
    have hle:=aUd l (n+1)
    simp only[Int.toNat_natCast]
    have hsz:=(l.getD n default).szq
    have hxl:=mN (l.getD n default).cT
    have hbl:=aBu (l.getD n default).bY
    refine bL.bZ (fun v:List cI=>v.length≤o.length+cG.hG (l.take (n+1))) (bL.bN ?_) (fun v hv=>?_)
    ·refine bL.bZ (fun v:List cI=>v.length≤p.length+cI.hG (l.getD n default).cT) (bL.bN (bL.c7 ?_)) (fun q hq=>?_)
     ·refine bL.loop (fun t:List cI × Int=>0≤t.2∧t.2≤(l.getD n default).cT.length∧t.1.length≤p.length+cI.hG ((l.getD n default).cT.take t.2.toNat)) (fun t=>((l.getD n default).cT.length - t.2).toNat) ⟨by simp,by simp,by dsimp only;omega⟩ (by dsimp only;omega) ?_
      rintro ⟨p2,t2⟩ ⟨k1,k2,k3⟩
      dsimp only at k1 k2 k3 ⊢
      obtain ⟨m,rfl⟩:=aK k1
      rw[Int.toNat_natCast] at k3
      refine bL.bW (bT (by omega)) (bL.bX ?_)
      simp (disch:=omega) only[wr,Int.ofNat_eq_natCast]
      refine bL.bO (bL.ite (fun e2=>?_) (fun e2=>?_))
      ·simp only[aB] at e2
       have hm2:m<(l.getD n default).cT.length:=by omega
       have hx:=nT (c9 (d:=default) hm2)
       have hxa:=aP0 hm2
       have hxe:=aFF (l.getD n default).cT (m+1)
       refine bL.bZ (fun v:List cI=>v.length≤p.length+cI.hG ((l.getD n default).cT.take (m+1))) (bL.bN (bL.bW (bT (by omega)) (bL.bX (bL.bO (bL.bW (bT (by omega)) (bL.bX ?_)))))) (fun v hv=>?_)
       ·rw[Int.toNat_natCast]
        refine bL.call (aEg K p2 _ (by omega) (by omega) (by omega) (by omega)) (fun v hv=>?_)
        refine bL.ret (sE.r ?_)
        omega
       ·refine bL.ret (sE.r ?_)
        exact ⟨⟨by dsimp only;omega,by dsimp only;omega,by dsimp only;rw[show ((m:Int)+1).toNat=m+1 by omega];exact hv⟩,by dsimp only;omega⟩
      ·have hxe:=aFF (l.getD n default).cT m
       refine bL.ret (sE.l (sE.l ?_))
       show p2.length≤_
       omega
     ·refine bL.bZ (fun v:List cI=>v.length≤p.length+cI.hG (l.getD n default).cT+cG.j9 (l.getD n default).bY) (bL.bN (bL.c7 ?_)) (fun v hv=>by refine bL.ret (sE.r ?_);omega)
      refine bL.loop (fun t:List cI × Int=>0≤t.2∧t.2≤(l.getD n default).bY.length∧t.1.length≤p.length+cI.hG (l.getD n default).cT+cG.j9 ((l.getD n default).bY.take t.2.toNat)) (fun t=>((l.getD n default).bY.length - t.2).toNat) ⟨by simp,by simp,by dsimp only;omega⟩ (by dsimp only;omega) ?_
      rintro ⟨p2,t2⟩ ⟨k1,k2,k3⟩
      dsimp only at k1 k2 k3 ⊢
      obtain ⟨m,rfl⟩:=aK k1
      rw[Int.toNat_natCast] at k3
      refine bL.bW (bT (by omega)) (bL.bX ?_)
      simp (disch:=omega) only[wr,Int.ofNat_eq_natCast]
      refine bL.bO (bL.ite (fun e2=>?_) (fun e2=>?_))
      ·simp only[aB] at e2
       have hm2:m<(l.getD n default).bY.length:=by omega
       have hx:=yR (c9 (d:=default) hm2)
       have hxa:=aWP hm2
       have hxe:=aP1 (l.getD n default).bY (m+1)
       refine bL.bZ (fun v:List cI=>v.length≤p.length+cI.hG (l.getD n default).cT+cG.j9 ((l.getD n default).bY.take (m+1))) (bL.bN (bL.bW (bT (by omega)) (bL.bX (bL.bO (bL.bW (bT (by omega)) (bL.bX ?_)))))) (fun v hv=>?_)
       ·rw[Int.toNat_natCast]
        refine bL.call (aEh K p2 _ (by omega) (by omega) (by omega)) (fun v hv=>?_)
        refine bL.ret (sE.r ?_)
        omega
       ·refine bL.ret (sE.r ?_)
        exact ⟨⟨by dsimp only;omega,by dsimp only;omega,by dsimp only;rw[show ((m:Int)+1).toNat=m+1 by omega];exact hv⟩,by dsimp only;omega⟩
      ·have hxe:=aP1 (l.getD n default).bY m
       refine bL.ret (sE.l (sE.l ?_))
       show p2.length≤_
       omega
    ·refine bL.ret (sE.r ?_)
     exact ⟨⟨by dsimp only;omega,by dsimp only;omega,by dsimp only;rw[show ((n:Int)+1).toNat=n+1 by omega];exact hv⟩,by dsimp only;omega⟩
   ·have hle:=aUd l n
    refine bL.ret (sE.l (sE.l ?_))
    show p.length≤_
    omega
theorem aP2 {K:Nat} {l:List cG} (hK:100000<K) (hl:cG.hG l≤6004):cR (aN4 K l) (fun v=>v.length≤6004):=by
 have e:aN4 K l=u7 (K+1) [] l:=by rw[u7];rfl
 rw[e]
 refine (aEh (K+1) [] l hl (by omega) (by simp;omega)).yQ (fun v hv=>?_)
 simp at hv;omega
end Go.Proofs.YtdbfbedholdjaaaGreat

namespace Go.Proofs.YtdbfbedholdjaaaGreat
open Go Go.Dl
variable [dK]
set_option maxRecDepth 100000
set_option maxHeartbeats 8000000
theorem aP3 {K:Nat} {l:List dR} {w:dR} (hK:1000000<K) (hl:l.length≤100000):cR (aOk K l w) (fun v=>v.length≤l.length+1):=by
 refine cR.of ?_
 unfold aOk
 refine bL.bZ (fun i:Int=>0≤i∧i≤l.length) (bL.bN (bL.c7 ?_)) (fun i hi=>?_)
 ·refine bL.loop (fun t:Int=>0≤t∧t≤l.length) (fun t=>(l.length - t).toNat) ⟨by omega,by omega⟩ (by omega) (fun t ⟨g1,g2⟩=>?_)
  simp (disch:=omega) only[wr,Int.ofNat_eq_natCast]
  refine bL.bW ?_ (bL.bX (bL.bO ?_))
  ·by_cases q:t<l.length
   ·rw[bT ⟨g1,q⟩];simp
   ·rw[decide_eq_false q];rfl
  refine bL.dA (fun _=>aPX) (fun v _=>?_)
  refine bL.ite (fun e=>?_) (fun e=>?_)
  ·simp only[aC,aB] at e
   refine bL.bP (bL.bN (bL.ret (sE.r (bL.ret (sE.r ?_)))))
   exact ⟨⟨by omega,by omega⟩,by omega⟩
  ·refine bL.ret (sE.l (sE.l ?_))
   exact ⟨by omega,by omega⟩
 ·refine bL.bW ?_ (bL.bX (bL.bO (bL.bO (bL.ite (fun e=>?_) (fun e=>?_)))))
  ·by_cases q:i<Int.ofNat l.length
   ·rw[bT ⟨hi.1,q⟩];simp
   ·rw[decide_eq_false q];rfl
  ·refine bL.ret (sE.l ?_);omega
  ·refine bL.bW ?_ (bL.bW ?_ (bL.bX (bL.bO (bL.bO ?_))))
   ·simp only[c5,aC,aB];omega
   ·simp only[c5,aC,aB,Int.ofNat_eq_natCast];omega
   have h1:((l.drop (0:Int).toNat).take (i.toNat - (0:Int).toNat)).length≤l.length:=by
    rw[aS,bK];omega
   have h2:((l.drop i.toNat).take ((Int.ofNat l.length).toNat - i.toNat)).length+((l.drop (0:Int).toNat).take (i.toNat - (0:Int).toNat)).length≤l.length:=by
    simp only[aS,bK,Int.ofNat_eq_natCast,Int.toNat_natCast];simp;omega
   refine bL.bW (cP (by omega)) (bL.bX (bL.bW (cP ?_) (bL.bX (bL.bW (cP ?_) (bL.bX ?_)))))
   ·simp only[List.length_singleton];omega
   ·rw[aD];simp only[List.length_singleton];omega
   ·refine bL.ret (sE.l ?_)
    rw[aD,aD];simp only[List.length_singleton];omega
theorem Wf.len {u:cM} (hw:Wf u):u.bM.length≤12:=by
 by_cases h:u.bM.length≤12
 ·exact h
 ·have:=(hw 12 ⟨by omega,by omega⟩).lim
  omega
theorem aSQ {K:Nat} {u:cM} (hK:1000000<K) (hw:Wf u):cR (F78 K u) (fun v=>v.length≤100∧∀ w∈v,0≤w.c6∧w.c6<u.bM.length):=by
 have hl:=hw.len
 refine cR.of ?_
 unfold F78
 refine bL.bZ (fun v:List dR=>v.length≤100∧∀ w∈v,0≤w.c6∧w.c6<u.bM.length) (bL.bN (bL.c7 ?_)) (fun v hv=>by refine bL.ret (sE.l ?_);exact hv)
 refine bL.loop (fun t:List dR × Int=>0≤t.2∧t.2≤u.bM.length∧(t.1.length:Int)≤7 * t.2∧∀ w∈t.1,0≤w.c6∧w.c6<u.bM.length) (fun t=>(u.bM.length - t.2).toNat) ⟨by simp,by simp,by simp,fun w hw=>by cases hw⟩ (by dsimp only;omega) ?_
 rintro ⟨o,t⟩ ⟨g1,g2,g3,g4⟩
 dsimp only at g1 g2 g3 g4 ⊢
 simp (disch:=omega) only[wr,Int.ofNat_eq_natCast]
 refine bL.bO (bL.ite (fun e1=>?_) (fun e1=>?_))
 ·simp only[aB] at e1
  have hm:=(hw t ⟨g1,e1⟩).sz.m
  refine bL.bZ (fun v:List dR=>(v.length:Int)≤7 * t+7∧∀ w∈v,0≤w.c6∧w.c6<u.bM.length) (bL.bN (bL.bW (bT ⟨g1,e1⟩) (bL.bX (bL.bO ?_)))) (fun v hv=>by refine bL.ret (sE.r ?_);exact ⟨⟨by dsimp only;omega,by dsimp only;omega,by dsimp only;omega,hv.2⟩,by dsimp only;omega⟩)
  refine bL.bZ (fun v:List dR=>(v.length:Int)≤7 * t+1∧∀ w∈v,0≤w.c6∧w.c6<u.bM.length) ?_ (fun o2 ho2=>?_)
  ·refine bL.ite (fun e2=>bL.bW (cP ?_) (bL.bX ?_)) (fun e2=>?_)
   ·show (o.length+1) * 16≤_
    omega
   ·refine bL.ret (sE.r ?_)
    refine ⟨by rw[aD,List.length_singleton];omega,fun w hw=>?_⟩
    rcases aX.1 hw with hw | hw
    ·exact g4 w hw
    ·rw[aL.1 hw];exact ⟨g1,e1⟩
   ·refine bL.ret (sE.r ?_)
    exact ⟨by omega,g4⟩
  ·refine bL.bZ (fun v:List dR=>(v.length:Int)≤7 * t+7∧∀ w∈v,0≤w.c6∧w.c6<u.bM.length) (bL.bN (bL.c7 ?_)) (fun v hv=>by refine bL.ret (sE.r ?_);exact hv)
   refine bL.loop (fun s:List dR × Int=>0≤s.2∧s.2≤(dc u t).bQ.length∧(s.1.length:Int)≤7 * t+1+s.2∧∀ w∈s.1,0≤w.c6∧w.c6<u.bM.length) (fun s=>((dc u t).bQ.length - s.2).toNat) ⟨by simp,by simp,by dsimp only;omega,ho2.2⟩ (by dsimp only;omega) ?_
   rintro ⟨o3,i⟩ ⟨k1,k2,k3,k4⟩
   dsimp only at k1 k2 k3 k4 ⊢
   refine bL.bW (bT ⟨g1,e1⟩) (bL.bW (by rw[bT ⟨g1,e1⟩];simp) (bL.bX (bL.bO (bL.ite (fun e3=>?_) (fun e3=>?_)))))
   ·simp only[aC,aB,Int.ofNat_eq_natCast] at e3
    have hi:i<(dc u t).bQ.length:=e3.1
    simp (disch:=omega) only[wr,Int.ofNat_eq_natCast]
    refine bL.bZ (fun v:List dR=>(v.length:Int)≤7 * t+2+i∧∀ w∈v,0≤w.c6∧w.c6<u.bM.length) (bL.bN (bL.bW (cP ?_) (bL.bX ?_))) (fun v hv=>by refine bL.ret (sE.r ?_);exact ⟨⟨by dsimp only;omega,by dsimp only;omega,by dsimp only;omega,hv.2⟩,by dsimp only;omega⟩)
    ·show (o3.length+1) * 16≤_
     omega
    ·refine bL.ret (sE.r ?_)
     refine ⟨by rw[aD,List.length_singleton];omega,fun w hw=>?_⟩
     rcases aX.1 hw with hw | hw
     ·exact k4 w hw
     ·rw[aL.1 hw];exact ⟨g1,e1⟩
   ·refine bL.ret (sE.l (sE.l ?_))
    exact ⟨by show (o3.length:Int)≤_;omega,k4⟩
 ·refine bL.ret (sE.l (sE.l ?_))
  exact ⟨by show o.length≤_;omega,g4⟩
def aAb:List Bool→Nat
 | []=>0
 | b::r=>(if b then 0 else 1)+aAb r
theorem aHj:∀ {l:List Bool} {i:Nat},i<l.length→l.getD i default=false→aAb (l.set i true)+1=aAb l
 | b::r,0,_,h=>by
   simp at h;subst h;simp [aAb];omega
 | b::r,i+1,h1,h2=>by
   simp only[List.length_cons] at h1
   have:=aHj (l:=r) (i:=i) (by omega) (by simpa using h2)
   rw[List.set_cons_succ,aAb,aAb];omega
theorem aC1:∀ n,aAb (List.replicate n false)=n
 | 0=>rfl
 | n+1=>by rw[List.replicate_succ,aAb,aC1 n];simp;omega
theorem aSR {K:Nat} {l:List (List Int)} {d:Int} (hK:100000000<K) (hl:l.length≤100) (hr:∀ r∈l,r.length≤100000∧∀ x∈r,-1≤x∧x<l.length) (hd:0≤d∧d<l.length):cR (F80 K l d) (fun v=>v.length=l.length):=by
 have kU:∀ {x:Int},0≤x→x<l.length→(l.getD x.toNat default).length≤100000∧∀ y∈l.getD x.toNat default,-1≤y∧y<l.length:=fun {x} h1 h2=>hr _ (c9 (d:=default) (by omega))
 refine cR.of ?_
 unfold F80
 have h0:=kU hd.1 hd.2
 refine bL.bW (by simp) (bL.bW (cP ?_) (bL.bX (bL.bW (bT hd) (bL.bX (bL.bW (cP ?_) (bL.bX ?_))))))
 ·simp only[Int.ofNat_eq_natCast,Int.toNat_natCast];omega
 ·omega
 refine bL.bZ (fun v:List Bool=>v.length=l.length) (bL.bN (bL.c7 ?_)) (fun v hv=>by refine bL.ret (sE.l ?_);exact hv)
 refine bL.loop (fun t:List Bool × List Int × Int=>t.1.length=l.length∧0≤t.2.2∧t.2.2≤t.2.1.length∧t.2.1.length+100000 * aAb t.1≤20000000∧∀ y∈t.2.1,-1≤y∧y<l.length) (fun t=>(t.2.1.length+100000 * aAb t.1 - t.2.2).toNat) ⟨by simp,by simp,by simp,?_,h0.2⟩ ?_ ?_
 ·dsimp only
  simp only[Int.ofNat_eq_natCast,Int.toNat_natCast]
  rw[show (default:Bool)=false from rfl,aC1];omega
 ·dsimp only
  simp only[Int.ofNat_eq_natCast,Int.toNat_natCast]
  rw[show (default:Bool)=false from rfl,aC1];omega
 rintro ⟨seen,todo,i⟩ ⟨g1,g2,g3,g4,g5⟩
 dsimp only at g1 g2 g3 g4 g5 ⊢
 simp (disch:=omega) only[wr,Int.ofNat_eq_natCast]
 refine bL.bO (bL.ite (fun e1=>?_) (fun e1=>by refine bL.ret (sE.l (sE.l ?_));exact g1))
 simp only[aB] at e1
 have hy:=g5 _ (c9 (d:=default) (show i.toNat<todo.length by omega))
 generalize todo.getD i.toNat default=y at hy
 refine bL.bZ (fun t:List Bool × List Int=>t.1.length=l.length∧todo.length≤t.2.length∧t.2.length+100000 * aAb t.1≤todo.length+100000 * aAb seen∧∀ y∈t.2,-1≤y∧y<l.length) (bL.bN (bL.bW (bT ⟨g2,e1⟩) (bL.bW (by rw[bT ⟨g2,e1⟩];simp) (bL.bW ?_ (bL.bX (bL.bO (bL.ite (fun e2=>?_) (fun e2=>?_)))))))) ?_
 ·by_cases q:y<0
  ·rw[decide_eq_true q];rfl
  ·rw[bT (by omega)];simp
 ·refine bL.ret (sE.l (sE.l ?_))
  exact ⟨g1,aJ _,aJ _,g5⟩
 ·simp only[aO,not_or,aB,Bool.not_eq_true] at e2
  obtain ⟨e2,e3⟩:=e2
  have hy0:0≤y:=by omega
  have h2:=kU hy0 hy.2
  have hu:=aHj (l:=seen) (i:=y.toNat) (by omega) e3
  refine bL.bW (bT ⟨g2,e1⟩) (bL.bW (bT (by omega)) (bL.bX (bL.bW (bT ⟨g2,e1⟩) (bL.bW (bT (by omega)) (bL.bX (bL.bO (bL.bW (cP ?_) (bL.bX ?_))))))))
  ·omega
  ·refine bL.ret (sE.r ?_)
   refine ⟨by rw[List.length_set];exact g1,?_,?_,fun z hz=>?_⟩
   ·rw[aD];omega
   ·show (todo++_).length+100000 * aAb (seen.set y.toNat true)≤_
    rw[aD];omega
   ·rcases aX.1 hz with hz | hz
    ·exact g5 z hz
    ·exact h2.2 z hz
 ·rintro ⟨a,b⟩ ⟨q1,q2,q3,q4⟩
  dsimp only at q1 q2 q3 q4 ⊢
  refine bL.ret (sE.r ?_)
  exact ⟨⟨q1,by dsimp only;omega,by dsimp only;omega,by dsimp only;omega,q4⟩,by dsimp only;omega⟩
theorem aP4 {K:Nat} {u:cM} {w:dR} (hK:101000000<K) (h:Sm u) (hw:Wf u):cR (aOr K u w) (fun v=>v.length≤80000):=by
 have hul:=hw.len
 refine cR.of ?_
 unfold aOr
 refine bL.call (aPZ h) (fun r1 hr1=>?_)
 refine bL.call (aP2 (by omega) hr1) (fun r2 sG=>?_)
 refine bL.bZ (fun v:List dR=>v.length≤80000) (bL.bN (bL.c7 ?_)) (fun v hv=>by refine bL.ret (sE.l ?_);exact hv)
 refine bL.loop (fun t:List dR × Int=>0≤t.2∧t.2≤r2.length∧(t.1.length:Int)≤12 * t.2) (fun t=>(r2.length - t.2).toNat) ⟨by simp,by simp,by simp⟩ (by dsimp only;omega) ?_
 rintro ⟨o,t⟩ ⟨g1,g2,g3⟩
 dsimp only at g1 g2 g3 ⊢
 simp (disch:=omega) only[wr,Int.ofNat_eq_natCast]
 refine bL.bO (bL.ite (fun e1=>?_) (fun e1=>by refine bL.ret (sE.l (sE.l ?_));show o.length≤80000;omega))
 simp only[aB] at e1
 generalize r2.getD t.toNat default=e
 refine bL.bZ (fun v:List dR=>(v.length:Int)≤12 * t+12) (bL.bN (bL.bW (bT ⟨g1,e1⟩) (bL.bX ?_))) (fun v hv=>by refine bL.ret (sE.r ?_);exact ⟨⟨by dsimp only;omega,by dsimp only;omega,by dsimp only;omega⟩,by dsimp only;omega⟩)
 refine bL.cJ (by decide) (aHk (by omega) h) (fun r hr=>?_)
 refine bL.ite (fun e2=>by refine bL.ret (sE.l (sE.l ?_));show (o.length:Int)≤_;omega) (fun e2=>?_)
 have hr:=hr (by simpa using e2)
 refine bL.bZ (fun v:List dR=>(v.length:Int)≤12 * t+12) (bL.bN (bL.c7 ?_)) (fun v hv=>by refine bL.ret (sE.r ?_);exact hv)
 refine bL.loop (fun s:List dR × Int=>0≤s.2∧s.2≤u.bM.length∧(s.1.length:Int)≤12 * t+s.2) (fun s=>(u.bM.length - s.2).toNat) ⟨by simp,by simp,by dsimp only;omega⟩ (by dsimp only;omega) ?_
 rintro ⟨p,i⟩ ⟨k1,k2,k3⟩
 dsimp only at k1 k2 k3 ⊢
 simp (disch:=omega) only[wr,Int.ofNat_eq_natCast]
 refine bL.bO (bL.ite (fun e3=>?_) (fun e3=>by refine bL.ret (sE.l (sE.l ?_));show (p.length:Int)≤_;omega))
 simp only[aB] at e3
 refine bL.bZ (fun v:List dR=>(v.length:Int)≤12 * t+i+1) (bL.bN (bL.bW (bT ⟨g1,e1⟩) (bL.bX (bL.bO (bL.bW (by rw[bT ⟨g1,e1⟩];simp) (bL.bW (by rw[bT ⟨k1,e3⟩];simp) (bL.bW (by rw[bT ⟨k1,e3⟩];simp) (bL.bW (by rw[bT hr];simp) (bL.bX ?_))))))))) (fun v hv=>by refine bL.ret (sE.r ?_);exact ⟨⟨by dsimp only;omega,by dsimp only;omega,by dsimp only;omega⟩,by dsimp only;omega⟩)
 refine bL.dA (fun _=>aHl (by omega) h) (fun _ _=>bL.bO (bL.ite (fun e4=>by refine bL.ret (sE.l (sE.l ?_));show (p.length:Int)≤_;omega) (fun e4=>?_)))
 refine bL.bW (bT ⟨g1,e1⟩) (bL.bX ?_)
 refine bL.iO (tR (by omega) (by assumption)) ?_
 refine bL.dA (fun e5=>yU (oG e5).1) (fun m _=>?_)
 refine bL.ite (fun e6=>?_) (fun e6=>by refine bL.ret (sE.r ?_);show (p.length:Int)≤_;omega)
 refine bL.call (aP3 (by omega) (by omega)) (fun v hv=>?_)
 refine bL.ret (sE.r ?_)
 show (v.length:Int)≤_
 omega
theorem aSS {K:Nat} {u:cM} {l:List dR} (hK:101000000<K) (h:Sm u) (hw:Wf u) (hl:l.length≤100):cR (F79 K u l) (fun v=>v.length=l.length∧∀ r∈v,r.length≤100000∧∀ x∈r,-1≤x∧x<l.length):=by
 refine cR.of ?_
 unfold F79
 refine bL.bZ (fun v:List (List Int)=>v.length=l.length∧∀ r∈v,r.length≤100000∧∀ x∈r,-1≤x∧x<l.length) (bL.bN (bL.c7 ?_)) (fun v hv=>by refine bL.ret (sE.l ?_);exact hv)
 refine bL.loop (fun t:List (List Int) × Int=>0≤t.2∧t.2≤l.length∧(t.1.length:Int)=t.2∧∀ r∈t.1,r.length≤100000∧∀ x∈r,-1≤x∧x<l.length) (fun t=>(l.length - t.2).toNat) ⟨by simp,by simp,by simp,fun r hr=>by cases hr⟩ (by dsimp only;omega) ?_
 rintro ⟨o,t⟩ ⟨g1,g2,g3,g4⟩
 dsimp only at g1 g2 g3 g4 ⊢
 simp (disch:=omega) only[wr,Int.ofNat_eq_natCast]
 refine bL.bO (bL.ite (fun e1=>?_) (fun e1=>?_))
 ·simp only[aB] at e1
  refine bL.bZ (fun v:List (List Int)=>(v.length:Int)=t+1∧∀ r∈v,r.length≤100000∧∀ x∈r,-1≤x∧x<l.length) (bL.bN (bL.bW (bT ⟨g1,e1⟩) (bL.bX ?_))) (fun v hv=>by refine bL.ret (sE.r ?_);exact ⟨⟨by dsimp only;omega,by dsimp only;omega,hv.1,hv.2⟩,by dsimp only;omega⟩)
  refine bL.call (aP4 hK h hw) (fun r hr=>?_)
  refine bL.bZ (fun v:List Int=>v.length≤100000∧∀ x∈v,-1≤x∧x<l.length) (bL.bN (bL.c7 ?_)) (fun v hv=>?_)
  ·refine bL.loop (fun s:List Int × Int=>0≤s.2∧s.2≤r.length∧(s.1.length:Int)=s.2∧∀ x∈s.1,-1≤x∧x<l.length) (fun s=>(r.length - s.2).toNat) ⟨by simp,by simp,by simp,fun r hr=>by cases hr⟩ (by dsimp only;omega) ?_
   rintro ⟨p,i⟩ ⟨k1,k2,k3,k4⟩
   dsimp only at k1 k2 k3 k4 ⊢
   simp (disch:=omega) only[wr,Int.ofNat_eq_natCast]
   refine bL.bO (bL.ite (fun e3=>?_) (fun e3=>by refine bL.ret (sE.l (sE.l ?_));exact ⟨by show p.length≤_;omega,k4⟩))
   simp only[aB] at e3
   refine bL.bZ (fun v:List Int=>(v.length:Int)=i+1∧∀ x∈v,-1≤x∧x<l.length) (bL.bN (bL.bW (bT ⟨k1,e3⟩) (bL.bX ?_))) (fun v hv=>by refine bL.ret (sE.r ?_);exact ⟨⟨by dsimp only;omega,by dsimp only;omega,hv.1,hv.2⟩,by dsimp only;omega⟩)
   refine bL.call (aPY (by omega) (by omega)) (fun n hn=>?_)
   refine bL.bW (cP ?_) (bL.bX ?_)
   ·simp only[List.length_singleton];omega
   ·refine bL.ret (sE.r ?_)
    refine ⟨by rw[aD,List.length_singleton];omega,fun x hx=>?_⟩
    rcases aX.1 hx with hx | hx
    ·exact k4 x hx
    ·rw[aL.1 hx];exact hn
  ·refine bL.bW (cP ?_) (bL.bX ?_)
   ·simp only[List.length_singleton];omega
   ·refine bL.ret (sE.r ?_)
    refine ⟨by rw[aD,List.length_singleton];omega,fun x hx=>?_⟩
    rcases aX.1 hx with hx | hx
    ·exact g4 x hx
    ·rw[aL.1 hx];exact hv
 ·simp only[aB] at e1
  refine bL.ret (sE.l (sE.l ?_))
  exact ⟨by show o.length=_;omega,g4⟩
theorem aST {K:Nat} {u:cM} (hK:101000000<K) (h:Sm u) (hw:Wf u):cR (F35 K u) (fun v=>v<u.bM.length):=by
 refine cR.of ?_
 unfold F35
 refine bL.call (aSQ (by omega) hw) (fun r1 hr1=>?_)
 refine bL.call (aSS hK h hw hr1.1) (fun r2 sG=>?_)
 refine bL.dI (bL.bN (bL.c7 ?_)) (fun _=>by refine bL.ret (sE.l ?_);omega)
 have hl:=hr1.1
 refine bL.kS r1.length (by omega) (fun i hi=>?_) ?_
 ·simp (disch:=omega) only[wr,Int.ofNat_eq_natCast]
  refine bL.bO (bL.dV (by simp only[aB];omega) ?_)
  refine bL.dI (bL.bN ?_) (fun _=>by refine bL.ret (sE.r ?_);rfl)
  have h2:=sG.1
  refine bL.call (aSR (by omega) (by omega) (by rw[h2];exact sG.2) (by omega)) (fun v hv=>?_)
  refine bL.bW (bT (by omega)) (bL.bX (bL.ite (fun e=>bL.bW (bT (by omega)) (bL.bX ?_)) (fun e=>by exact T0)))
  refine bL.ret (sE.l (sE.r (sE.r ?_)))
  rw[Int.toNat_natCast]
  exact (hr1.2 _ (c9 hi)).2
 ·simp (disch:=omega) only[wr,Int.ofNat_eq_natCast]
  refine bL.bO (bL.dN (by simp only[aB];exact Int.lt_irrefl _) ?_)
  exact T0
end Go.Proofs.YtdbfbedholdjaaaGreat

namespace Go.Proofs.YtdbfbedholdjaaaGreat
open Go Go.Dl
variable [dK]
set_option maxRecDepth 100000
set_option maxHeartbeats 8000000
def Nm (u:cM):Prop:=∀ d∈u.bM,d.bR=2→d.cD≠[]
theorem aVc {K:Nat} {s:Bytes} (hK:101000000<K):cR (F8 K s) (fun v=>v.2=[]→Sm v.1∧Wf v.1∧Nm v.1∧yZ v.1.bM≤6000):=by
 refine cR.of ?_
 unfold F8
 refine bL.call (aSU (by omega)) (fun r1 hr1=>?_)
 refine bL.ite (fun e=>?_) (fun e=>?_)
 ·refine bL.ret (sE.l ?_)
  intro q;cases q
 have hr:=hr1 (by simpa using e)
 have h:Sm r1.1:=⟨aR hr.1 (by decide)⟩
 refine bL.call (aSP hK h) (fun r2 sG=>?_)
 refine bL.bZ (fun v:List uJ=>(v=[]→Wf r1.1)∧v.length≤6004∧∀ w∈v,0≤w.fAt∧w.fAt<r1.1.bM.length) ?_ (fun v hv=>?_)
 ·refine bL.ite (fun e2=>?_) (fun e2=>by refine bL.ret (sE.r ?_);exact sG)
  have hn:r2=[]:=by
   simp only[beq_iff_eq,Int.ofNat_eq_natCast] at e2
   exact List.length_eq_zero_iff.1 (by omega)
  refine bL.call (aST hK h (sG.1 hn)) (fun r5 h5=>?_)
  refine bL.ite (fun e3=>?_) (fun e3=>by refine bL.ret (sE.r ?_);exact sG)
  simp only[aB] at e3
  refine bL.ret (sE.r ?_)
  refine ⟨fun q=>(by cases q),(by simp),fun w hw=>?_⟩
  rw[aL.1 hw];exact ⟨e3,h5⟩
 refine bL.ite (fun e2=>?_) (fun e2=>?_)
 ·have hn:v=[]:=by
   simp only[beq_iff_eq,Int.ofNat_eq_natCast] at e2
   exact List.length_eq_zero_iff.1 (by omega)
  refine bL.ret (sE.l ?_)
  exact fun _=>⟨h,hv.1 hn,hr.2.2,hr.1⟩
 have h6:=hv.2.1
 have hne:v.length≠0:=by
  simp only[beq_iff_eq,Int.ofNat_eq_natCast] at e2;omega
 refine bL.bZ (fun o:List uJ=>o.length=v.length) (bL.bN (bL.c7 ?_)) (fun o ho=>?_)
 ·refine bL.loop (fun t:List uJ × Int=>0≤t.2∧t.2≤v.length∧(t.1.length:Int)=t.2) (fun t=>(v.length - t.2).toNat) ⟨by simp,by simp,by simp⟩ (by dsimp only;omega) ?_
  rintro ⟨o,t⟩ ⟨g1,g2,g3⟩
  dsimp only at g1 g2 g3 ⊢
  simp (disch:=omega) only[wr,Int.ofNat_eq_natCast]
  refine bL.bO (bL.ite (fun e1=>?_) (fun e1=>?_))
  ·simp only[aB] at e1
   have hw:=hv.2.2 _ (c9 (d:=default) (show t.toNat<v.length by omega))
   refine bL.bZ (fun o:List uJ=>(o.length:Int)=t+1) (bL.bN (bL.bW (bT ⟨g1,e1⟩) (bL.bW (bT ⟨g1,e1⟩) (bL.bX (bL.bW (bT (by rw[hr.2.1];exact hw)) (bL.bX (bL.bW (cP ?_) (bL.bX ?_)))))))) (fun o ho=>by refine bL.ret (sE.r ?_);exact ⟨⟨by dsimp only;omega,by dsimp only;omega,ho⟩,by dsimp only;omega⟩)
   ·simp only[List.length_singleton];omega
   ·refine bL.ret (sE.r ?_)
    rw[aD,List.length_singleton];omega
  ·simp only[aB] at e1
   refine bL.ret (sE.l (sE.l ?_))
   show o.length=v.length
   omega
 ·refine bL.ret (sE.l ?_)
  intro q
  have q:o=[]:=q
  rw[q] at ho
  exact absurd ho.symm hne
end Go.Proofs.YtdbfbedholdjaaaGreat

namespace Go.Proofs.YtdbfbedholdjaaaGreat
open Go Go.Dl
variable [dK]
set_option maxRecDepth 100000
set_option maxHeartbeats 8000000
theorem bL.upI {A:Type} {K:Nat} {f:Int→Option (A ⊕ Int)} {p:A→Prop} (n:Nat) (P:Nat→Prop) (hK:n<K) (hs:∀ i:Nat,i<n→(∀ j,j<i→P j)→bL (f i) (sE p (fun t=>t=(i:Int)+1∧P i))) (he:(∀ i,i<n→P i)→bL (f n) (sE p (fun _=>False))):bL (iter K f 0) p:=by
 refine bL.loop (fun t=>∃ i:Nat,t=i∧i≤n∧∀ j,j<i→P j) (fun t=>n - t.toNat) ⟨0,rfl,by omega,by simp⟩ (by simpa using hK) ?_
 rintro t ⟨i,rfl,hi,hP⟩
 by_cases h:i=n
 ·subst h
  refine (he hP).yQ ?_
  rintro (a | t) h
  ·exact h
  ·exact h.elim
 ·refine (hs i (by omega) hP).yQ ?_
  rintro (a | t) h
  ·exact h
  ·obtain ⟨h1,h2⟩:=h
   subst h1
   refine ⟨⟨i+1,by omega,by omega,fun j hj=>?_⟩,?_⟩
   ·by_cases h:j=i
    ·subst h;exact h2
    ·exact hP j (by omega)
   ·omega
theorem aSV {K:Nat} {d:gX} {s:Bytes}:cR (F92 K d s) (fun v=>v=(d.cD == s)):=⟨_,rfl,rfl⟩
theorem aP5 {K:Nat} {d:iT} {s:Bytes}:cR (aR8 K d s) (fun v=>v=(d.cD == s)):=⟨_,rfl,rfl⟩
theorem aI3 {K:Nat} {l:List gX} {s:Bytes} (hK:100000<K) (hl:l.length≤6004):cR (aCD K l s) (fun v=>v=ix (fun d:gX=>d.cD == s) l):=by
 refine cR.of ?_
 unfold aCD
 refine bL.bZ (fun _=>ix (fun d:gX=>d.cD == s) l = -1) (bL.bN (bL.c7 ?_)) (fun _ h=>by refine bL.ret (sE.l ?_);exact h.symm)
 refine bL.upI l.length (fun i=>((l.getD i default).cD == s)=false) (by omega) (fun i hi hb=>?_) (fun hb=>?_)
 ·simp (disch:=omega) only[wr,Int.ofNat_eq_natCast]
  refine bL.bO (bL.dV (by simp only[aB];omega) ?_)
  rw[Int.toNat_natCast]
  refine bL.bZ (fun _=>((l.getD i default).cD == s)=false) (bL.bN (bL.bW (bT (by omega)) (bL.bX (bL.call aSV ?_)))) (fun _ h=>by refine bL.ret (sE.r ?_);exact ⟨rfl,h⟩)
  rintro _ rfl
  refine bL.ite (fun e=>?_) (fun e=>by refine bL.ret (sE.r ?_);simpa using e)
  refine bL.ret (sE.l (sE.r (sE.r ?_)))
  exact (aD4 (z:=default) hi hb e).symm
 ·simp (disch:=omega) only[wr,Int.ofNat_eq_natCast]
  refine bL.bO (bL.dN (by simp only[aB];exact Int.lt_irrefl _) ?_)
  refine bL.ret (sE.l (sE.l ?_))
  exact aGo (z:=default) hb
theorem q8 {K:Nat} {u:cM} {s:Bytes} (hK:100000<K) (h:Sm u):cR (F42 K u s) (fun v=>v=kY u s):=by
 refine cR.of ?_
 unfold F42
 refine bL.call (aI3 hK h.len) ?_
 rintro _ rfl
 refine bL.ret (sE.l ?_)
 rfl
theorem aSW {K:Nat} {l:List Int} {x:Int} (hK:100000<K) (hl:l.length≤20000):cR (F93 K l x) (fun v=>decide (v ≥ 0)=l.contains x):=by
 refine cR.of ?_
 unfold F93
 refine bL.bZ (fun _=>l.contains x=false) (bL.bN (bL.c7 ?_)) (fun _ h=>by refine bL.ret (sE.l ?_);rw[h];decide)
 refine bL.upI l.length (fun i=>l.getD i default≠x) (by omega) (fun i hi hb=>?_) (fun hb=>?_)
 ·simp (disch:=omega) only[wr,Int.ofNat_eq_natCast]
  refine bL.bO (bL.dV (by simp only[aB];omega) ?_)
  rw[Int.toNat_natCast]
  refine bL.bZ (fun _=>l.getD i default≠x) (bL.bN (bL.bW (bT (by omega)) (bL.bX (bL.bO (bL.ite (fun e=>?_) (fun e=>?_)))))) (fun _ h=>by refine bL.ret (sE.r ?_);exact ⟨rfl,h⟩)
  ·refine bL.ret (sE.l (sE.r (sE.r ?_)))
   rw[List.contains_iff_mem.2 (beq_iff_eq.1 e ▸ c9 hi)]
   exact decide_eq_true (by omega)
  ·refine bL.ret (sE.r ?_)
   exact fun q=>e (beq_iff_eq.2 q.symm)
 ·simp (disch:=omega) only[wr,Int.ofNat_eq_natCast]
  refine bL.bO (bL.dN (by simp only[aB];exact Int.lt_irrefl _) ?_)
  refine bL.ret (sE.l (sE.l ?_))
  rw[← Bool.not_eq_true]
  intro hc
  obtain ⟨i,hi,rfl⟩:=List.getElem_of_mem (List.contains_iff_mem.1 hc)
  refine hb i hi ?_
  rw[List.getD,aE hi];rfl
theorem aE0 {K:Nat} {l:List Int} {x:Int} (hK:100000<K) (hl:l.length≤20000):cR (F46 K l x) (fun v=>v=l.contains x):=by
 refine cR.of ?_
 unfold F46
 refine bL.call (aSW hK hl) (fun v hv=>?_)
 refine bL.ret (sE.l ?_)
 exact hv
theorem xP {K:Nat} {u:cM} {d:Int}:cR (F45 K u d) (fun v=>v=kd u d):=by
 refine cR.of ?_
 unfold F45 kd
 refine bL.bO (bL.ite (fun e=>?_) (fun e=>?_))
 ·simp only[aO,aB,Int.ofNat_eq_natCast] at e
  refine bL.ret (sE.l ?_)
  rw[aH e]
 ·simp only[aO,aB,Int.ofNat_eq_natCast] at e
  refine bL.bW (bT (by omega)) ?_
  refine bL.bX (bL.bO (bL.ret (sE.l ?_)))
  rw[aF e]
theorem qZ {K:Nat} {u:cM} {d:Int} (hK:100000<K) (h:Sm u):cR (F10 K u d) (fun v=>v=chain u d):=by
 have hl:=h.len
 refine cR.of ?_
 unfold F10
 refine bL.bZ (fun v=>v=chain u d) (bL.bN (bL.c7 ?_)) (fun v hv=>by refine bL.ret (sE.l ?_);exact hv)
 refine bL.loop (fun t:Int × List Int=>t.2.length+unv u.bM.length t.2=u.bM.length∧∃ n,unv u.bM.length t.2<n∧chF u n t.2 t.1=chain u d) (fun t=>unv u.bM.length t.2) ⟨by rw[nU];simp,u.bM.length+1,by rw[nU];simp,rfl⟩ (by show unv _ []<K;rw[nU];omega) ?_
 rintro ⟨e,out⟩ ⟨h1,n,h2,h3⟩
 dsimp only at h1 h2 h3 ⊢
 obtain ⟨n,rfl⟩:∃ m,n=m+1:=⟨n - 1,by omega⟩
 rw[chF] at h3
 refine bL.call xP ?_
 rintro _ rfl
 refine bL.dA (fun _=>aE0 (by omega) (by omega)) (fun v hv=>?_)
 refine bL.ite (fun c=>?_) (fun c=>?_)
 ·simp only[aC,beq_iff_eq,aP] at c
  have hv':=hv (by simp [c.1])
  have hc:out.contains e=false:=by rw[← hv'];exact c.2
  rw[aH ⟨c.1,hc⟩] at h3
  have hd:=gA c.1 (by decide)
  have hu:=tT u.bM.length out e hd.1 hd.2 hc
  refine bL.bP (bL.bN ?_)
  refine bL.bW (cP ?_) (bL.bX (bL.bW (bT hd) (bL.bX (bL.bO ?_))))
  ·simp only[List.length_singleton];omega
  refine bL.cJ (by decide) (q8 (by omega) h) ?_
  rintro _ rfl
  refine bL.ret (sE.r (bL.ret (sE.r ?_)))
  exact ⟨⟨by simp;omega,n,by dsimp only;omega,h3⟩,by dsimp only;omega⟩
 ·have hc:¬ (kd u e=2∧out.contains e=false):=fun ⟨c1,c2⟩=>by
   have hv':=hv (by simp [c1])
   rw[c2] at hv'
   exact c (by simp [c1,hv'])
  rw[aF hc] at h3
  refine bL.ret (sE.l (sE.l ?_))
  exact h3
theorem aFG {K:Nat} {d:gX} {s:Bytes} (hK:100000<K) (hl:d.bQ.length≤6004):cR (tK K d.bQ s) (fun v=>v=own d s):=by
 refine cR.of ?_
 unfold tK
 refine bL.bZ (fun _=>own d s = -1) (bL.bN (bL.c7 ?_)) (fun _ h=>by refine bL.ret (sE.l ?_);exact h.symm)
 refine bL.upI d.bQ.length (fun i=>((d.bQ.getD i default).cD == s)=false) (by omega) (fun i hi hb=>?_) (fun hb=>?_)
 ·simp (disch:=omega) only[wr,Int.ofNat_eq_natCast]
  refine bL.bO (bL.dV (by simp only[aB];omega) ?_)
  rw[Int.toNat_natCast]
  refine bL.bZ (fun _=>((d.bQ.getD i default).cD == s)=false) (bL.bN (bL.bW (bT (by omega)) (bL.bX (bL.call aP5 ?_)))) (fun _ h=>by refine bL.ret (sE.r ?_);exact ⟨rfl,h⟩)
  rintro _ rfl
  refine bL.ite (fun e=>?_) (fun e=>by refine bL.ret (sE.r ?_);simpa using e)
  refine bL.ret (sE.l (sE.r (sE.r ?_)))
  exact (aD4 (z:=default) hi hb e).symm
 ·simp (disch:=omega) only[wr,Int.ofNat_eq_natCast]
  refine bL.bO (bL.dN (by simp only[aB];exact Int.lt_irrefl _) ?_)
  refine bL.ret (sE.l (sE.l ?_))
  exact aGo (z:=default) hb
theorem aBk {K:Nat} {u:cM} {d:Int} {s:Bytes} (hK:100000<K) (h:Sm u):cR (F87 K u d s) (fun v=>v=nM u d s):=by
 have hl:=h.len
 refine cR.of ?_
 unfold F87
 refine bL.iO (qZ (by omega) (by assumption)) ?_
 refine bL.iO (xP) ?_
 refine bL.bZ (fun l=>l=line u d) ?_ ?_
 ·unfold line
  refine bL.ite (fun e=>?_) (fun e=>?_)
  ·refine bL.ret (sE.r ?_)
   rw[aH (by simpa using e)]
  ·refine bL.ret (sE.r ?_)
   rw[aF (by simpa using e)]
 rintro _ rfl
 have h2:=aHm h d
 refine bL.bZ (fun _=>nM u d s=(⟨0,0⟩,false)) (bL.bN (bL.c7 ?_)) (fun _ h=>by refine bL.ret (sE.l ?_);exact h.symm)
 refine bL.loop (fun t:Int=>0≤t∧t≤(line u d).length∧rC u s ((line u d).drop t.toNat)=nM u d s) (fun t=>((line u d).length - t).toNat) ⟨by simp,by simp,rfl⟩ (by simp;omega) (fun t ⟨g1,g2,g3⟩=>?_)
 obtain ⟨n,rfl⟩:=aK g1
 rw[Int.toNat_natCast] at g3
 simp (disch:=omega) only[wr,Int.ofNat_eq_natCast]
 refine bL.bO (bL.ite (fun e=>?_) (fun e=>?_))
 ·simp only[aB] at e
  have hn:n<(line u d).length:=by omega
  rw[lF default hn,rC] at g3
  have hx:=aBo (c9 (d:=default) hn)
  refine bL.bP (bL.bN ?_)
  rw[Int.toNat_natCast]
  refine bL.bW (bT (by omega)) (bL.bX (bL.bW (bT hx) (bL.bX (bL.bO ?_))))
  refine bL.call (aFG (d:=dc u ((line u d).getD n default)) (by omega) (h.aAG _)) ?_
  rintro _ rfl
  refine bL.ite (fun c=>?_) (fun c=>?_)
  ·simp only[aB,ge_iff_le] at c
   rw[aH c] at g3
   refine bL.ret (sE.l (sE.r (sE.r ?_)))
   exact g3
  ·simp only[aB,ge_iff_le] at c
   rw[aF c] at g3
   refine bL.ret (sE.r (bL.ret (sE.r ?_)))
   exact ⟨⟨by omega,by omega,by rw[show ((n:Int)+1).toNat=n+1 by omega];exact g3⟩,by omega⟩
 ·simp only[aB] at e
  rw[List.drop_eq_nil_of_le (by omega),rC] at g3
  refine bL.ret (sE.l (sE.l ?_))
  exact g3.symm
theorem uC {K:Nat} {u:cM} {d k:Int} (hk:k≠0):cR (F50 K u d k) (fun v=>v=(kd u d == k)):=by
 refine cR.of ?_
 unfold F50
 by_cases hd:0≤d∧d<u.bM.length
 ·refine bL.bW (by rw[bT hd];simp) (bL.bX (bL.bO ?_))
  refine bL.ret (sE.l ?_)
  unfold kd
  rw[aF (by omega)]
  simp [hd.1,hd.2]
 ·have e:(decide (d ≥ 0) && decide (d<Int.ofNat u.bM.length))=false:=by
   rw[Bool.and_eq_false_iff]
   simp only[decide_eq_false_iff_not,Int.ofNat_eq_natCast]
   omega
  rw[e]
  refine bL.bW rfl (bL.bX (bL.bO ?_))
  refine bL.ret (sE.l ?_)
  unfold kd
  rw[aH (by omega)]
  simp;omega
def num (u:cM) (d k:Int):Int:=if kd u d=k then ((u.bM.take d.toNat).countP fun x=>x.bR == k:Nat) else -1
theorem aKn {K:Nat} {u:cM} {d k:Int} (hK:100000<K) (hk:k≠0) (h:Sm u):cR (F47 K u d k) (fun v=>v=num u d k):=by
 have hl:=h.len
 refine cR.of ?_
 unfold F47 num
 refine bL.call (uC hk) ?_
 rintro _ rfl
 refine bL.ite (fun e=>?_) (fun e=>?_)
 ·simp only[aP,beq_eq_false_iff_ne] at e
  refine bL.ret (sE.l ?_)
  rw[aF e]
 ·simp only[aP,Bool.not_eq_false,beq_iff_eq] at e
  have hd:=gA e hk
  rw[aH e]
  have e0:(u.bM.drop (0:Int).toNat).take (d.toNat - (0:Int).toNat)=u.bM.take d.toNat:=by simp
  refine bL.bW ?_ (bL.bX (bL.bO ?_))
  ·simp only[c5,aC,aB];omega
  rw[e0]
  have hlen:(u.bM.take d.toNat).length≤6004:=by rw[aS];omega
  generalize u.bM.take d.toNat=l at hlen
  refine bL.bZ (fun v:Int=>v=(l.countP fun x=>x.bR == k:Nat)) (bL.bN (bL.c7 ?_)) (fun v hv=>by refine bL.ret (sE.l ?_);exact hv)
  refine bL.loop (fun t:Int × Int=>0≤t.2∧t.2≤l.length∧t.1=((l.take t.2.toNat).countP fun x=>x.bR == k:Nat)) (fun t=>(l.length - t.2).toNat) ⟨by simp,by simp,by simp⟩ (by dsimp only;omega) ?_
  rintro ⟨c,t⟩ ⟨g1,g2,g3⟩
  dsimp only at g1 g2 g3 ⊢
  obtain ⟨n,rfl⟩:=aK g1
  rw[Int.toNat_natCast] at g3
  have hc:(l.take n).countP (fun x=>x.bR == k)≤l.length:=aR List.countP_le_length (by rw[aS];omega)
  simp (disch:=omega) only[wr,Int.ofNat_eq_natCast]
  refine bL.bO (bL.ite (fun e=>?_) (fun e=>?_))
  ·simp only[aB] at e
   have kU:(l.take (n+1)).countP (fun x=>x.bR == k)=(l.take n).countP (fun x=>x.bR == k)+(if ((l.getD n default).bR == k)=true then 1 else 0):=by
    rw[eP default (by omega),List.countP_append,List.countP_singleton]
   rw[Int.toNat_natCast]
   refine bL.bZ (fun v:Int=>v=((l.take (n+1)).countP fun x=>x.bR == k:Nat)) (bL.bN (bL.bW (bT (by omega)) (bL.bX (bL.bO (bL.ite (fun e2=>?_) (fun e2=>?_)))))) (fun v hv=>by refine bL.ret (sE.r ?_);exact ⟨⟨by dsimp only;omega,by dsimp only;omega,by dsimp only;rw[show ((n:Int)+1).toNat=n+1 by omega];exact hv⟩,by dsimp only;omega⟩)
   ·rw[aH e2] at kU
    refine bL.ret (sE.r ?_)
    rw[kU];omega
   ·rw[aF e2] at kU
    refine bL.ret (sE.r ?_)
    rw[kU];omega
  ·simp only[aB] at e
   refine bL.ret (sE.l (sE.l ?_))
   rw[List.take_of_length_le (by omega)] at g3
   exact g3
theorem uG {K:Nat} {u:cM} {d:Int} (hK:100000<K) (h:Sm u):cR (F11 K u d) (fun v=>v=num u d 2):=by
 refine cR.of ?_
 unfold F11
 refine bL.call (aKn hK (by decide) h) ?_
 rintro _ rfl
 refine bL.ret (sE.l ?_)
 rfl
theorem aJI {K:Nat} {u:cM} {d:Int} (hK:100000<K) (h:Sm u):cR (F22 K u d) (fun v=>v=num u d 1):=by
 refine cR.of ?_
 unfold F22
 refine bL.call (aKn hK (by decide) h) ?_
 rintro _ rfl
 refine bL.ret (sE.l ?_)
 rfl
end Go.Proofs.YtdbfbedholdjaaaGreat
