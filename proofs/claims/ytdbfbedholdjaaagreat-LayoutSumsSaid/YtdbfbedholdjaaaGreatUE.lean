/- No conditions. -/
import Derived.Test.YtdbfbedholdjaaaGreatUD
import Derived.Test.YtdbfbedholdjaaaGreatLG
import Derived.Test.YtdbfbedholdjaaaGreatUB
import Derived.Test.YtdbfbedholdjaaaGreatLs
import Derived.Test.YtdbfbedholdjaaaGreatLr
set_option linter.unusedVariables false
set_option linter.unusedSimpArgs false
set_option linter.unusedSectionVars false
namespace Go.Proofs.YtdbfbedholdjaaaGreat
open Go Go.Dl
variable [eC]
set_option maxRecDepth 100000
set_option maxHeartbeats 8000000
theorem aPC {K:Nat} {a b:dX}:dG (aN2 K a b) (fun _=>True):=by
 refine dG.of ?_
 unfold aN2
 exact T0
theorem aPD {K:Nat} {l:List dX} {w:dX} (hK:1000000<K) (hl:l.length≤100000):dG (aN3 K l w) (fun v=>-1≤v∧v<l.length):=by
 refine dG.of ?_
 unfold aN3
 refine bJ.eE (bJ.bL (bJ.dN ?_)) (fun _=>by refine bJ.ret (sE.l ?_);exact ⟨by omega,by omega⟩)
 refine bJ.mA l.length (by omega) (fun i hi=>?_) ?_
 ·simp (disch:=omega) only[wr,Int.ofNat_eq_natCast]
  refine bJ.bO (bJ.eX (by simp only[aB];omega) ?_)
  refine bJ.eE (bJ.bL (bJ.bW (bV (by omega)) (bJ.cC ?_))) (fun _=>by refine bJ.ret (sE.r ?_);rfl)
  refine bJ.bO (bJ.ite (fun _=>bJ.ret (sE.l (sE.r (sE.r ?_)))) (fun _=>bJ.ret (sE.r ?_)))
  ·exact ⟨by omega,by omega⟩
  ·trivial
 ·simp (disch:=omega) only[wr,Int.ofNat_eq_natCast]
  refine bJ.bO (bJ.fC (by simp only[aB];exact Int.lt_irrefl _) ?_)
  exact T0
theorem aPE {K:Nat} {u:dD} {w:dX} (h:Sm u):dG (aN4 K u w) (fun v=>cJ.jF v≤6004):=by
 refine dG.of ?_
 unfold aN4
 refine bJ.call aAJ (fun v hv=>?_)
 refine bJ.ite (fun e=>?_) (fun e=>?_)
 ·refine bJ.ret (sE.l ?_);simp [cJ.jF]
 have hp:=hv (by simpa using e)
 refine bJ.ite (fun e2=>?_) (fun e2=>?_)
 ·refine bJ.bW (bV hp.in) (bJ.cC (bJ.bO ?_))
  refine bJ.ret (sE.l ?_)
  exact h.body _
 ·simp only[aB] at e2
  have hw:Vw u w:=by
   rcases hp with hp | hp
   ·exact hp.2
   ·omega
  refine bJ.bW (bV hp.in) (bJ.bW (bV hw.2) (bJ.cC (bJ.bO ?_)))
  refine bJ.ret (sE.l ?_)
  exact (iI.bounds (h.m w.dA w.dH.toNat)).2.2
theorem aPF {l:List cM} {n:Nat} (h:n<l.length):cM.jF (l.take (n+1))=cM.jF (l.take n)+(l.getD n default).sz:=by
 rw[gN default h,oF];simp [cM.jF]
theorem aGb (l:List cM) (n:Nat):cM.jF (l.take n)≤cM.jF l:=by
 have:=oF (l.take n) (l.drop n)
 rw[List.take_append_drop] at this;omega
theorem aFb:∀ (K:Nat) (o:List cM) (e:cM),e.sz≤7000→o.length≤10000000→e.sz+10000<K→o.length+e.sz≤10000000→dG (aAp K o e) (fun v=>v.length≤o.length+e.sz)
 | 0,_,_,_,_,h,_=>by omega
 | K+1,o,e,h1,h2,h3,h4=>by
   have hs:=e.szq
   have hl:=oE e.gD
   refine dG.of ?_
   rw[aAp]
   refine bJ.cN (fun v:List cM=>v.length≤o.length+1) ?_ (fun v hv=>?_)
   ·refine bJ.ite (fun e1=>bJ.bW (eB ?_) (bJ.cC ?_)) (fun e1=>?_)
    ·show (o.length+1) * 72≤_
     omega
    ·refine bJ.ret (sE.r ?_)
     rw[aE];simp
    ·refine bJ.ret (sE.r ?_)
     omega
   refine bJ.cN (fun v:List cM=>v.length≤o.length+e.sz) (bJ.bL (bJ.dN ?_)) (fun v hv=>by refine bJ.ret (sE.l ?_);exact hv)
   refine bJ.loop (fun t:List cM × Int=>0≤t.2∧t.2≤e.gD.length∧t.1.length≤o.length+1+cM.jF (e.gD.take t.2.toNat)) (fun t=>(e.gD.length - t.2).toNat) ⟨by simp,by simp,by dsimp only;omega⟩ (by dsimp only;omega) ?_
   rintro ⟨p,t⟩ ⟨g1,g2,g3⟩
   dsimp only at g1 g2 g3 ⊢
   obtain ⟨n,rfl⟩:=aJ g1
   rw[Int.toNat_natCast] at g3
   simp (disch:=omega) only[wr,Int.ofNat_eq_natCast]
   refine bJ.bO (bJ.ite (fun e1=>?_) (fun e1=>?_))
   ·simp only[aB] at e1
    have hn:n<e.gD.length:=by omega
    have hm:=p7 (eA (d:=default) hn)
    have s8:=aPF hn
    have hle:=aGb e.gD (n+1)
    rw[Int.toNat_natCast]
    refine bJ.cN (fun v:List cM=>v.length≤o.length+1+cM.jF (e.gD.take (n+1))) (bJ.bL (bJ.bW (bV (by omega)) (bJ.cC ?_))) (fun v hv=>?_)
    ·refine bJ.call (aFb K p _ (by omega) (by omega) (by omega) (by omega)) (fun v hv=>?_)
     refine bJ.ret (sE.r ?_)
     omega
    ·refine bJ.ret (sE.r ?_)
     exact ⟨⟨by dsimp only;omega,by dsimp only;omega,by dsimp only;rw[show ((n:Int)+1).toNat=n+1 by omega];exact hv⟩,by dsimp only;omega⟩
   ·have hle:=aGb e.gD n
    refine bJ.ret (sE.l (sE.l ?_))
    show p.length≤_
    omega
theorem aYm {l:List cJ} {n:Nat} (h:n<l.length):cJ.jF (l.take (n+1))=cJ.jF (l.take n)+(l.getD n default).sz:=by
 rw[gN default h,wZ];simp [cJ.jF]
theorem aTl (l:List cJ) (n:Nat):cJ.jF (l.take n)≤cJ.jF l:=by
 have:=wZ (l.take n) (l.drop n)
 rw[List.take_append_drop] at this;omega
theorem aU8 {l:List (List cJ)} {n:Nat} (h:n<l.length):cJ.lS (l.take (n+1))=cJ.lS (l.take n)+1+cJ.jF (l.getD n default):=by
 rw[gN default h,sH];simp [cJ.lS];omega
theorem aPG (l:List (List cJ)) (n:Nat):cJ.lS (l.take n)≤cJ.lS l:=by
 have:=sH (l.take n) (l.drop n)
 rw[List.take_append_drop] at this;omega
theorem aFc:∀ (K:Nat) (o:List cM) (l:List cJ),cJ.jF l≤6004→cJ.jF l+20000<K→o.length+cJ.jF l≤1000000→dG (yB K o l) (fun v=>v.length≤o.length+cJ.jF l)
 | 0,_,_,_,h,_=>by omega
 | K+1,o,l,h1,h2,h3=>by
   have hl:=aJu l
   refine dG.of ?_
   rw[yB]
   refine bJ.cN (fun v:List cM=>v.length≤o.length+cJ.jF l) (bJ.bL (bJ.dN ?_)) (fun v hv=>by refine bJ.ret (sE.l ?_);exact hv)
   refine bJ.loop (fun t:List cM × Int=>0≤t.2∧t.2≤l.length∧t.1.length≤o.length+cJ.jF (l.take t.2.toNat)) (fun t=>(l.length - t.2).toNat) ⟨by simp,by simp,by dsimp only;omega⟩ (by dsimp only;omega) ?_
   rintro ⟨p,t⟩ ⟨g1,g2,g3⟩
   dsimp only at g1 g2 g3 ⊢
   obtain ⟨n,rfl⟩:=aJ g1
   rw[Int.toNat_natCast] at g3
   simp (disch:=omega) only[wr,Int.ofNat_eq_natCast]
   refine bJ.bO (bJ.ite (fun e1=>?_) (fun e1=>?_))
   ·simp only[aB] at e1
    have hn:n<l.length:=by omega
    have hm:=aJt (eA (d:=default) hn)
    have s8:=aYm hn
    have hle:=aTl l (n+1)
    simp only[Int.toNat_natCast]
    have hsz:=(l.getD n default).szq
    have hxl:=oE (l.getD n default).cT
    have hbl:=aCF (l.getD n default).bX
    refine bJ.cN (fun v:List cM=>v.length≤o.length+cJ.jF (l.take (n+1))) (bJ.bL ?_) (fun v hv=>?_)
    ·refine bJ.cN (fun v:List cM=>v.length≤p.length+cM.jF (l.getD n default).cT) (bJ.bL (bJ.dN ?_)) (fun q hq=>?_)
     ·refine bJ.loop (fun t:List cM × Int=>0≤t.2∧t.2≤(l.getD n default).cT.length∧t.1.length≤p.length+cM.jF ((l.getD n default).cT.take t.2.toNat)) (fun t=>((l.getD n default).cT.length - t.2).toNat) ⟨by simp,by simp,by dsimp only;omega⟩ (by dsimp only;omega) ?_
      rintro ⟨p2,t2⟩ ⟨k1,k2,k3⟩
      dsimp only at k1 k2 k3 ⊢
      obtain ⟨m,rfl⟩:=aJ k1
      rw[Int.toNat_natCast] at k3
      refine bJ.bW (bV (by omega)) (bJ.cC ?_)
      simp (disch:=omega) only[wr,Int.ofNat_eq_natCast]
      refine bJ.bO (bJ.ite (fun e2=>?_) (fun e2=>?_))
      ·simp only[aB] at e2
       have hm2:m<(l.getD n default).cT.length:=by omega
       have hx:=p7 (eA (d:=default) hm2)
       have hxa:=aPF hm2
       have hxe:=aGb (l.getD n default).cT (m+1)
       refine bJ.cN (fun v:List cM=>v.length≤p.length+cM.jF ((l.getD n default).cT.take (m+1))) (bJ.bL (bJ.bW (bV (by omega)) (bJ.cC (bJ.bO (bJ.bW (bV (by omega)) (bJ.cC ?_)))))) (fun v hv=>?_)
       ·rw[Int.toNat_natCast]
        refine bJ.call (aFb K p2 _ (by omega) (by omega) (by omega) (by omega)) (fun v hv=>?_)
        refine bJ.ret (sE.r ?_)
        omega
       ·refine bJ.ret (sE.r ?_)
        exact ⟨⟨by dsimp only;omega,by dsimp only;omega,by dsimp only;rw[show ((m:Int)+1).toNat=m+1 by omega];exact hv⟩,by dsimp only;omega⟩
      ·have hxe:=aGb (l.getD n default).cT m
       refine bJ.ret (sE.l (sE.l ?_))
       show p2.length≤_
       omega
     ·refine bJ.cN (fun v:List cM=>v.length≤p.length+cM.jF (l.getD n default).cT+cJ.lS (l.getD n default).bX) (bJ.bL (bJ.dN ?_)) (fun v hv=>by refine bJ.ret (sE.r ?_);omega)
      refine bJ.loop (fun t:List cM × Int=>0≤t.2∧t.2≤(l.getD n default).bX.length∧t.1.length≤p.length+cM.jF (l.getD n default).cT+cJ.lS ((l.getD n default).bX.take t.2.toNat)) (fun t=>((l.getD n default).bX.length - t.2).toNat) ⟨by simp,by simp,by dsimp only;omega⟩ (by dsimp only;omega) ?_
      rintro ⟨p2,t2⟩ ⟨k1,k2,k3⟩
      dsimp only at k1 k2 k3 ⊢
      obtain ⟨m,rfl⟩:=aJ k1
      rw[Int.toNat_natCast] at k3
      refine bJ.bW (bV (by omega)) (bJ.cC ?_)
      simp (disch:=omega) only[wr,Int.ofNat_eq_natCast]
      refine bJ.bO (bJ.ite (fun e2=>?_) (fun e2=>?_))
      ·simp only[aB] at e2
       have hm2:m<(l.getD n default).bX.length:=by omega
       have hx:=aAI (eA (d:=default) hm2)
       have hxa:=aU8 hm2
       have hxe:=aPG (l.getD n default).bX (m+1)
       refine bJ.cN (fun v:List cM=>v.length≤p.length+cM.jF (l.getD n default).cT+cJ.lS ((l.getD n default).bX.take (m+1))) (bJ.bL (bJ.bW (bV (by omega)) (bJ.cC (bJ.bO (bJ.bW (bV (by omega)) (bJ.cC ?_)))))) (fun v hv=>?_)
       ·rw[Int.toNat_natCast]
        refine bJ.call (aFc K p2 _ (by omega) (by omega) (by omega)) (fun v hv=>?_)
        refine bJ.ret (sE.r ?_)
        omega
       ·refine bJ.ret (sE.r ?_)
        exact ⟨⟨by dsimp only;omega,by dsimp only;omega,by dsimp only;rw[show ((m:Int)+1).toNat=m+1 by omega];exact hv⟩,by dsimp only;omega⟩
      ·have hxe:=aPG (l.getD n default).bX m
       refine bJ.ret (sE.l (sE.l ?_))
       show p2.length≤_
       omega
    ·refine bJ.ret (sE.r ?_)
     exact ⟨⟨by dsimp only;omega,by dsimp only;omega,by dsimp only;rw[show ((n:Int)+1).toNat=n+1 by omega];exact hv⟩,by dsimp only;omega⟩
   ·have hle:=aTl l n
    refine bJ.ret (sE.l (sE.l ?_))
    show p.length≤_
    omega
theorem aPH {K:Nat} {l:List cJ} (hK:100000<K) (hl:cJ.jF l≤6004):dG (aOc K l) (fun v=>v.length≤6004):=by
 have e:aOc K l=yB (K+1) [] l:=by rw[yB];rfl
 rw[e]
 refine (aFc (K+1) [] l hl (by omega) (by simp;omega)).aAH (fun v hv=>?_)
 simp at hv;omega
end Go.Proofs.YtdbfbedholdjaaaGreat

namespace Go.Proofs.YtdbfbedholdjaaaGreat
open Go Go.Dl
variable [eC]
set_option maxRecDepth 100000
set_option maxHeartbeats 8000000
theorem aPI {K:Nat} {l:List dX} {w:dX} (hK:1000000<K) (hl:l.length≤100000):dG (aMd K l w) (fun v=>v.length≤l.length+1):=by
 refine dG.of ?_
 unfold aMd
 refine bJ.cN (fun i:Int=>0≤i∧i≤l.length) (bJ.bL (bJ.dN ?_)) (fun i hi=>?_)
 ·refine bJ.loop (fun t:Int=>0≤t∧t≤l.length) (fun t=>(l.length - t).toNat) ⟨by omega,by omega⟩ (by omega) (fun t ⟨g1,g2⟩=>?_)
  simp (disch:=omega) only[wr,Int.ofNat_eq_natCast]
  refine bJ.bW ?_ (bJ.cC (bJ.bO ?_))
  ·by_cases q:t<l.length
   ·rw[bV ⟨g1,q⟩];simp
   ·rw[decide_eq_false q];rfl
  refine bJ.cF (fun _=>aPC) (fun v _=>?_)
  refine bJ.ite (fun e=>?_) (fun e=>?_)
  ·simp only[aC,aB] at e
   refine bJ.bM (bJ.bL (bJ.ret (sE.r (bJ.ret (sE.r ?_)))))
   exact ⟨⟨by omega,by omega⟩,by omega⟩
  ·refine bJ.ret (sE.l (sE.l ?_))
   exact ⟨by omega,by omega⟩
 ·refine bJ.bW ?_ (bJ.cC (bJ.bO (bJ.bO (bJ.ite (fun e=>?_) (fun e=>?_)))))
  ·by_cases q:i<Int.ofNat l.length
   ·rw[bV ⟨hi.1,q⟩];simp
   ·rw[decide_eq_false q];rfl
  ·refine bJ.ret (sE.l ?_);omega
  ·refine bJ.bW ?_ (bJ.bW ?_ (bJ.cC (bJ.bO (bJ.bO ?_))))
   ·simp only[c9,aC,aB];omega
   ·simp only[c9,aC,aB,Int.ofNat_eq_natCast];omega
   have h1:((l.drop (0:Int).toNat).take (i.toNat - (0:Int).toNat)).length≤l.length:=by
    rw[aR,bI];omega
   have h2:((l.drop i.toNat).take ((Int.ofNat l.length).toNat - i.toNat)).length+((l.drop (0:Int).toNat).take (i.toNat - (0:Int).toNat)).length≤l.length:=by
    simp only[aR,bI,Int.ofNat_eq_natCast,Int.toNat_natCast];simp;omega
   refine bJ.bW (eB (by omega)) (bJ.cC (bJ.bW (eB ?_) (bJ.cC (bJ.bW (eB ?_) (bJ.cC ?_)))))
   ·simp only[List.length_singleton];omega
   ·rw[aE];simp only[List.length_singleton];omega
   ·refine bJ.ret (sE.l ?_)
    rw[aE,aE];simp only[List.length_singleton];omega
theorem Wf.len {u:dD} (hw:Wf u):u.bK.length≤12:=by
 by_cases h:u.bK.length≤12
 ·exact h
 ·have:=(hw 12 ⟨by omega,by omega⟩).lim
  omega
theorem aR6 {K:Nat} {u:dD} (hK:1000000<K) (hw:Wf u):dG (F78 K u) (fun v=>v.length≤100∧∀ w∈v,0≤w.dA∧w.dA<u.bK.length):=by
 have hl:=hw.len
 refine dG.of ?_
 unfold F78
 refine bJ.cN (fun v:List dX=>v.length≤100∧∀ w∈v,0≤w.dA∧w.dA<u.bK.length) (bJ.bL (bJ.dN ?_)) (fun v hv=>by refine bJ.ret (sE.l ?_);exact hv)
 refine bJ.loop (fun t:List dX × Int=>0≤t.2∧t.2≤u.bK.length∧(t.1.length:Int)≤7 * t.2∧∀ w∈t.1,0≤w.dA∧w.dA<u.bK.length) (fun t=>(u.bK.length - t.2).toNat) ⟨by simp,by simp,by simp,fun w hw=>by cases hw⟩ (by dsimp only;omega) ?_
 rintro ⟨o,t⟩ ⟨g1,g2,g3,g4⟩
 dsimp only at g1 g2 g3 g4 ⊢
 simp (disch:=omega) only[wr,Int.ofNat_eq_natCast]
 refine bJ.bO (bJ.ite (fun e1=>?_) (fun e1=>?_))
 ·simp only[aB] at e1
  have hm:=(hw t ⟨g1,e1⟩).sz.m
  refine bJ.cN (fun v:List dX=>(v.length:Int)≤7 * t+7∧∀ w∈v,0≤w.dA∧w.dA<u.bK.length) (bJ.bL (bJ.bW (bV ⟨g1,e1⟩) (bJ.cC (bJ.bO ?_)))) (fun v hv=>by refine bJ.ret (sE.r ?_);exact ⟨⟨by dsimp only;omega,by dsimp only;omega,by dsimp only;omega,hv.2⟩,by dsimp only;omega⟩)
  refine bJ.cN (fun v:List dX=>(v.length:Int)≤7 * t+1∧∀ w∈v,0≤w.dA∧w.dA<u.bK.length) ?_ (fun o2 ho2=>?_)
  ·refine bJ.ite (fun e2=>bJ.bW (eB ?_) (bJ.cC ?_)) (fun e2=>?_)
   ·show (o.length+1) * 16≤_
    omega
   ·refine bJ.ret (sE.r ?_)
    refine ⟨by rw[aE,List.length_singleton];omega,fun w hw=>?_⟩
    rcases bG.1 hw with hw | hw
    ·exact g4 w hw
    ·rw[aQ.1 hw];exact ⟨g1,e1⟩
   ·refine bJ.ret (sE.r ?_)
    exact ⟨by omega,g4⟩
  ·refine bJ.cN (fun v:List dX=>(v.length:Int)≤7 * t+7∧∀ w∈v,0≤w.dA∧w.dA<u.bK.length) (bJ.bL (bJ.dN ?_)) (fun v hv=>by refine bJ.ret (sE.r ?_);exact hv)
   refine bJ.loop (fun s:List dX × Int=>0≤s.2∧s.2≤(dc u t).bN.length∧(s.1.length:Int)≤7 * t+1+s.2∧∀ w∈s.1,0≤w.dA∧w.dA<u.bK.length) (fun s=>((dc u t).bN.length - s.2).toNat) ⟨by simp,by simp,by dsimp only;omega,ho2.2⟩ (by dsimp only;omega) ?_
   rintro ⟨o3,i⟩ ⟨k1,k2,k3,k4⟩
   dsimp only at k1 k2 k3 k4 ⊢
   refine bJ.bW (bV ⟨g1,e1⟩) (bJ.bW (by rw[bV ⟨g1,e1⟩];simp) (bJ.cC (bJ.bO (bJ.ite (fun e3=>?_) (fun e3=>?_)))))
   ·simp only[aC,aB,Int.ofNat_eq_natCast] at e3
    have hi:i<(dc u t).bN.length:=e3.1
    simp (disch:=omega) only[wr,Int.ofNat_eq_natCast]
    refine bJ.cN (fun v:List dX=>(v.length:Int)≤7 * t+2+i∧∀ w∈v,0≤w.dA∧w.dA<u.bK.length) (bJ.bL (bJ.bW (eB ?_) (bJ.cC ?_))) (fun v hv=>by refine bJ.ret (sE.r ?_);exact ⟨⟨by dsimp only;omega,by dsimp only;omega,by dsimp only;omega,hv.2⟩,by dsimp only;omega⟩)
    ·show (o3.length+1) * 16≤_
     omega
    ·refine bJ.ret (sE.r ?_)
     refine ⟨by rw[aE,List.length_singleton];omega,fun w hw=>?_⟩
     rcases bG.1 hw with hw | hw
     ·exact k4 w hw
     ·rw[aQ.1 hw];exact ⟨g1,e1⟩
   ·refine bJ.ret (sE.l (sE.l ?_))
    exact ⟨by show (o3.length:Int)≤_;omega,k4⟩
 ·refine bJ.ret (sE.l (sE.l ?_))
  exact ⟨by show o.length≤_;omega,g4⟩
def aBr:List Bool→Nat
 | []=>0
 | b::r=>(if b then 0 else 1)+aBr r
theorem aHP:∀ {l:List Bool} {i:Nat},i<l.length→l.getD i default=false→aBr (l.set i true)+1=aBr l
 | b::r,0,_,h=>by
   simp at h;subst h;simp [aBr];omega
 | b::r,i+1,h1,h2=>by
   simp only[List.length_cons] at h1
   have:=aHP (l:=r) (i:=i) (by omega) (by simpa using h2)
   rw[List.set_cons_succ,aBr,aBr];omega
theorem aEb:∀ n,aBr (List.replicate n false)=n
 | 0=>rfl
 | n+1=>by rw[List.replicate_succ,aBr,aEb n];simp;omega
theorem aR7 {K:Nat} {l:List (List Int)} {d:Int} (hK:100000000<K) (hl:l.length≤100) (hr:∀ r∈l,r.length≤100000∧∀ x∈r,-1≤x∧x<l.length) (hd:0≤d∧d<l.length):dG (F80 K l d) (fun v=>v.length=l.length):=by
 have s8:∀ {x:Int},0≤x→x<l.length→(l.getD x.toNat default).length≤100000∧∀ y∈l.getD x.toNat default,-1≤y∧y<l.length:=fun {x} h1 h2=>hr _ (eA (d:=default) (by omega))
 refine dG.of ?_
 unfold F80
 have h0:=s8 hd.1 hd.2
 refine bJ.bW (by simp) (bJ.bW (eB ?_) (bJ.cC (bJ.bW (bV hd) (bJ.cC (bJ.bW (eB ?_) (bJ.cC ?_))))))
 ·simp only[Int.ofNat_eq_natCast,Int.toNat_natCast];omega
 ·omega
 refine bJ.cN (fun v:List Bool=>v.length=l.length) (bJ.bL (bJ.dN ?_)) (fun v hv=>by refine bJ.ret (sE.l ?_);exact hv)
 refine bJ.loop (fun t:List Bool × List Int × Int=>t.1.length=l.length∧0≤t.2.2∧t.2.2≤t.2.1.length∧t.2.1.length+100000 * aBr t.1≤20000000∧∀ y∈t.2.1,-1≤y∧y<l.length) (fun t=>(t.2.1.length+100000 * aBr t.1 - t.2.2).toNat) ⟨by simp,by simp,by simp,?_,h0.2⟩ ?_ ?_
 ·dsimp only
  simp only[Int.ofNat_eq_natCast,Int.toNat_natCast]
  rw[show (default:Bool)=false from rfl,aEb];omega
 ·dsimp only
  simp only[Int.ofNat_eq_natCast,Int.toNat_natCast]
  rw[show (default:Bool)=false from rfl,aEb];omega
 rintro ⟨seen,todo,i⟩ ⟨g1,g2,g3,g4,g5⟩
 dsimp only at g1 g2 g3 g4 g5 ⊢
 simp (disch:=omega) only[wr,Int.ofNat_eq_natCast]
 refine bJ.bO (bJ.ite (fun e1=>?_) (fun e1=>by refine bJ.ret (sE.l (sE.l ?_));exact g1))
 simp only[aB] at e1
 have hy:=g5 _ (eA (d:=default) (show i.toNat<todo.length by omega))
 generalize todo.getD i.toNat default=y at hy
 refine bJ.cN (fun t:List Bool × List Int=>t.1.length=l.length∧todo.length≤t.2.length∧t.2.length+100000 * aBr t.1≤todo.length+100000 * aBr seen∧∀ y∈t.2,-1≤y∧y<l.length) (bJ.bL (bJ.bW (bV ⟨g2,e1⟩) (bJ.bW (by rw[bV ⟨g2,e1⟩];simp) (bJ.bW ?_ (bJ.cC (bJ.bO (bJ.ite (fun e2=>?_) (fun e2=>?_)))))))) ?_
 ·by_cases q:y<0
  ·rw[decide_eq_true q];rfl
  ·rw[bV (by omega)];simp
 ·refine bJ.ret (sE.l (sE.l ?_))
  exact ⟨g1,aO _,aO _,g5⟩
 ·simp only[aM,not_or,aB,Bool.not_eq_true] at e2
  obtain ⟨e2,e3⟩:=e2
  have hy0:0≤y:=by omega
  have h2:=s8 hy0 hy.2
  have hu:=aHP (l:=seen) (i:=y.toNat) (by omega) e3
  refine bJ.bW (bV ⟨g2,e1⟩) (bJ.bW (bV (by omega)) (bJ.cC (bJ.bW (bV ⟨g2,e1⟩) (bJ.bW (bV (by omega)) (bJ.cC (bJ.bO (bJ.bW (eB ?_) (bJ.cC ?_))))))))
  ·omega
  ·refine bJ.ret (sE.r ?_)
   refine ⟨by rw[List.length_set];exact g1,?_,?_,fun z hz=>?_⟩
   ·rw[aE];omega
   ·show (todo++_).length+100000 * aBr (seen.set y.toNat true)≤_
    rw[aE];omega
   ·rcases bG.1 hz with hz | hz
    ·exact g5 z hz
    ·exact h2.2 z hz
 ·rintro ⟨a,b⟩ ⟨q1,q2,q3,q4⟩
  dsimp only at q1 q2 q3 q4 ⊢
  refine bJ.ret (sE.r ?_)
  exact ⟨⟨q1,by dsimp only;omega,by dsimp only;omega,by dsimp only;omega,q4⟩,by dsimp only;omega⟩
theorem aPJ {K:Nat} {u:dD} {w:dX} (hK:101000000<K) (h:Sm u) (hw:Wf u):dG (aOy K u w) (fun v=>v.length≤80000):=by
 have hul:=hw.len
 refine dG.of ?_
 unfold aOy
 refine bJ.call (aPE h) (fun r1 hr1=>?_)
 refine bJ.call (aPH (by omega) hr1) (fun r2 vH=>?_)
 refine bJ.cN (fun v:List dX=>v.length≤80000) (bJ.bL (bJ.dN ?_)) (fun v hv=>by refine bJ.ret (sE.l ?_);exact hv)
 refine bJ.loop (fun t:List dX × Int=>0≤t.2∧t.2≤r2.length∧(t.1.length:Int)≤12 * t.2) (fun t=>(r2.length - t.2).toNat) ⟨by simp,by simp,by simp⟩ (by dsimp only;omega) ?_
 rintro ⟨o,t⟩ ⟨g1,g2,g3⟩
 dsimp only at g1 g2 g3 ⊢
 simp (disch:=omega) only[wr,Int.ofNat_eq_natCast]
 refine bJ.bO (bJ.ite (fun e1=>?_) (fun e1=>by refine bJ.ret (sE.l (sE.l ?_));show o.length≤80000;omega))
 simp only[aB] at e1
 generalize r2.getD t.toNat default=e
 refine bJ.cN (fun v:List dX=>(v.length:Int)≤12 * t+12) (bJ.bL (bJ.bW (bV ⟨g1,e1⟩) (bJ.cC ?_))) (fun v hv=>by refine bJ.ret (sE.r ?_);exact ⟨⟨by dsimp only;omega,by dsimp only;omega,by dsimp only;omega⟩,by dsimp only;omega⟩)
 refine bJ.dB (by decide) (aHQ (by omega) h) (fun r hr=>?_)
 refine bJ.ite (fun e2=>by refine bJ.ret (sE.l (sE.l ?_));show (o.length:Int)≤_;omega) (fun e2=>?_)
 have hr:=hr (by simpa using e2)
 refine bJ.cN (fun v:List dX=>(v.length:Int)≤12 * t+12) (bJ.bL (bJ.dN ?_)) (fun v hv=>by refine bJ.ret (sE.r ?_);exact hv)
 refine bJ.loop (fun s:List dX × Int=>0≤s.2∧s.2≤u.bK.length∧(s.1.length:Int)≤12 * t+s.2) (fun s=>(u.bK.length - s.2).toNat) ⟨by simp,by simp,by dsimp only;omega⟩ (by dsimp only;omega) ?_
 rintro ⟨p,i⟩ ⟨k1,k2,k3⟩
 dsimp only at k1 k2 k3 ⊢
 simp (disch:=omega) only[wr,Int.ofNat_eq_natCast]
 refine bJ.bO (bJ.ite (fun e3=>?_) (fun e3=>by refine bJ.ret (sE.l (sE.l ?_));show (p.length:Int)≤_;omega))
 simp only[aB] at e3
 refine bJ.cN (fun v:List dX=>(v.length:Int)≤12 * t+i+1) (bJ.bL (bJ.bW (bV ⟨g1,e1⟩) (bJ.cC (bJ.bO (bJ.bW (by rw[bV ⟨g1,e1⟩];simp) (bJ.bW (by rw[bV ⟨k1,e3⟩];simp) (bJ.bW (by rw[bV ⟨k1,e3⟩];simp) (bJ.bW (by rw[bV hr];simp) (bJ.cC ?_))))))))) (fun v hv=>by refine bJ.ret (sE.r ?_);exact ⟨⟨by dsimp only;omega,by dsimp only;omega,by dsimp only;omega⟩,by dsimp only;omega⟩)
 refine bJ.cF (fun _=>aHR (by omega) h) (fun _ _=>bJ.bO (bJ.ite (fun e4=>by refine bJ.ret (sE.l (sE.l ?_));show (p.length:Int)≤_;omega) (fun e4=>?_)))
 refine bJ.bW (bV ⟨g1,e1⟩) (bJ.cC ?_)
 refine bJ.jV (wY (by omega) (by assumption)) ?_
 refine bJ.cF (fun e5=>aAL (aBq e5).1) (fun m _=>?_)
 refine bJ.ite (fun e6=>?_) (fun e6=>by refine bJ.ret (sE.r ?_);show (p.length:Int)≤_;omega)
 refine bJ.call (aPI (by omega) (by omega)) (fun v hv=>?_)
 refine bJ.ret (sE.r ?_)
 show (v.length:Int)≤_
 omega
theorem aR8 {K:Nat} {u:dD} {l:List dX} (hK:101000000<K) (h:Sm u) (hw:Wf u) (hl:l.length≤100):dG (F79 K u l) (fun v=>v.length=l.length∧∀ r∈v,r.length≤100000∧∀ x∈r,-1≤x∧x<l.length):=by
 refine dG.of ?_
 unfold F79
 refine bJ.cN (fun v:List (List Int)=>v.length=l.length∧∀ r∈v,r.length≤100000∧∀ x∈r,-1≤x∧x<l.length) (bJ.bL (bJ.dN ?_)) (fun v hv=>by refine bJ.ret (sE.l ?_);exact hv)
 refine bJ.loop (fun t:List (List Int) × Int=>0≤t.2∧t.2≤l.length∧(t.1.length:Int)=t.2∧∀ r∈t.1,r.length≤100000∧∀ x∈r,-1≤x∧x<l.length) (fun t=>(l.length - t.2).toNat) ⟨by simp,by simp,by simp,fun r hr=>by cases hr⟩ (by dsimp only;omega) ?_
 rintro ⟨o,t⟩ ⟨g1,g2,g3,g4⟩
 dsimp only at g1 g2 g3 g4 ⊢
 simp (disch:=omega) only[wr,Int.ofNat_eq_natCast]
 refine bJ.bO (bJ.ite (fun e1=>?_) (fun e1=>?_))
 ·simp only[aB] at e1
  refine bJ.cN (fun v:List (List Int)=>(v.length:Int)=t+1∧∀ r∈v,r.length≤100000∧∀ x∈r,-1≤x∧x<l.length) (bJ.bL (bJ.bW (bV ⟨g1,e1⟩) (bJ.cC ?_))) (fun v hv=>by refine bJ.ret (sE.r ?_);exact ⟨⟨by dsimp only;omega,by dsimp only;omega,hv.1,hv.2⟩,by dsimp only;omega⟩)
  refine bJ.call (aPJ hK h hw) (fun r hr=>?_)
  refine bJ.cN (fun v:List Int=>v.length≤100000∧∀ x∈v,-1≤x∧x<l.length) (bJ.bL (bJ.dN ?_)) (fun v hv=>?_)
  ·refine bJ.loop (fun s:List Int × Int=>0≤s.2∧s.2≤r.length∧(s.1.length:Int)=s.2∧∀ x∈s.1,-1≤x∧x<l.length) (fun s=>(r.length - s.2).toNat) ⟨by simp,by simp,by simp,fun r hr=>by cases hr⟩ (by dsimp only;omega) ?_
   rintro ⟨p,i⟩ ⟨k1,k2,k3,k4⟩
   dsimp only at k1 k2 k3 k4 ⊢
   simp (disch:=omega) only[wr,Int.ofNat_eq_natCast]
   refine bJ.bO (bJ.ite (fun e3=>?_) (fun e3=>by refine bJ.ret (sE.l (sE.l ?_));exact ⟨by show p.length≤_;omega,k4⟩))
   simp only[aB] at e3
   refine bJ.cN (fun v:List Int=>(v.length:Int)=i+1∧∀ x∈v,-1≤x∧x<l.length) (bJ.bL (bJ.bW (bV ⟨k1,e3⟩) (bJ.cC ?_))) (fun v hv=>by refine bJ.ret (sE.r ?_);exact ⟨⟨by dsimp only;omega,by dsimp only;omega,hv.1,hv.2⟩,by dsimp only;omega⟩)
   refine bJ.call (aPD (by omega) (by omega)) (fun n hn=>?_)
   refine bJ.bW (eB ?_) (bJ.cC ?_)
   ·simp only[List.length_singleton];omega
   ·refine bJ.ret (sE.r ?_)
    refine ⟨by rw[aE,List.length_singleton];omega,fun x hx=>?_⟩
    rcases bG.1 hx with hx | hx
    ·exact k4 x hx
    ·rw[aQ.1 hx];exact hn
  ·refine bJ.bW (eB ?_) (bJ.cC ?_)
   ·simp only[List.length_singleton];omega
   ·refine bJ.ret (sE.r ?_)
    refine ⟨by rw[aE,List.length_singleton];omega,fun x hx=>?_⟩
    rcases bG.1 hx with hx | hx
    ·exact g4 x hx
    ·rw[aQ.1 hx];exact hv
 ·simp only[aB] at e1
  refine bJ.ret (sE.l (sE.l ?_))
  exact ⟨by show o.length=_;omega,g4⟩
theorem aR9 {K:Nat} {u:dD} (hK:101000000<K) (h:Sm u) (hw:Wf u):dG (F35 K u) (fun v=>v<u.bK.length):=by
 refine dG.of ?_
 unfold F35
 refine bJ.call (aR6 (by omega) hw) (fun r1 hr1=>?_)
 refine bJ.call (aR8 hK h hw hr1.1) (fun r2 vH=>?_)
 refine bJ.eE (bJ.bL (bJ.dN ?_)) (fun _=>by refine bJ.ret (sE.l ?_);omega)
 have hl:=hr1.1
 refine bJ.mA r1.length (by omega) (fun i hi=>?_) ?_
 ·simp (disch:=omega) only[wr,Int.ofNat_eq_natCast]
  refine bJ.bO (bJ.eX (by simp only[aB];omega) ?_)
  refine bJ.eE (bJ.bL ?_) (fun _=>by refine bJ.ret (sE.r ?_);rfl)
  have h2:=vH.1
  refine bJ.call (aR7 (by omega) (by omega) (by rw[h2];exact vH.2) (by omega)) (fun v hv=>?_)
  refine bJ.bW (bV (by omega)) (bJ.cC (bJ.ite (fun e=>bJ.bW (bV (by omega)) (bJ.cC ?_)) (fun e=>by exact T0)))
  refine bJ.ret (sE.l (sE.r (sE.r ?_)))
  rw[Int.toNat_natCast]
  exact (hr1.2 _ (eA hi)).2
 ·simp (disch:=omega) only[wr,Int.ofNat_eq_natCast]
  refine bJ.bO (bJ.fC (by simp only[aB];exact Int.lt_irrefl _) ?_)
  exact T0
end Go.Proofs.YtdbfbedholdjaaaGreat

namespace Go.Proofs.YtdbfbedholdjaaaGreat
open Go Go.Dl
variable [eC]
set_option maxRecDepth 100000
set_option maxHeartbeats 8000000
def Nm (u:dD):Prop:=∀ d∈u.bK,d.bP=2→d.cG≠[]
theorem aU9 {K:Nat} {s:Bytes} (hK:101000000<K):dG (F8 K s) (fun v=>v.2=[]→Sm v.1∧Wf v.1∧Nm v.1):=by
 refine dG.of ?_
 unfold F8
 refine bJ.call (aSa (by omega)) (fun r1 hr1=>?_)
 refine bJ.ite (fun e=>?_) (fun e=>?_)
 ·refine bJ.ret (sE.l ?_)
  intro q;cases q
 have hr:=hr1 (by simpa using e)
 have h:Sm r1.1:=⟨hr.1⟩
 refine bJ.call (aR5 hK h) (fun r2 vH=>?_)
 refine bJ.cN (fun v:List oC=>(v=[]→Wf r1.1)∧v.length≤6004∧∀ w∈v,0≤w.zF∧w.zF<r1.1.bK.length) ?_ (fun v hv=>?_)
 ·refine bJ.ite (fun e2=>?_) (fun e2=>by refine bJ.ret (sE.r ?_);exact vH)
  have hn:r2=[]:=by
   simp only[beq_iff_eq,Int.ofNat_eq_natCast] at e2
   exact List.length_eq_zero_iff.1 (by omega)
  refine bJ.call (aR9 hK h (vH.1 hn)) (fun r5 h5=>?_)
  refine bJ.ite (fun e3=>?_) (fun e3=>by refine bJ.ret (sE.r ?_);exact vH)
  simp only[aB] at e3
  refine bJ.ret (sE.r ?_)
  refine ⟨fun q=>(by cases q),(by simp),fun w hw=>?_⟩
  rw[aQ.1 hw];exact ⟨e3,h5⟩
 refine bJ.ite (fun e2=>?_) (fun e2=>?_)
 ·have hn:v=[]:=by
   simp only[beq_iff_eq,Int.ofNat_eq_natCast] at e2
   exact List.length_eq_zero_iff.1 (by omega)
  refine bJ.ret (sE.l ?_)
  exact fun _=>⟨h,hv.1 hn,hr.2.2⟩
 have h6:=hv.2.1
 have hne:v.length≠0:=by
  simp only[beq_iff_eq,Int.ofNat_eq_natCast] at e2;omega
 refine bJ.cN (fun o:List oC=>o.length=v.length) (bJ.bL (bJ.dN ?_)) (fun o ho=>?_)
 ·refine bJ.loop (fun t:List oC × Int=>0≤t.2∧t.2≤v.length∧(t.1.length:Int)=t.2) (fun t=>(v.length - t.2).toNat) ⟨by simp,by simp,by simp⟩ (by dsimp only;omega) ?_
  rintro ⟨o,t⟩ ⟨g1,g2,g3⟩
  dsimp only at g1 g2 g3 ⊢
  simp (disch:=omega) only[wr,Int.ofNat_eq_natCast]
  refine bJ.bO (bJ.ite (fun e1=>?_) (fun e1=>?_))
  ·simp only[aB] at e1
   have hw:=hv.2.2 _ (eA (d:=default) (show t.toNat<v.length by omega))
   refine bJ.cN (fun o:List oC=>(o.length:Int)=t+1) (bJ.bL (bJ.bW (bV ⟨g1,e1⟩) (bJ.bW (bV ⟨g1,e1⟩) (bJ.cC (bJ.bW (bV (by rw[hr.2.1];exact hw)) (bJ.cC (bJ.bW (eB ?_) (bJ.cC ?_)))))))) (fun o ho=>by refine bJ.ret (sE.r ?_);exact ⟨⟨by dsimp only;omega,by dsimp only;omega,ho⟩,by dsimp only;omega⟩)
   ·simp only[List.length_singleton];omega
   ·refine bJ.ret (sE.r ?_)
    rw[aE,List.length_singleton];omega
  ·simp only[aB] at e1
   refine bJ.ret (sE.l (sE.l ?_))
   show o.length=v.length
   omega
 ·refine bJ.ret (sE.l ?_)
  intro q
  have q:o=[]:=q
  rw[q] at ho
  exact absurd ho.symm hne
end Go.Proofs.YtdbfbedholdjaaaGreat

namespace Go.Proofs.YtdbfbedholdjaaaGreat
open Go Go.Dl
variable [eC]
set_option maxRecDepth 100000
set_option maxHeartbeats 8000000
theorem bJ.upI {A:Type} {K:Nat} {f:Int→Option (A ⊕ Int)} {p:A→Prop} (n:Nat) (P:Nat→Prop) (hK:n<K) (hs:∀ i:Nat,i<n→(∀ j,j<i→P j)→bJ (f i) (sE p (fun t=>t=(i:Int)+1∧P i))) (he:(∀ i,i<n→P i)→bJ (f n) (sE p (fun _=>False))):bJ (iter K f 0) p:=by
 refine bJ.loop (fun t=>∃ i:Nat,t=i∧i≤n∧∀ j,j<i→P j) (fun t=>n - t.toNat) ⟨0,rfl,by omega,by simp⟩ (by simpa using hK) ?_
 rintro t ⟨i,rfl,hi,hP⟩
 by_cases h:i=n
 ·subst h
  refine (he hP).aAH ?_
  rintro (a | t) h
  ·exact h
  ·exact h.elim
 ·refine (hs i (by omega) hP).aAH ?_
  rintro (a | t) h
  ·exact h
  ·obtain ⟨h1,h2⟩:=h
   subst h1
   refine ⟨⟨i+1,by omega,by omega,fun j hj=>?_⟩,?_⟩
   ·by_cases h:j=i
    ·subst h;exact h2
    ·exact hP j (by omega)
   ·omega
theorem aSb {K:Nat} {d:jX} {s:Bytes}:dG (F92 K d s) (fun v=>v=(d.cG == s)):=⟨_,rfl,rfl⟩
theorem aPK {K:Nat} {d:iI} {s:Bytes}:dG (aRm K d s) (fun v=>v=(d.cG == s)):=⟨_,rfl,rfl⟩
theorem aJz {K:Nat} {l:List jX} {s:Bytes} (hK:100000<K) (hl:l.length≤6004):dG (aDQ K l s) (fun v=>v=ix (fun d:jX=>d.cG == s) l):=by
 refine dG.of ?_
 unfold aDQ
 refine bJ.cN (fun _=>ix (fun d:jX=>d.cG == s) l = -1) (bJ.bL (bJ.dN ?_)) (fun _ h=>by refine bJ.ret (sE.l ?_);exact h.symm)
 refine bJ.upI l.length (fun i=>((l.getD i default).cG == s)=false) (by omega) (fun i hi hb=>?_) (fun hb=>?_)
 ·simp (disch:=omega) only[wr,Int.ofNat_eq_natCast]
  refine bJ.bO (bJ.eX (by simp only[aB];omega) ?_)
  rw[Int.toNat_natCast]
  refine bJ.cN (fun _=>((l.getD i default).cG == s)=false) (bJ.bL (bJ.bW (bV (by omega)) (bJ.cC (bJ.call aSb ?_)))) (fun _ h=>by refine bJ.ret (sE.r ?_);exact ⟨rfl,h⟩)
  rintro _ rfl
  refine bJ.ite (fun e=>?_) (fun e=>by refine bJ.ret (sE.r ?_);simpa using e)
  refine bJ.ret (sE.l (sE.r (sE.r ?_)))
  exact (aK2 (z:=default) hi hb e).symm
 ·simp (disch:=omega) only[wr,Int.ofNat_eq_natCast]
  refine bJ.bO (bJ.fC (by simp only[aB];exact Int.lt_irrefl _) ?_)
  refine bJ.ret (sE.l (sE.l ?_))
  exact aK3 (z:=default) hb
theorem aCG {K:Nat} {u:dD} {s:Bytes} (hK:100000<K) (h:Sm u):dG (F42 K u s) (fun v=>v=fnd u s):=by
 refine dG.of ?_
 unfold F42
 refine bJ.call (aJz hK h.len) ?_
 rintro _ rfl
 refine bJ.ret (sE.l ?_)
 rfl
theorem aSc {K:Nat} {l:List Int} {x:Int} (hK:100000<K) (hl:l.length≤20000):dG (F93 K l x) (fun v=>decide (v ≥ 0)=l.contains x):=by
 refine dG.of ?_
 unfold F93
 refine bJ.cN (fun _=>l.contains x=false) (bJ.bL (bJ.dN ?_)) (fun _ h=>by refine bJ.ret (sE.l ?_);rw[h];decide)
 refine bJ.upI l.length (fun i=>l.getD i default≠x) (by omega) (fun i hi hb=>?_) (fun hb=>?_)
 ·simp (disch:=omega) only[wr,Int.ofNat_eq_natCast]
  refine bJ.bO (bJ.eX (by simp only[aB];omega) ?_)
  rw[Int.toNat_natCast]
  refine bJ.cN (fun _=>l.getD i default≠x) (bJ.bL (bJ.bW (bV (by omega)) (bJ.cC (bJ.bO (bJ.ite (fun e=>?_) (fun e=>?_)))))) (fun _ h=>by refine bJ.ret (sE.r ?_);exact ⟨rfl,h⟩)
  ·refine bJ.ret (sE.l (sE.r (sE.r ?_)))
   rw[List.contains_iff_mem.2 (beq_iff_eq.1 e ▸ eA hi)]
   exact decide_eq_true (by omega)
  ·refine bJ.ret (sE.r ?_)
   exact fun q=>e (beq_iff_eq.2 q.symm)
 ·simp (disch:=omega) only[wr,Int.ofNat_eq_natCast]
  refine bJ.bO (bJ.fC (by simp only[aB];exact Int.lt_irrefl _) ?_)
  refine bJ.ret (sE.l (sE.l ?_))
  rw[← Bool.not_eq_true]
  intro hc
  obtain ⟨i,hi,rfl⟩:=List.getElem_of_mem (List.contains_iff_mem.1 hc)
  refine hb i hi ?_
  rw[List.getD,aD hi];rfl
theorem aK4 {K:Nat} {l:List Int} {x:Int} (hK:100000<K) (hl:l.length≤20000):dG (F46 K l x) (fun v=>v=l.contains x):=by
 refine dG.of ?_
 unfold F46
 refine bJ.call (aSc hK hl) (fun v hv=>?_)
 refine bJ.ret (sE.l ?_)
 exact hv
theorem aCH {K:Nat} {u:dD} {d:Int}:dG (F45 K u d) (fun v=>v=kd u d):=by
 refine dG.of ?_
 unfold F45 kd
 refine bJ.bO (bJ.ite (fun e=>?_) (fun e=>?_))
 ·simp only[aM,aB,Int.ofNat_eq_natCast] at e
  refine bJ.ret (sE.l ?_)
  rw[aH e]
 ·simp only[aM,aB,Int.ofNat_eq_natCast] at e
  refine bJ.bW (bV (by omega)) ?_
  refine bJ.cC (bJ.bO (bJ.ret (sE.l ?_)))
  rw[aG e]
theorem aAM {K:Nat} {u:dD} {d:Int} (hK:100000<K) (h:Sm u):dG (F10 K u d) (fun v=>v=chain u d):=by
 have hl:=h.len
 refine dG.of ?_
 unfold F10
 refine bJ.cN (fun v=>v=chain u d) (bJ.bL (bJ.dN ?_)) (fun v hv=>by refine bJ.ret (sE.l ?_);exact hv)
 refine bJ.loop (fun t:Int × List Int=>t.2.length+unv u.bK.length t.2=u.bK.length∧∃ n,unv u.bK.length t.2<n∧chF u n t.2 t.1=chain u d) (fun t=>unv u.bK.length t.2) ⟨by rw[p8];simp,u.bK.length+1,by rw[p8];simp,rfl⟩ (by show unv _ []<K;rw[p8];omega) ?_
 rintro ⟨e,out⟩ ⟨h1,n,h2,h3⟩
 dsimp only at h1 h2 h3 ⊢
 obtain ⟨n,rfl⟩:∃ m,n=m+1:=⟨n - 1,by omega⟩
 rw[chF] at h3
 refine bJ.call aCH ?_
 rintro _ rfl
 refine bJ.cF (fun _=>aK4 (by omega) (by omega)) (fun v hv=>?_)
 refine bJ.ite (fun c=>?_) (fun c=>?_)
 ·simp only[aC,beq_iff_eq,aP] at c
  have hv':=hv (by simp [c.1])
  have hc:out.contains e=false:=by rw[← hv'];exact c.2
  rw[aH ⟨c.1,hc⟩] at h3
  have hd:=lH c.1 (by decide)
  have hu:=w5 u.bK.length out e hd.1 hd.2 hc
  refine bJ.bM (bJ.bL ?_)
  refine bJ.bW (eB ?_) (bJ.cC (bJ.bW (bV hd) (bJ.cC (bJ.bO ?_))))
  ·simp only[List.length_singleton];omega
  refine bJ.dB (by decide) (aCG (by omega) h) ?_
  rintro _ rfl
  refine bJ.ret (sE.r (bJ.ret (sE.r ?_)))
  exact ⟨⟨by simp;omega,n,by dsimp only;omega,h3⟩,by dsimp only;omega⟩
 ·have hc:¬ (kd u e=2∧out.contains e=false):=fun ⟨c1,c2⟩=>by
   have hv':=hv (by simp [c1])
   rw[c2] at hv'
   exact c (by simp [c1,hv'])
  rw[aG hc] at h3
  refine bJ.ret (sE.l (sE.l ?_))
  exact h3
theorem aGc {K:Nat} {d:jX} {s:Bytes} (hK:100000<K) (hl:d.bN.length≤6004):dG (wJ K d.bN s) (fun v=>v=own d s):=by
 refine dG.of ?_
 unfold wJ
 refine bJ.cN (fun _=>own d s = -1) (bJ.bL (bJ.dN ?_)) (fun _ h=>by refine bJ.ret (sE.l ?_);exact h.symm)
 refine bJ.upI d.bN.length (fun i=>((d.bN.getD i default).cG == s)=false) (by omega) (fun i hi hb=>?_) (fun hb=>?_)
 ·simp (disch:=omega) only[wr,Int.ofNat_eq_natCast]
  refine bJ.bO (bJ.eX (by simp only[aB];omega) ?_)
  rw[Int.toNat_natCast]
  refine bJ.cN (fun _=>((d.bN.getD i default).cG == s)=false) (bJ.bL (bJ.bW (bV (by omega)) (bJ.cC (bJ.call aPK ?_)))) (fun _ h=>by refine bJ.ret (sE.r ?_);exact ⟨rfl,h⟩)
  rintro _ rfl
  refine bJ.ite (fun e=>?_) (fun e=>by refine bJ.ret (sE.r ?_);simpa using e)
  refine bJ.ret (sE.l (sE.r (sE.r ?_)))
  exact (aK2 (z:=default) hi hb e).symm
 ·simp (disch:=omega) only[wr,Int.ofNat_eq_natCast]
  refine bJ.bO (bJ.fC (by simp only[aB];exact Int.lt_irrefl _) ?_)
  refine bJ.ret (sE.l (sE.l ?_))
  exact aK3 (z:=default) hb
theorem aK6 {K:Nat} {u:dD} {d:Int} {s:Bytes} (hK:100000<K) (h:Sm u):dG (F87 K u d s) (fun v=>v=mth u d s):=by
 have hl:=h.len
 refine dG.of ?_
 unfold F87
 refine bJ.jV (aAM (by omega) (by assumption)) ?_
 refine bJ.jV (aCH) ?_
 refine bJ.cN (fun l=>l=line u d) ?_ ?_
 ·unfold line
  refine bJ.ite (fun e=>?_) (fun e=>?_)
  ·refine bJ.ret (sE.r ?_)
   rw[aH (by simpa using e)]
  ·refine bJ.ret (sE.r ?_)
   rw[aG (by simpa using e)]
 rintro _ rfl
 have h2:=aHS h d
 refine bJ.cN (fun _=>mth u d s=(⟨0,0⟩,false)) (bJ.bL (bJ.dN ?_)) (fun _ h=>by refine bJ.ret (sE.l ?_);exact h.symm)
 refine bJ.loop (fun t:Int=>0≤t∧t≤(line u d).length∧zA u s ((line u d).drop t.toNat)=mth u d s) (fun t=>((line u d).length - t).toNat) ⟨by simp,by simp,rfl⟩ (by simp;omega) (fun t ⟨g1,g2,g3⟩=>?_)
 obtain ⟨n,rfl⟩:=aJ g1
 rw[Int.toNat_natCast] at g3
 simp (disch:=omega) only[wr,Int.ofNat_eq_natCast]
 refine bJ.bO (bJ.ite (fun e=>?_) (fun e=>?_))
 ·simp only[aB] at e
  have hn:n<(line u d).length:=by omega
  rw[qF default hn,zA] at g3
  have hx:=aGd (eA (d:=default) hn)
  refine bJ.bM (bJ.bL ?_)
  rw[Int.toNat_natCast]
  refine bJ.bW (bV (by omega)) (bJ.cC (bJ.bW (bV hx) (bJ.cC (bJ.bO ?_))))
  refine bJ.call (aGc (d:=dc u ((line u d).getD n default)) (by omega) (h.aB2 _)) ?_
  rintro _ rfl
  refine bJ.ite (fun c=>?_) (fun c=>?_)
  ·simp only[aB,ge_iff_le] at c
   rw[aH c] at g3
   refine bJ.ret (sE.l (sE.r (sE.r ?_)))
   exact g3
  ·simp only[aB,ge_iff_le] at c
   rw[aG c] at g3
   refine bJ.ret (sE.r (bJ.ret (sE.r ?_)))
   exact ⟨⟨by omega,by omega,by rw[show ((n:Int)+1).toNat=n+1 by omega];exact g3⟩,by omega⟩
 ·simp only[aB] at e
  rw[List.drop_eq_nil_of_le (by omega),zA] at g3
  refine bJ.ret (sE.l (sE.l ?_))
  exact g3.symm
theorem aGe {K:Nat} {u:dD} {d k:Int} (hk:k≠0):dG (F50 K u d k) (fun v=>v=(kd u d == k)):=by
 refine dG.of ?_
 unfold F50
 by_cases hd:0≤d∧d<u.bK.length
 ·refine bJ.bW (by rw[bV hd];simp) (bJ.cC (bJ.bO ?_))
  refine bJ.ret (sE.l ?_)
  unfold kd
  rw[aG (by omega)]
  simp [hd.1,hd.2]
 ·have e:(decide (d ≥ 0) && decide (d<Int.ofNat u.bK.length))=false:=by
   rw[Bool.and_eq_false_iff]
   simp only[decide_eq_false_iff_not,Int.ofNat_eq_natCast]
   omega
  rw[e]
  refine bJ.bW rfl (bJ.cC (bJ.bO ?_))
  refine bJ.ret (sE.l ?_)
  unfold kd
  rw[aH (by omega)]
  simp;omega
def num (u:dD) (d k:Int):Int:=if kd u d=k then ((u.bK.take d.toNat).countP fun x=>x.bP == k:Nat) else -1
theorem aK7 {K:Nat} {u:dD} {d k:Int} (hK:100000<K) (hk:k≠0) (h:Sm u):dG (F47 K u d k) (fun v=>v=num u d k):=by
 have hl:=h.len
 refine dG.of ?_
 unfold F47 num
 refine bJ.call (aGe hk) ?_
 rintro _ rfl
 refine bJ.ite (fun e=>?_) (fun e=>?_)
 ·simp only[aP,beq_eq_false_iff_ne] at e
  refine bJ.ret (sE.l ?_)
  rw[aG e]
 ·simp only[aP,Bool.not_eq_false,beq_iff_eq] at e
  have hd:=lH e hk
  rw[aH e]
  have e0:(u.bK.drop (0:Int).toNat).take (d.toNat - (0:Int).toNat)=u.bK.take d.toNat:=by simp
  refine bJ.bW ?_ (bJ.cC (bJ.bO ?_))
  ·simp only[c9,aC,aB];omega
  rw[e0]
  have hlen:(u.bK.take d.toNat).length≤6004:=by rw[aR];omega
  generalize u.bK.take d.toNat=l at hlen
  refine bJ.cN (fun v:Int=>v=(l.countP fun x=>x.bP == k:Nat)) (bJ.bL (bJ.dN ?_)) (fun v hv=>by refine bJ.ret (sE.l ?_);exact hv)
  refine bJ.loop (fun t:Int × Int=>0≤t.2∧t.2≤l.length∧t.1=((l.take t.2.toNat).countP fun x=>x.bP == k:Nat)) (fun t=>(l.length - t.2).toNat) ⟨by simp,by simp,by simp⟩ (by dsimp only;omega) ?_
  rintro ⟨c,t⟩ ⟨g1,g2,g3⟩
  dsimp only at g1 g2 g3 ⊢
  obtain ⟨n,rfl⟩:=aJ g1
  rw[Int.toNat_natCast] at g3
  have hc:(l.take n).countP (fun x=>x.bP == k)≤l.length:=aV List.countP_le_length (by rw[aR];omega)
  simp (disch:=omega) only[wr,Int.ofNat_eq_natCast]
  refine bJ.bO (bJ.ite (fun e=>?_) (fun e=>?_))
  ·simp only[aB] at e
   have s8:(l.take (n+1)).countP (fun x=>x.bP == k)=(l.take n).countP (fun x=>x.bP == k)+(if ((l.getD n default).bP == k)=true then 1 else 0):=by
    rw[gN default (by omega),List.countP_append,List.countP_singleton]
   rw[Int.toNat_natCast]
   refine bJ.cN (fun v:Int=>v=((l.take (n+1)).countP fun x=>x.bP == k:Nat)) (bJ.bL (bJ.bW (bV (by omega)) (bJ.cC (bJ.bO (bJ.ite (fun e2=>?_) (fun e2=>?_)))))) (fun v hv=>by refine bJ.ret (sE.r ?_);exact ⟨⟨by dsimp only;omega,by dsimp only;omega,by dsimp only;rw[show ((n:Int)+1).toNat=n+1 by omega];exact hv⟩,by dsimp only;omega⟩)
   ·rw[aH e2] at s8
    refine bJ.ret (sE.r ?_)
    rw[s8];omega
   ·rw[aG e2] at s8
    refine bJ.ret (sE.r ?_)
    rw[s8];omega
  ·simp only[aB] at e
   refine bJ.ret (sE.l (sE.l ?_))
   rw[bF (by omega)] at g3
   exact g3
theorem aGf {K:Nat} {u:dD} {d:Int} (hK:100000<K) (h:Sm u):dG (F11 K u d) (fun v=>v=num u d 2):=by
 refine dG.of ?_
 unfold F11
 refine bJ.call (aK7 hK (by decide) h) ?_
 rintro _ rfl
 refine bJ.ret (sE.l ?_)
 rfl
theorem aSd {K:Nat} {u:dD} {d:Int} (hK:100000<K) (h:Sm u):dG (F22 K u d) (fun v=>v=num u d 1):=by
 refine dG.of ?_
 unfold F22
 refine bJ.call (aK7 hK (by decide) h) ?_
 rintro _ rfl
 refine bJ.ret (sE.l ?_)
 rfl
end Go.Proofs.YtdbfbedholdjaaaGreat
