/- No conditions. -/
import Derived.Test.YtdbfbedholdjaaaGreatHUD
import Derived.Test.YtdbfbedholdjaaaGreatHLG
import Derived.Test.YtdbfbedholdjaaaGreatHUB
import Derived.Test.YtdbfbedholdjaaaGreatHLs
import Derived.Test.YtdbfbedholdjaaaGreatHLr
set_option linter.unusedVariables false
set_option linter.unusedSimpArgs false
set_option linter.unusedSectionVars false
namespace Go.Proofs.YtdbfbedholdjaaaGreat
open Go Go.Dl
variable [dO]
set_option maxRecDepth 100000
set_option maxHeartbeats 8000000
theorem aRI {K:Nat} {a b:dS}:cQ (aOI K a b) (fun _=>True):=by
 refine cQ.of ?_
 unfold aOI
 exact T0
theorem aRJ {K:Nat} {l:List dS} {w:dS} (hK:1000000<K) (hl:l.length≤100000):cQ (aOJ K l w) (fun v=>-1≤v∧v<l.length):=by
 refine cQ.of ?_
 unfold aOJ
 refine bO.eC (bO.bQ (bO.cT ?_)) (fun _=>by refine bO.ret (sE.l ?_);exact ⟨by omega,by omega⟩)
 refine bO.sG l.length (by omega) (fun i hi=>?_) ?_
 ·simp (disch:=omega) only[wr,Int.ofNat_eq_natCast]
  refine bO.bR (bO.dN (by simp only[aB];omega) ?_)
  refine bO.eC (bO.bQ (bO.bY (bW (by omega)) (bO.b7 ?_))) (fun _=>by refine bO.ret (sE.r ?_);rfl)
  refine bO.bR (bO.ite (fun _=>bO.ret (sE.l (sE.r (sE.r ?_)))) (fun _=>bO.ret (sE.r ?_)))
  ·exact ⟨by omega,by omega⟩
  ·trivial
 ·simp (disch:=omega) only[wr,Int.ofNat_eq_natCast]
  refine bO.bR (bO.dA (by simp only[aB];exact Int.lt_irrefl _) ?_)
  exact T0
theorem aRK {K:Nat} {u:cK} {w:dS} (h:Sm u):cQ (aOK K u w) (fun v=>cI.gZ v≤6004):=by
 refine cQ.of ?_
 unfold aOK
 refine bO.call zI (fun v hv=>?_)
 refine bO.ite (fun e=>?_) (fun e=>?_)
 ·refine bO.ret (sE.l ?_);simp [cI.gZ]
 have hp:=hv (by simpa using e)
 refine bO.ite (fun e2=>?_) (fun e2=>?_)
 ·refine bO.bY (bW hp.in) (bO.b7 (bO.bR ?_))
  refine bO.ret (sE.l ?_)
  exact h.body _
 ·simp only[aB] at e2
  have hw:Vw u w:=by
   rcases hp with hp | hp
   ·exact hp.2
   ·omega
  refine bO.bY (bW hp.in) (bO.bY (bW hw.2) (bO.b7 (bO.bR ?_)))
  refine bO.ret (sE.l ?_)
  exact (hU.bounds (h.m w.cZ w.dF.toNat)).2.2
theorem aRL {l:List cM} {n:Nat} (h:n<l.length):cM.gZ (l.take (n+1))=cM.gZ (l.take n)+(l.getD n default).sz:=by
 rw[dZ default h,mR];simp [cM.gZ]
theorem aGi (l:List cM) (n:Nat):cM.gZ (l.take n)≤cM.gZ l:=by
 have:=mR (l.take n) (l.drop n)
 rw[List.take_append_drop] at this;omega
theorem aER:∀ (K:Nat) (o:List cM) (e:cM),e.sz≤7000→o.length≤10000000→e.sz+10000<K→o.length+e.sz≤10000000→cQ (yO K o e) (fun v=>v.length≤o.length+e.sz)
 | 0,_,_,_,_,h,_=>by omega
 | K+1,o,e,h1,h2,h3,h4=>by
   have hs:=e.szq
   have hl:=mQ e.fP
   refine cQ.of ?_
   rw[yO]
   refine bO.b5 (fun v:List cM=>v.length≤o.length+1) ?_ (fun v hv=>?_)
   ·refine bO.ite (fun e1=>bO.bY (cS ?_) (bO.b7 ?_)) (fun e1=>?_)
    ·show (o.length+1) * 72≤_
     omega
    ·refine bO.ret (sE.r ?_)
     rw[aG];simp
    ·refine bO.ret (sE.r ?_)
     omega
   refine bO.b5 (fun v:List cM=>v.length≤o.length+e.sz) (bO.bQ (bO.cT ?_)) (fun v hv=>by refine bO.ret (sE.l ?_);exact hv)
   refine bO.loop (fun t:List cM × Int=>0≤t.2∧t.2≤e.fP.length∧t.1.length≤o.length+1+cM.gZ (e.fP.take t.2.toNat)) (fun t=>(e.fP.length - t.2).toNat) ⟨by simp,by simp,by dsimp only;omega⟩ (by dsimp only;omega) ?_
   rintro ⟨p,t⟩ ⟨g1,g2,g3⟩
   dsimp only at g1 g2 g3 ⊢
   obtain ⟨n,rfl⟩:=aP g1
   rw[Int.toNat_natCast] at g3
   simp (disch:=omega) only[wr,Int.ofNat_eq_natCast]
   refine bO.bR (bO.ite (fun e1=>?_) (fun e1=>?_))
   ·simp only[aB] at e1
    have hn:n<e.fP.length:=by omega
    have hm:=nX (c6 (d:=default) hn)
    have iT:=aRL hn
    have hle:=aGi e.fP (n+1)
    rw[Int.toNat_natCast]
    refine bO.b5 (fun v:List cM=>v.length≤o.length+1+cM.gZ (e.fP.take (n+1))) (bO.bQ (bO.bY (bW (by omega)) (bO.b7 ?_))) (fun v hv=>?_)
    ·refine bO.call (aER K p _ (by omega) (by omega) (by omega) (by omega)) (fun v hv=>?_)
     refine bO.ret (sE.r ?_)
     omega
    ·refine bO.ret (sE.r ?_)
     exact ⟨⟨by dsimp only;omega,by dsimp only;omega,by dsimp only;rw[show ((n:Int)+1).toNat=n+1 by omega];exact hv⟩,by dsimp only;omega⟩
   ·have hle:=aGi e.fP n
    refine bO.ret (sE.l (sE.l ?_))
    show p.length≤_
    omega
theorem a34 {l:List cI} {n:Nat} (h:n<l.length):cI.gZ (l.take (n+1))=cI.gZ (l.take n)+(l.getD n default).sz:=by
 rw[dZ default h,uD];simp [cI.gZ]
theorem aWi (l:List cI) (n:Nat):cI.gZ (l.take n)≤cI.gZ l:=by
 have:=uD (l.take n) (l.drop n)
 rw[List.take_append_drop] at this;omega
theorem aZb {l:List (List cI)} {n:Nat} (h:n<l.length):cI.kH (l.take (n+1))=cI.kH (l.take n)+1+cI.gZ (l.getD n default):=by
 rw[dZ default h,pO];simp [cI.kH];omega
theorem aRM (l:List (List cI)) (n:Nat):cI.kH (l.take n)≤cI.kH l:=by
 have:=pO (l.take n) (l.drop n)
 rw[List.take_append_drop] at this;omega
theorem aES:∀ (K:Nat) (o:List cM) (l:List cI),cI.gZ l≤6004→cI.gZ l+20000<K→o.length+cI.gZ l≤1000000→cQ (vP K o l) (fun v=>v.length≤o.length+cI.gZ l)
 | 0,_,_,_,h,_=>by omega
 | K+1,o,l,h1,h2,h3=>by
   have hl:=aJH l
   refine cQ.of ?_
   rw[vP]
   refine bO.b5 (fun v:List cM=>v.length≤o.length+cI.gZ l) (bO.bQ (bO.cT ?_)) (fun v hv=>by refine bO.ret (sE.l ?_);exact hv)
   refine bO.loop (fun t:List cM × Int=>0≤t.2∧t.2≤l.length∧t.1.length≤o.length+cI.gZ (l.take t.2.toNat)) (fun t=>(l.length - t.2).toNat) ⟨by simp,by simp,by dsimp only;omega⟩ (by dsimp only;omega) ?_
   rintro ⟨p,t⟩ ⟨g1,g2,g3⟩
   dsimp only at g1 g2 g3 ⊢
   obtain ⟨n,rfl⟩:=aP g1
   rw[Int.toNat_natCast] at g3
   simp (disch:=omega) only[wr,Int.ofNat_eq_natCast]
   refine bO.bR (bO.ite (fun e1=>?_) (fun e1=>?_))
   ·simp only[aB] at e1
    have hn:n<l.length:=by omega
    have hm:=aJG (c6 (d:=default) hn)
    have iT:=a34 hn
    have hle:=aWi l (n+1)
    simp only[Int.toNat_natCast]
    have hsz:=(l.getD n default).szq
    have hxl:=mQ (l.getD n default).cU
    have hbl:=aBS (l.getD n default).b8
    refine bO.b5 (fun v:List cM=>v.length≤o.length+cI.gZ (l.take (n+1))) (bO.bQ ?_) (fun v hv=>?_)
    ·refine bO.b5 (fun v:List cM=>v.length≤p.length+cM.gZ (l.getD n default).cU) (bO.bQ (bO.cT ?_)) (fun q hq=>?_)
     ·refine bO.loop (fun t:List cM × Int=>0≤t.2∧t.2≤(l.getD n default).cU.length∧t.1.length≤p.length+cM.gZ ((l.getD n default).cU.take t.2.toNat)) (fun t=>((l.getD n default).cU.length - t.2).toNat) ⟨by simp,by simp,by dsimp only;omega⟩ (by dsimp only;omega) ?_
      rintro ⟨p2,t2⟩ ⟨k1,k2,k3⟩
      dsimp only at k1 k2 k3 ⊢
      obtain ⟨m,rfl⟩:=aP k1
      rw[Int.toNat_natCast] at k3
      refine bO.bY (bW (by omega)) (bO.b7 ?_)
      simp (disch:=omega) only[wr,Int.ofNat_eq_natCast]
      refine bO.bR (bO.ite (fun e2=>?_) (fun e2=>?_))
      ·simp only[aB] at e2
       have hm2:m<(l.getD n default).cU.length:=by omega
       have hx:=nX (c6 (d:=default) hm2)
       have hxa:=aRL hm2
       have hxe:=aGi (l.getD n default).cU (m+1)
       refine bO.b5 (fun v:List cM=>v.length≤p.length+cM.gZ ((l.getD n default).cU.take (m+1))) (bO.bQ (bO.bY (bW (by omega)) (bO.b7 (bO.bR (bO.bY (bW (by omega)) (bO.b7 ?_)))))) (fun v hv=>?_)
       ·rw[Int.toNat_natCast]
        refine bO.call (aER K p2 _ (by omega) (by omega) (by omega) (by omega)) (fun v hv=>?_)
        refine bO.ret (sE.r ?_)
        omega
       ·refine bO.ret (sE.r ?_)
        exact ⟨⟨by dsimp only;omega,by dsimp only;omega,by dsimp only;rw[show ((m:Int)+1).toNat=m+1 by omega];exact hv⟩,by dsimp only;omega⟩
      ·have hxe:=aGi (l.getD n default).cU m
       refine bO.ret (sE.l (sE.l ?_))
       show p2.length≤_
       omega
     ·refine bO.b5 (fun v:List cM=>v.length≤p.length+cM.gZ (l.getD n default).cU+cI.kH (l.getD n default).b8) (bO.bQ (bO.cT ?_)) (fun v hv=>by refine bO.ret (sE.r ?_);omega)
      refine bO.loop (fun t:List cM × Int=>0≤t.2∧t.2≤(l.getD n default).b8.length∧t.1.length≤p.length+cM.gZ (l.getD n default).cU+cI.kH ((l.getD n default).b8.take t.2.toNat)) (fun t=>((l.getD n default).b8.length - t.2).toNat) ⟨by simp,by simp,by dsimp only;omega⟩ (by dsimp only;omega) ?_
      rintro ⟨p2,t2⟩ ⟨k1,k2,k3⟩
      dsimp only at k1 k2 k3 ⊢
      obtain ⟨m,rfl⟩:=aP k1
      rw[Int.toNat_natCast] at k3
      refine bO.bY (bW (by omega)) (bO.b7 ?_)
      simp (disch:=omega) only[wr,Int.ofNat_eq_natCast]
      refine bO.bR (bO.ite (fun e2=>?_) (fun e2=>?_))
      ·simp only[aB] at e2
       have hm2:m<(l.getD n default).b8.length:=by omega
       have hx:=zH (c6 (d:=default) hm2)
       have hxa:=aZb hm2
       have hxe:=aRM (l.getD n default).b8 (m+1)
       refine bO.b5 (fun v:List cM=>v.length≤p.length+cM.gZ (l.getD n default).cU+cI.kH ((l.getD n default).b8.take (m+1))) (bO.bQ (bO.bY (bW (by omega)) (bO.b7 (bO.bR (bO.bY (bW (by omega)) (bO.b7 ?_)))))) (fun v hv=>?_)
       ·rw[Int.toNat_natCast]
        refine bO.call (aES K p2 _ (by omega) (by omega) (by omega)) (fun v hv=>?_)
        refine bO.ret (sE.r ?_)
        omega
       ·refine bO.ret (sE.r ?_)
        exact ⟨⟨by dsimp only;omega,by dsimp only;omega,by dsimp only;rw[show ((m:Int)+1).toNat=m+1 by omega];exact hv⟩,by dsimp only;omega⟩
      ·have hxe:=aRM (l.getD n default).b8 m
       refine bO.ret (sE.l (sE.l ?_))
       show p2.length≤_
       omega
    ·refine bO.ret (sE.r ?_)
     exact ⟨⟨by dsimp only;omega,by dsimp only;omega,by dsimp only;rw[show ((n:Int)+1).toNat=n+1 by omega];exact hv⟩,by dsimp only;omega⟩
   ·have hle:=aWi l n
    refine bO.ret (sE.l (sE.l ?_))
    show p.length≤_
    omega
theorem aRN {K:Nat} {l:List cI} (hK:100000<K) (hl:cI.gZ l≤6004):cQ (aOS K l) (fun v=>v.length≤6004):=by
 have e:aOS K l=vP (K+1) [] l:=by rw[vP];rfl
 rw[e]
 refine (aES (K+1) [] l hl (by omega) (by simp;omega)).zG (fun v hv=>?_)
 simp at hv;omega
end Go.Proofs.YtdbfbedholdjaaaGreat

namespace Go.Proofs.YtdbfbedholdjaaaGreat
open Go Go.Dl
variable [dO]
set_option maxRecDepth 100000
set_option maxHeartbeats 8000000
theorem aRO {K:Nat} {l:List dS} {w:dS} (hK:1000000<K) (hl:l.length≤100000):cQ (aPb K l w) (fun v=>v.length≤l.length+1):=by
 refine cQ.of ?_
 unfold aPb
 refine bO.b5 (fun i:Int=>0≤i∧i≤l.length) (bO.bQ (bO.cT ?_)) (fun i hi=>?_)
 ·refine bO.loop (fun t:Int=>0≤t∧t≤l.length) (fun t=>(l.length - t).toNat) ⟨by omega,by omega⟩ (by omega) (fun t ⟨g1,g2⟩=>?_)
  simp (disch:=omega) only[wr,Int.ofNat_eq_natCast]
  refine bO.bY ?_ (bO.b7 (bO.bR ?_))
  ·by_cases q:t<l.length
   ·rw[bW ⟨g1,q⟩];simp
   ·rw[decide_eq_false q];rfl
  refine bO.c8 (fun _=>aRI) (fun v _=>?_)
  refine bO.ite (fun e=>?_) (fun e=>?_)
  ·simp only[aC,aB] at e
   refine bO.bT (bO.bQ (bO.ret (sE.r (bO.ret (sE.r ?_)))))
   exact ⟨⟨by omega,by omega⟩,by omega⟩
  ·refine bO.ret (sE.l (sE.l ?_))
   exact ⟨by omega,by omega⟩
 ·refine bO.bY ?_ (bO.b7 (bO.bR (bO.bR (bO.ite (fun e=>?_) (fun e=>?_)))))
  ·by_cases q:i<Int.ofNat l.length
   ·rw[bW ⟨hi.1,q⟩];simp
   ·rw[decide_eq_false q];rfl
  ·refine bO.ret (sE.l ?_);omega
  ·refine bO.bY ?_ (bO.bY ?_ (bO.b7 (bO.bR (bO.bR ?_))))
   ·simp only[c5,aC,aB];omega
   ·simp only[c5,aC,aB,Int.ofNat_eq_natCast];omega
   have h1:((l.drop (0:Int).toNat).take (i.toNat - (0:Int).toNat)).length≤l.length:=by
    rw[aK,bM];omega
   have h2:((l.drop i.toNat).take ((Int.ofNat l.length).toNat - i.toNat)).length+((l.drop (0:Int).toNat).take (i.toNat - (0:Int).toNat)).length≤l.length:=by
    simp only[aK,bM,Int.ofNat_eq_natCast,Int.toNat_natCast];simp;omega
   refine bO.bY (cS (by omega)) (bO.b7 (bO.bY (cS ?_) (bO.b7 (bO.bY (cS ?_) (bO.b7 ?_)))))
   ·simp only[List.length_singleton];omega
   ·rw[aG];simp only[List.length_singleton];omega
   ·refine bO.ret (sE.l ?_)
    rw[aG,aG];simp only[List.length_singleton];omega
theorem Wf.len {u:cK} (hw:Wf u):u.bP.length≤12:=by
 by_cases h:u.bP.length≤12
 ·exact h
 ·have:=(hw 12 ⟨by omega,by omega⟩).lim
  omega
theorem aUA {K:Nat} {u:cK} (hK:1000000<K) (hw:Wf u):cQ (F78 K u) (fun v=>v.length≤100∧∀ w∈v,0≤w.cZ∧w.cZ<u.bP.length):=by
 have hl:=hw.len
 refine cQ.of ?_
 unfold F78
 refine bO.b5 (fun v:List dS=>v.length≤100∧∀ w∈v,0≤w.cZ∧w.cZ<u.bP.length) (bO.bQ (bO.cT ?_)) (fun v hv=>by refine bO.ret (sE.l ?_);exact hv)
 refine bO.loop (fun t:List dS × Int=>0≤t.2∧t.2≤u.bP.length∧(t.1.length:Int)≤7 * t.2∧∀ w∈t.1,0≤w.cZ∧w.cZ<u.bP.length) (fun t=>(u.bP.length - t.2).toNat) ⟨by simp,by simp,by simp,fun w hw=>by cases hw⟩ (by dsimp only;omega) ?_
 rintro ⟨o,t⟩ ⟨g1,g2,g3,g4⟩
 dsimp only at g1 g2 g3 g4 ⊢
 simp (disch:=omega) only[wr,Int.ofNat_eq_natCast]
 refine bO.bR (bO.ite (fun e1=>?_) (fun e1=>?_))
 ·simp only[aB] at e1
  have hm:=(hw t ⟨g1,e1⟩).sz.m
  refine bO.b5 (fun v:List dS=>(v.length:Int)≤7 * t+7∧∀ w∈v,0≤w.cZ∧w.cZ<u.bP.length) (bO.bQ (bO.bY (bW ⟨g1,e1⟩) (bO.b7 (bO.bR ?_)))) (fun v hv=>by refine bO.ret (sE.r ?_);exact ⟨⟨by dsimp only;omega,by dsimp only;omega,by dsimp only;omega,hv.2⟩,by dsimp only;omega⟩)
  refine bO.b5 (fun v:List dS=>(v.length:Int)≤7 * t+1∧∀ w∈v,0≤w.cZ∧w.cZ<u.bP.length) ?_ (fun o2 ho2=>?_)
  ·refine bO.ite (fun e2=>bO.bY (cS ?_) (bO.b7 ?_)) (fun e2=>?_)
   ·show (o.length+1) * 16≤_
    omega
   ·refine bO.ret (sE.r ?_)
    refine ⟨by rw[aG,List.length_singleton];omega,fun w hw=>?_⟩
    rcases aZ.1 hw with hw | hw
    ·exact g4 w hw
    ·rw[aJ.1 hw];exact ⟨g1,e1⟩
   ·refine bO.ret (sE.r ?_)
    exact ⟨by omega,g4⟩
  ·refine bO.b5 (fun v:List dS=>(v.length:Int)≤7 * t+7∧∀ w∈v,0≤w.cZ∧w.cZ<u.bP.length) (bO.bQ (bO.cT ?_)) (fun v hv=>by refine bO.ret (sE.r ?_);exact hv)
   refine bO.loop (fun s:List dS × Int=>0≤s.2∧s.2≤(dc u t).bS.length∧(s.1.length:Int)≤7 * t+1+s.2∧∀ w∈s.1,0≤w.cZ∧w.cZ<u.bP.length) (fun s=>((dc u t).bS.length - s.2).toNat) ⟨by simp,by simp,by dsimp only;omega,ho2.2⟩ (by dsimp only;omega) ?_
   rintro ⟨o3,i⟩ ⟨k1,k2,k3,k4⟩
   dsimp only at k1 k2 k3 k4 ⊢
   refine bO.bY (bW ⟨g1,e1⟩) (bO.bY (by rw[bW ⟨g1,e1⟩];simp) (bO.b7 (bO.bR (bO.ite (fun e3=>?_) (fun e3=>?_)))))
   ·simp only[aC,aB,Int.ofNat_eq_natCast] at e3
    have hi:i<(dc u t).bS.length:=e3.1
    simp (disch:=omega) only[wr,Int.ofNat_eq_natCast]
    refine bO.b5 (fun v:List dS=>(v.length:Int)≤7 * t+2+i∧∀ w∈v,0≤w.cZ∧w.cZ<u.bP.length) (bO.bQ (bO.bY (cS ?_) (bO.b7 ?_))) (fun v hv=>by refine bO.ret (sE.r ?_);exact ⟨⟨by dsimp only;omega,by dsimp only;omega,by dsimp only;omega,hv.2⟩,by dsimp only;omega⟩)
    ·show (o3.length+1) * 16≤_
     omega
    ·refine bO.ret (sE.r ?_)
     refine ⟨by rw[aG,List.length_singleton];omega,fun w hw=>?_⟩
     rcases aZ.1 hw with hw | hw
     ·exact k4 w hw
     ·rw[aJ.1 hw];exact ⟨g1,e1⟩
   ·refine bO.ret (sE.l (sE.l ?_))
    exact ⟨by show (o3.length:Int)≤_;omega,k4⟩
 ·refine bO.ret (sE.l (sE.l ?_))
  exact ⟨by show o.length≤_;omega,g4⟩
def aAw:List Bool→Nat
 | []=>0
 | b::r=>(if b then 0 else 1)+aAw r
theorem aH2:∀ {l:List Bool} {i:Nat},i<l.length→l.getD i default=false→aAw (l.set i true)+1=aAw l
 | b::r,0,_,h=>by
   simp at h;subst h;simp [aAw];omega
 | b::r,i+1,h1,h2=>by
   simp only[List.length_cons] at h1
   have:=aH2 (l:=r) (i:=i) (by omega) (by simpa using h2)
   rw[List.set_cons_succ,aAw,aAw];omega
theorem aDC:∀ n,aAw (List.replicate n false)=n
 | 0=>rfl
 | n+1=>by rw[List.replicate_succ,aAw,aDC n];simp;omega
theorem aUB {K:Nat} {l:List (List Int)} {d:Int} (hK:100000000<K) (hl:l.length≤100) (hr:∀ r∈l,r.length≤100000∧∀ x∈r,-1≤x∧x<l.length) (hd:0≤d∧d<l.length):cQ (F80 K l d) (fun v=>v.length=l.length):=by
 have iT:∀ {x:Int},0≤x→x<l.length→(l.getD x.toNat default).length≤100000∧∀ y∈l.getD x.toNat default,-1≤y∧y<l.length:=fun {x} h1 h2=>hr _ (c6 (d:=default) (by omega))
 refine cQ.of ?_
 unfold F80
 have h0:=iT hd.1 hd.2
 refine bO.bY (by simp) (bO.bY (cS ?_) (bO.b7 (bO.bY (bW hd) (bO.b7 (bO.bY (cS ?_) (bO.b7 ?_))))))
 ·simp only[Int.ofNat_eq_natCast,Int.toNat_natCast];omega
 ·omega
 refine bO.b5 (fun v:List Bool=>v.length=l.length) (bO.bQ (bO.cT ?_)) (fun v hv=>by refine bO.ret (sE.l ?_);exact hv)
 refine bO.loop (fun t:List Bool × List Int × Int=>t.1.length=l.length∧0≤t.2.2∧t.2.2≤t.2.1.length∧t.2.1.length+100000 * aAw t.1≤20000000∧∀ y∈t.2.1,-1≤y∧y<l.length) (fun t=>(t.2.1.length+100000 * aAw t.1 - t.2.2).toNat) ⟨by simp,by simp,by simp,?_,h0.2⟩ ?_ ?_
 ·dsimp only
  simp only[Int.ofNat_eq_natCast,Int.toNat_natCast]
  rw[show (default:Bool)=false from rfl,aDC];omega
 ·dsimp only
  simp only[Int.ofNat_eq_natCast,Int.toNat_natCast]
  rw[show (default:Bool)=false from rfl,aDC];omega
 rintro ⟨seen,todo,i⟩ ⟨g1,g2,g3,g4,g5⟩
 dsimp only at g1 g2 g3 g4 g5 ⊢
 simp (disch:=omega) only[wr,Int.ofNat_eq_natCast]
 refine bO.bR (bO.ite (fun e1=>?_) (fun e1=>by refine bO.ret (sE.l (sE.l ?_));exact g1))
 simp only[aB] at e1
 have hy:=g5 _ (c6 (d:=default) (show i.toNat<todo.length by omega))
 generalize todo.getD i.toNat default=y at hy
 refine bO.b5 (fun t:List Bool × List Int=>t.1.length=l.length∧todo.length≤t.2.length∧t.2.length+100000 * aAw t.1≤todo.length+100000 * aAw seen∧∀ y∈t.2,-1≤y∧y<l.length) (bO.bQ (bO.bY (bW ⟨g2,e1⟩) (bO.bY (by rw[bW ⟨g2,e1⟩];simp) (bO.bY ?_ (bO.b7 (bO.bR (bO.ite (fun e2=>?_) (fun e2=>?_)))))))) ?_
 ·by_cases q:y<0
  ·rw[decide_eq_true q];rfl
  ·rw[bW (by omega)];simp
 ·refine bO.ret (sE.l (sE.l ?_))
  exact ⟨g1,aM _,aM _,g5⟩
 ·simp only[aL,not_or,aB,Bool.not_eq_true] at e2
  obtain ⟨e2,e3⟩:=e2
  have hy0:0≤y:=by omega
  have h2:=iT hy0 hy.2
  have hu:=aH2 (l:=seen) (i:=y.toNat) (by omega) e3
  refine bO.bY (bW ⟨g2,e1⟩) (bO.bY (bW (by omega)) (bO.b7 (bO.bY (bW ⟨g2,e1⟩) (bO.bY (bW (by omega)) (bO.b7 (bO.bR (bO.bY (cS ?_) (bO.b7 ?_))))))))
  ·omega
  ·refine bO.ret (sE.r ?_)
   refine ⟨by rw[List.length_set];exact g1,?_,?_,fun z hz=>?_⟩
   ·rw[aG];omega
   ·show (todo++_).length+100000 * aAw (seen.set y.toNat true)≤_
    rw[aG];omega
   ·rcases aZ.1 hz with hz | hz
    ·exact g5 z hz
    ·exact h2.2 z hz
 ·rintro ⟨a,b⟩ ⟨q1,q2,q3,q4⟩
  dsimp only at q1 q2 q3 q4 ⊢
  refine bO.ret (sE.r ?_)
  exact ⟨⟨q1,by dsimp only;omega,by dsimp only;omega,by dsimp only;omega,q4⟩,by dsimp only;omega⟩
theorem aRP {K:Nat} {u:cK} {w:dS} (hK:101000000<K) (h:Sm u) (hw:Wf u):cQ (aPg K u w) (fun v=>v.length≤80000):=by
 have hul:=hw.len
 refine cQ.of ?_
 unfold aPg
 refine bO.call (aRK h) (fun r1 hr1=>?_)
 refine bO.call (aRN (by omega) hr1) (fun r2 sZ=>?_)
 refine bO.b5 (fun v:List dS=>v.length≤80000) (bO.bQ (bO.cT ?_)) (fun v hv=>by refine bO.ret (sE.l ?_);exact hv)
 refine bO.loop (fun t:List dS × Int=>0≤t.2∧t.2≤r2.length∧(t.1.length:Int)≤12 * t.2) (fun t=>(r2.length - t.2).toNat) ⟨by simp,by simp,by simp⟩ (by dsimp only;omega) ?_
 rintro ⟨o,t⟩ ⟨g1,g2,g3⟩
 dsimp only at g1 g2 g3 ⊢
 simp (disch:=omega) only[wr,Int.ofNat_eq_natCast]
 refine bO.bR (bO.ite (fun e1=>?_) (fun e1=>by refine bO.ret (sE.l (sE.l ?_));show o.length≤80000;omega))
 simp only[aB] at e1
 generalize r2.getD t.toNat default=e
 refine bO.b5 (fun v:List dS=>(v.length:Int)≤12 * t+12) (bO.bQ (bO.bY (bW ⟨g1,e1⟩) (bO.b7 ?_))) (fun v hv=>by refine bO.ret (sE.r ?_);exact ⟨⟨by dsimp only;omega,by dsimp only;omega,by dsimp only;omega⟩,by dsimp only;omega⟩)
 refine bO.cH (by decide) (aH3 (by omega) h) (fun r hr=>?_)
 refine bO.ite (fun e2=>by refine bO.ret (sE.l (sE.l ?_));show (o.length:Int)≤_;omega) (fun e2=>?_)
 have hr:=hr (by simpa using e2)
 refine bO.b5 (fun v:List dS=>(v.length:Int)≤12 * t+12) (bO.bQ (bO.cT ?_)) (fun v hv=>by refine bO.ret (sE.r ?_);exact hv)
 refine bO.loop (fun s:List dS × Int=>0≤s.2∧s.2≤u.bP.length∧(s.1.length:Int)≤12 * t+s.2) (fun s=>(u.bP.length - s.2).toNat) ⟨by simp,by simp,by dsimp only;omega⟩ (by dsimp only;omega) ?_
 rintro ⟨p,i⟩ ⟨k1,k2,k3⟩
 dsimp only at k1 k2 k3 ⊢
 simp (disch:=omega) only[wr,Int.ofNat_eq_natCast]
 refine bO.bR (bO.ite (fun e3=>?_) (fun e3=>by refine bO.ret (sE.l (sE.l ?_));show (p.length:Int)≤_;omega))
 simp only[aB] at e3
 refine bO.b5 (fun v:List dS=>(v.length:Int)≤12 * t+i+1) (bO.bQ (bO.bY (bW ⟨g1,e1⟩) (bO.b7 (bO.bR (bO.bY (by rw[bW ⟨g1,e1⟩];simp) (bO.bY (by rw[bW ⟨k1,e3⟩];simp) (bO.bY (by rw[bW ⟨k1,e3⟩];simp) (bO.bY (by rw[bW hr];simp) (bO.b7 ?_))))))))) (fun v hv=>by refine bO.ret (sE.r ?_);exact ⟨⟨by dsimp only;omega,by dsimp only;omega,by dsimp only;omega⟩,by dsimp only;omega⟩)
 refine bO.c8 (fun _=>aH4 (by omega) h) (fun _ _=>bO.bR (bO.ite (fun e4=>by refine bO.ret (sE.l (sE.l ?_));show (p.length:Int)≤_;omega) (fun e4=>?_)))
 refine bO.bY (bW ⟨g1,e1⟩) (bO.b7 ?_)
 refine bO.jD (qX (by omega) (by assumption)) ?_
 refine bO.c8 (fun e5=>rU (wJ e5).1) (fun m _=>?_)
 refine bO.ite (fun e6=>?_) (fun e6=>by refine bO.ret (sE.r ?_);show (p.length:Int)≤_;omega)
 refine bO.call (aRO (by omega) (by omega)) (fun v hv=>?_)
 refine bO.ret (sE.r ?_)
 show (v.length:Int)≤_
 omega
theorem aUC {K:Nat} {u:cK} {l:List dS} (hK:101000000<K) (h:Sm u) (hw:Wf u) (hl:l.length≤100):cQ (F79 K u l) (fun v=>v.length=l.length∧∀ r∈v,r.length≤100000∧∀ x∈r,-1≤x∧x<l.length):=by
 refine cQ.of ?_
 unfold F79
 refine bO.b5 (fun v:List (List Int)=>v.length=l.length∧∀ r∈v,r.length≤100000∧∀ x∈r,-1≤x∧x<l.length) (bO.bQ (bO.cT ?_)) (fun v hv=>by refine bO.ret (sE.l ?_);exact hv)
 refine bO.loop (fun t:List (List Int) × Int=>0≤t.2∧t.2≤l.length∧(t.1.length:Int)=t.2∧∀ r∈t.1,r.length≤100000∧∀ x∈r,-1≤x∧x<l.length) (fun t=>(l.length - t.2).toNat) ⟨by simp,by simp,by simp,fun r hr=>by cases hr⟩ (by dsimp only;omega) ?_
 rintro ⟨o,t⟩ ⟨g1,g2,g3,g4⟩
 dsimp only at g1 g2 g3 g4 ⊢
 simp (disch:=omega) only[wr,Int.ofNat_eq_natCast]
 refine bO.bR (bO.ite (fun e1=>?_) (fun e1=>?_))
 ·simp only[aB] at e1
  refine bO.b5 (fun v:List (List Int)=>(v.length:Int)=t+1∧∀ r∈v,r.length≤100000∧∀ x∈r,-1≤x∧x<l.length) (bO.bQ (bO.bY (bW ⟨g1,e1⟩) (bO.b7 ?_))) (fun v hv=>by refine bO.ret (sE.r ?_);exact ⟨⟨by dsimp only;omega,by dsimp only;omega,hv.1,hv.2⟩,by dsimp only;omega⟩)
  refine bO.call (aRP hK h hw) (fun r hr=>?_)
  refine bO.b5 (fun v:List Int=>v.length≤100000∧∀ x∈v,-1≤x∧x<l.length) (bO.bQ (bO.cT ?_)) (fun v hv=>?_)
  ·refine bO.loop (fun s:List Int × Int=>0≤s.2∧s.2≤r.length∧(s.1.length:Int)=s.2∧∀ x∈s.1,-1≤x∧x<l.length) (fun s=>(r.length - s.2).toNat) ⟨by simp,by simp,by simp,fun r hr=>by cases hr⟩ (by dsimp only;omega) ?_
   rintro ⟨p,i⟩ ⟨k1,k2,k3,k4⟩
   dsimp only at k1 k2 k3 k4 ⊢
   simp (disch:=omega) only[wr,Int.ofNat_eq_natCast]
   refine bO.bR (bO.ite (fun e3=>?_) (fun e3=>by refine bO.ret (sE.l (sE.l ?_));exact ⟨by show p.length≤_;omega,k4⟩))
   simp only[aB] at e3
   refine bO.b5 (fun v:List Int=>(v.length:Int)=i+1∧∀ x∈v,-1≤x∧x<l.length) (bO.bQ (bO.bY (bW ⟨k1,e3⟩) (bO.b7 ?_))) (fun v hv=>by refine bO.ret (sE.r ?_);exact ⟨⟨by dsimp only;omega,by dsimp only;omega,hv.1,hv.2⟩,by dsimp only;omega⟩)
   refine bO.call (aRJ (by omega) (by omega)) (fun n hn=>?_)
   refine bO.bY (cS ?_) (bO.b7 ?_)
   ·simp only[List.length_singleton];omega
   ·refine bO.ret (sE.r ?_)
    refine ⟨by rw[aG,List.length_singleton];omega,fun x hx=>?_⟩
    rcases aZ.1 hx with hx | hx
    ·exact k4 x hx
    ·rw[aJ.1 hx];exact hn
  ·refine bO.bY (cS ?_) (bO.b7 ?_)
   ·simp only[List.length_singleton];omega
   ·refine bO.ret (sE.r ?_)
    refine ⟨by rw[aG,List.length_singleton];omega,fun x hx=>?_⟩
    rcases aZ.1 hx with hx | hx
    ·exact g4 x hx
    ·rw[aJ.1 hx];exact hv
 ·simp only[aB] at e1
  refine bO.ret (sE.l (sE.l ?_))
  exact ⟨by show o.length=_;omega,g4⟩
theorem aUD {K:Nat} {u:cK} (hK:101000000<K) (h:Sm u) (hw:Wf u):cQ (F35 K u) (fun v=>v<u.bP.length):=by
 refine cQ.of ?_
 unfold F35
 refine bO.call (aUA (by omega) hw) (fun r1 hr1=>?_)
 refine bO.call (aUC hK h hw hr1.1) (fun r2 sZ=>?_)
 refine bO.eC (bO.bQ (bO.cT ?_)) (fun _=>by refine bO.ret (sE.l ?_);omega)
 have hl:=hr1.1
 refine bO.sG r1.length (by omega) (fun i hi=>?_) ?_
 ·simp (disch:=omega) only[wr,Int.ofNat_eq_natCast]
  refine bO.bR (bO.dN (by simp only[aB];omega) ?_)
  refine bO.eC (bO.bQ ?_) (fun _=>by refine bO.ret (sE.r ?_);rfl)
  have h2:=sZ.1
  refine bO.call (aUB (by omega) (by omega) (by rw[h2];exact sZ.2) (by omega)) (fun v hv=>?_)
  refine bO.bY (bW (by omega)) (bO.b7 (bO.ite (fun e=>bO.bY (bW (by omega)) (bO.b7 ?_)) (fun e=>by exact T0)))
  refine bO.ret (sE.l (sE.r (sE.r ?_)))
  rw[Int.toNat_natCast]
  exact (hr1.2 _ (c6 hi)).2
 ·simp (disch:=omega) only[wr,Int.ofNat_eq_natCast]
  refine bO.bR (bO.dA (by simp only[aB];exact Int.lt_irrefl _) ?_)
  exact T0
end Go.Proofs.YtdbfbedholdjaaaGreat

namespace Go.Proofs.YtdbfbedholdjaaaGreat
open Go Go.Dl
variable [dO]
set_option maxRecDepth 100000
set_option maxHeartbeats 8000000
def Nm (u:cK):Prop:=∀ d∈u.bP,d.bU=2→d.cD≠[]
theorem aY6 {K:Nat} {s:Bytes} (hK:101000000<K):cQ (F8 K s) (fun v=>v.2=[]→Sm v.1∧Wf v.1∧Nm v.1∧dsz v.1.bP≤6000):=by
 refine cQ.of ?_
 unfold F8
 refine bO.call (aUE (by omega)) (fun r1 hr1=>?_)
 refine bO.ite (fun e=>?_) (fun e=>?_)
 ·refine bO.ret (sE.l ?_)
  intro q;cases q
 have hr:=hr1 (by simpa using e)
 have h:Sm r1.1:=⟨aS hr.1 (by decide)⟩
 refine bO.call (aUz hK h) (fun r2 sZ=>?_)
 refine bO.b5 (fun v:List uV=>(v=[]→Wf r1.1)∧v.length≤6004∧∀ w∈v,0≤w.fAt∧w.fAt<r1.1.bP.length) ?_ (fun v hv=>?_)
 ·refine bO.ite (fun e2=>?_) (fun e2=>by refine bO.ret (sE.r ?_);exact sZ)
  have hn:r2=[]:=by
   simp only[beq_iff_eq,Int.ofNat_eq_natCast] at e2
   exact List.length_eq_zero_iff.1 (by omega)
  refine bO.call (aUD hK h (sZ.1 hn)) (fun r5 h5=>?_)
  refine bO.ite (fun e3=>?_) (fun e3=>by refine bO.ret (sE.r ?_);exact sZ)
  simp only[aB] at e3
  refine bO.ret (sE.r ?_)
  refine ⟨fun q=>(by cases q),(by simp),fun w hw=>?_⟩
  rw[aJ.1 hw];exact ⟨e3,h5⟩
 refine bO.ite (fun e2=>?_) (fun e2=>?_)
 ·have hn:v=[]:=by
   simp only[beq_iff_eq,Int.ofNat_eq_natCast] at e2
   exact List.length_eq_zero_iff.1 (by omega)
  refine bO.ret (sE.l ?_)
  exact fun _=>⟨h,hv.1 hn,hr.2.2,hr.1⟩
 have h6:=hv.2.1
 have hne:v.length≠0:=by
  simp only[beq_iff_eq,Int.ofNat_eq_natCast] at e2;omega
 refine bO.b5 (fun o:List uV=>o.length=v.length) (bO.bQ (bO.cT ?_)) (fun o ho=>?_)
 ·refine bO.loop (fun t:List uV × Int=>0≤t.2∧t.2≤v.length∧(t.1.length:Int)=t.2) (fun t=>(v.length - t.2).toNat) ⟨by simp,by simp,by simp⟩ (by dsimp only;omega) ?_
  rintro ⟨o,t⟩ ⟨g1,g2,g3⟩
  dsimp only at g1 g2 g3 ⊢
  simp (disch:=omega) only[wr,Int.ofNat_eq_natCast]
  refine bO.bR (bO.ite (fun e1=>?_) (fun e1=>?_))
  ·simp only[aB] at e1
   have hw:=hv.2.2 _ (c6 (d:=default) (show t.toNat<v.length by omega))
   refine bO.b5 (fun o:List uV=>(o.length:Int)=t+1) (bO.bQ (bO.bY (bW ⟨g1,e1⟩) (bO.bY (bW ⟨g1,e1⟩) (bO.b7 (bO.bY (bW (by rw[hr.2.1];exact hw)) (bO.b7 (bO.bY (cS ?_) (bO.b7 ?_)))))))) (fun o ho=>by refine bO.ret (sE.r ?_);exact ⟨⟨by dsimp only;omega,by dsimp only;omega,ho⟩,by dsimp only;omega⟩)
   ·simp only[List.length_singleton];omega
   ·refine bO.ret (sE.r ?_)
    rw[aG,List.length_singleton];omega
  ·simp only[aB] at e1
   refine bO.ret (sE.l (sE.l ?_))
   show o.length=v.length
   omega
 ·refine bO.ret (sE.l ?_)
  intro q
  have q:o=[]:=q
  rw[q] at ho
  exact absurd ho.symm hne
end Go.Proofs.YtdbfbedholdjaaaGreat

namespace Go.Proofs.YtdbfbedholdjaaaGreat
open Go Go.Dl
variable [dO]
set_option maxRecDepth 100000
set_option maxHeartbeats 8000000
theorem bO.upI {A:Type} {K:Nat} {f:Int→Option (A ⊕ Int)} {p:A→Prop} (n:Nat) (P:Nat→Prop) (hK:n<K) (hs:∀ i:Nat,i<n→(∀ j,j<i→P j)→bO (f i) (sE p (fun t=>t=(i:Int)+1∧P i))) (he:(∀ i,i<n→P i)→bO (f n) (sE p (fun _=>False))):bO (iter K f 0) p:=by
 refine bO.loop (fun t=>∃ i:Nat,t=i∧i≤n∧∀ j,j<i→P j) (fun t=>n - t.toNat) ⟨0,rfl,by omega,by simp⟩ (by simpa using hK) ?_
 rintro t ⟨i,rfl,hi,hP⟩
 by_cases h:i=n
 ·subst h
  refine (he hP).zG ?_
  rintro (a | t) h
  ·exact h
  ·exact h.elim
 ·refine (hs i (by omega) hP).zG ?_
  rintro (a | t) h
  ·exact h
  ·obtain ⟨h1,h2⟩:=h
   subst h1
   refine ⟨⟨i+1,by omega,by omega,fun j hj=>?_⟩,?_⟩
   ·by_cases h:j=i
    ·subst h;exact h2
    ·exact hP j (by omega)
   ·omega
theorem aUF {K:Nat} {d:iR} {s:Bytes}:cQ (F92 K d s) (fun v=>v=(d.cD == s)):=⟨_,rfl,rfl⟩
theorem aRQ {K:Nat} {d:hU} {s:Bytes}:cQ (aTB K d s) (fun v=>v=(d.cD == s)):=⟨_,rfl,rfl⟩
theorem aJK {K:Nat} {l:List iR} {s:Bytes} (hK:100000<K) (hl:l.length≤6004):cQ (aC6 K l s) (fun v=>v=ix (fun d:iR=>d.cD == s) l):=by
 refine cQ.of ?_
 unfold aC6
 refine bO.b5 (fun _=>ix (fun d:iR=>d.cD == s) l = -1) (bO.bQ (bO.cT ?_)) (fun _ h=>by refine bO.ret (sE.l ?_);exact h.symm)
 refine bO.upI l.length (fun i=>((l.getD i default).cD == s)=false) (by omega) (fun i hi hb=>?_) (fun hb=>?_)
 ·simp (disch:=omega) only[wr,Int.ofNat_eq_natCast]
  refine bO.bR (bO.dN (by simp only[aB];omega) ?_)
  rw[Int.toNat_natCast]
  refine bO.b5 (fun _=>((l.getD i default).cD == s)=false) (bO.bQ (bO.bY (bW (by omega)) (bO.b7 (bO.call aUF ?_)))) (fun _ h=>by refine bO.ret (sE.r ?_);exact ⟨rfl,h⟩)
  rintro _ rfl
  refine bO.ite (fun e=>?_) (fun e=>by refine bO.ret (sE.r ?_);simpa using e)
  refine bO.ret (sE.l (sE.r (sE.r ?_)))
  exact (aAS (z:=default) hi hb e).symm
 ·simp (disch:=omega) only[wr,Int.ofNat_eq_natCast]
  refine bO.bR (bO.dA (by simp only[aB];exact Int.lt_irrefl _) ?_)
  refine bO.ret (sE.l (sE.l ?_))
  exact yI (z:=default) hb
theorem aBH {K:Nat} {u:cK} {s:Bytes} (hK:100000<K) (h:Sm u):cQ (F42 K u s) (fun v=>v=vC u s):=by
 refine cQ.of ?_
 unfold F42
 refine bO.call (aJK hK h.len) ?_
 rintro _ rfl
 refine bO.ret (sE.l ?_)
 rfl
theorem aUG {K:Nat} {l:List Int} {x:Int} (hK:100000<K) (hl:l.length≤20000):cQ (F93 K l x) (fun v=>decide (v ≥ 0)=l.contains x):=by
 refine cQ.of ?_
 unfold F93
 refine bO.b5 (fun _=>l.contains x=false) (bO.bQ (bO.cT ?_)) (fun _ h=>by refine bO.ret (sE.l ?_);rw[h];decide)
 refine bO.upI l.length (fun i=>l.getD i default≠x) (by omega) (fun i hi hb=>?_) (fun hb=>?_)
 ·simp (disch:=omega) only[wr,Int.ofNat_eq_natCast]
  refine bO.bR (bO.dN (by simp only[aB];omega) ?_)
  rw[Int.toNat_natCast]
  refine bO.b5 (fun _=>l.getD i default≠x) (bO.bQ (bO.bY (bW (by omega)) (bO.b7 (bO.bR (bO.ite (fun e=>?_) (fun e=>?_)))))) (fun _ h=>by refine bO.ret (sE.r ?_);exact ⟨rfl,h⟩)
  ·refine bO.ret (sE.l (sE.r (sE.r ?_)))
   rw[List.contains_iff_mem.2 (beq_iff_eq.1 e ▸ c6 hi)]
   exact decide_eq_true (by omega)
  ·refine bO.ret (sE.r ?_)
   exact fun q=>e (beq_iff_eq.2 q.symm)
 ·simp (disch:=omega) only[wr,Int.ofNat_eq_natCast]
  refine bO.bR (bO.dA (by simp only[aB];exact Int.lt_irrefl _) ?_)
  refine bO.ret (sE.l (sE.l ?_))
  rw[← Bool.not_eq_true]
  intro hc
  obtain ⟨i,hi,rfl⟩:=List.getElem_of_mem (List.contains_iff_mem.1 hc)
  refine hb i hi ?_
  rw[List.getD,aF hi];rfl
theorem aKl {K:Nat} {l:List Int} {x:Int} (hK:100000<K) (hl:l.length≤20000):cQ (F46 K l x) (fun v=>v=l.contains x):=by
 refine cQ.of ?_
 unfold F46
 refine bO.call (aUG hK hl) (fun v hv=>?_)
 refine bO.ret (sE.l ?_)
 exact hv
theorem aBI {K:Nat} {u:cK} {d:Int}:cQ (F45 K u d) (fun v=>v=kd u d):=by
 refine cQ.of ?_
 unfold F45 kd
 refine bO.bR (bO.ite (fun e=>?_) (fun e=>?_))
 ·simp only[aL,aB,Int.ofNat_eq_natCast] at e
  refine bO.ret (sE.l ?_)
  rw[aE e]
 ·simp only[aL,aB,Int.ofNat_eq_natCast] at e
  refine bO.bY (bW (by omega)) ?_
  refine bO.b7 (bO.bR (bO.ret (sE.l ?_)))
  rw[aD e]
theorem yK {K:Nat} {u:cK} {d:Int} (hK:100000<K) (h:Sm u):cQ (F10 K u d) (fun v=>v=chain u d):=by
 have hl:=h.len
 refine cQ.of ?_
 unfold F10
 refine bO.b5 (fun v=>v=chain u d) (bO.bQ (bO.cT ?_)) (fun v hv=>by refine bO.ret (sE.l ?_);exact hv)
 refine bO.loop (fun t:Int × List Int=>t.2.length+unv u.bP.length t.2=u.bP.length∧∃ n,unv u.bP.length t.2<n∧chF u n t.2 t.1=chain u d) (fun t=>unv u.bP.length t.2) ⟨by rw[nY];simp,u.bP.length+1,by rw[nY];simp,rfl⟩ (by show unv _ []<K;rw[nY];omega) ?_
 rintro ⟨e,out⟩ ⟨h1,n,h2,h3⟩
 dsimp only at h1 h2 h3 ⊢
 obtain ⟨n,rfl⟩:∃ m,n=m+1:=⟨n - 1,by omega⟩
 rw[chF] at h3
 refine bO.call aBI ?_
 rintro _ rfl
 refine bO.c8 (fun _=>aKl (by omega) (by omega)) (fun v hv=>?_)
 refine bO.ite (fun c=>?_) (fun c=>?_)
 ·simp only[aC,beq_iff_eq,aQ] at c
  have hv':=hv (by simp [c.1])
  have hc:out.contains e=false:=by rw[← hv'];exact c.2
  rw[aE ⟨c.1,hc⟩] at h3
  have hd:=gE c.1 (by decide)
  have hu:=uE u.bP.length out e hd.1 hd.2 hc
  refine bO.bT (bO.bQ ?_)
  refine bO.bY (cS ?_) (bO.b7 (bO.bY (bW hd) (bO.b7 (bO.bR ?_))))
  ·simp only[List.length_singleton];omega
  refine bO.cH (by decide) (aBH (by omega) h) ?_
  rintro _ rfl
  refine bO.ret (sE.r (bO.ret (sE.r ?_)))
  exact ⟨⟨by simp;omega,n,by dsimp only;omega,h3⟩,by dsimp only;omega⟩
 ·have hc:¬ (kd u e=2∧out.contains e=false):=fun ⟨c1,c2⟩=>by
   have hv':=hv (by simp [c1])
   rw[c2] at hv'
   exact c (by simp [c1,hv'])
  rw[aD hc] at h3
  refine bO.ret (sE.l (sE.l ?_))
  exact h3
theorem aGj {K:Nat} {d:iR} {s:Bytes} (hK:100000<K) (hl:d.bS.length≤6004):cQ (tW K d.bS s) (fun v=>v=own d s):=by
 refine cQ.of ?_
 unfold tW
 refine bO.b5 (fun _=>own d s = -1) (bO.bQ (bO.cT ?_)) (fun _ h=>by refine bO.ret (sE.l ?_);exact h.symm)
 refine bO.upI d.bS.length (fun i=>((d.bS.getD i default).cD == s)=false) (by omega) (fun i hi hb=>?_) (fun hb=>?_)
 ·simp (disch:=omega) only[wr,Int.ofNat_eq_natCast]
  refine bO.bR (bO.dN (by simp only[aB];omega) ?_)
  rw[Int.toNat_natCast]
  refine bO.b5 (fun _=>((d.bS.getD i default).cD == s)=false) (bO.bQ (bO.bY (bW (by omega)) (bO.b7 (bO.call aRQ ?_)))) (fun _ h=>by refine bO.ret (sE.r ?_);exact ⟨rfl,h⟩)
  rintro _ rfl
  refine bO.ite (fun e=>?_) (fun e=>by refine bO.ret (sE.r ?_);simpa using e)
  refine bO.ret (sE.l (sE.r (sE.r ?_)))
  exact (aAS (z:=default) hi hb e).symm
 ·simp (disch:=omega) only[wr,Int.ofNat_eq_natCast]
  refine bO.bR (bO.dA (by simp only[aB];exact Int.lt_irrefl _) ?_)
  refine bO.ret (sE.l (sE.l ?_))
  exact yI (z:=default) hb
theorem aKk {K:Nat} {u:cK} {d:Int} {s:Bytes} (hK:100000<K) (h:Sm u):cQ (F87 K u d s) (fun v=>v=l9 u d s):=by
 have hl:=h.len
 refine cQ.of ?_
 unfold F87
 refine bO.jD (yK (by omega) (by assumption)) ?_
 refine bO.jD (aBI) ?_
 refine bO.b5 (fun l=>l=line u d) ?_ ?_
 ·unfold line
  refine bO.ite (fun e=>?_) (fun e=>?_)
  ·refine bO.ret (sE.r ?_)
   rw[aE (by simpa using e)]
  ·refine bO.ret (sE.r ?_)
   rw[aD (by simpa using e)]
 rintro _ rfl
 have h2:=aH5 h d
 refine bO.b5 (fun _=>l9 u d s=(⟨0,0⟩,false)) (bO.bQ (bO.cT ?_)) (fun _ h=>by refine bO.ret (sE.l ?_);exact h.symm)
 refine bO.loop (fun t:Int=>0≤t∧t≤(line u d).length∧wY u s ((line u d).drop t.toNat)=l9 u d s) (fun t=>((line u d).length - t).toNat) ⟨by simp,by simp,rfl⟩ (by simp;omega) (fun t ⟨g1,g2,g3⟩=>?_)
 obtain ⟨n,rfl⟩:=aP g1
 rw[Int.toNat_natCast] at g3
 simp (disch:=omega) only[wr,Int.ofNat_eq_natCast]
 refine bO.bR (bO.ite (fun e=>?_) (fun e=>?_))
 ·simp only[aB] at e
  have hn:n<(line u d).length:=by omega
  rw[kD default hn,wY] at g3
  have hx:=aGk (c6 (d:=default) hn)
  refine bO.bT (bO.bQ ?_)
  rw[Int.toNat_natCast]
  refine bO.bY (bW (by omega)) (bO.b7 (bO.bY (bW hx) (bO.b7 (bO.bR ?_))))
  refine bO.call (aGj (d:=dc u ((line u d).getD n default)) (by omega) (h.aA4 _)) ?_
  rintro _ rfl
  refine bO.ite (fun c=>?_) (fun c=>?_)
  ·simp only[aB,ge_iff_le] at c
   rw[aE c] at g3
   refine bO.ret (sE.l (sE.r (sE.r ?_)))
   exact g3
  ·simp only[aB,ge_iff_le] at c
   rw[aD c] at g3
   refine bO.ret (sE.r (bO.ret (sE.r ?_)))
   exact ⟨⟨by omega,by omega,by rw[show ((n:Int)+1).toNat=n+1 by omega];exact g3⟩,by omega⟩
 ·simp only[aB] at e
  rw[List.drop_eq_nil_of_le (by omega),wY] at g3
  refine bO.ret (sE.l (sE.l ?_))
  exact g3.symm
theorem uN {K:Nat} {u:cK} {d k:Int} (hk:k≠0):cQ (F50 K u d k) (fun v=>v=(kd u d == k)):=by
 refine cQ.of ?_
 unfold F50
 by_cases hd:0≤d∧d<u.bP.length
 ·refine bO.bY (by rw[bW hd];simp) (bO.b7 (bO.bR ?_))
  refine bO.ret (sE.l ?_)
  unfold kd
  rw[aD (by omega)]
  simp [hd.1,hd.2]
 ·have e:(decide (d ≥ 0) && decide (d<Int.ofNat u.bP.length))=false:=by
   rw[Bool.and_eq_false_iff]
   simp only[decide_eq_false_iff_not,Int.ofNat_eq_natCast]
   omega
  rw[e]
  refine bO.bY rfl (bO.b7 (bO.bR ?_))
  refine bO.ret (sE.l ?_)
  unfold kd
  rw[aE (by omega)]
  simp;omega
def num (u:cK) (d k:Int):Int:=if kd u d=k then ((u.bP.take d.toNat).countP fun x=>x.bU == k:Nat) else -1
theorem aLr {K:Nat} {u:cK} {d k:Int} (hK:100000<K) (hk:k≠0) (h:Sm u):cQ (F47 K u d k) (fun v=>v=num u d k):=by
 have hl:=h.len
 refine cQ.of ?_
 unfold F47 num
 refine bO.call (uN hk) ?_
 rintro _ rfl
 refine bO.ite (fun e=>?_) (fun e=>?_)
 ·simp only[aQ,beq_eq_false_iff_ne] at e
  refine bO.ret (sE.l ?_)
  rw[aD e]
 ·simp only[aQ,Bool.not_eq_false,beq_iff_eq] at e
  have hd:=gE e hk
  rw[aE e]
  have e0:(u.bP.drop (0:Int).toNat).take (d.toNat - (0:Int).toNat)=u.bP.take d.toNat:=by simp
  refine bO.bY ?_ (bO.b7 (bO.bR ?_))
  ·simp only[c5,aC,aB];omega
  rw[e0]
  have hlen:(u.bP.take d.toNat).length≤6004:=by rw[aK];omega
  generalize u.bP.take d.toNat=l at hlen
  refine bO.b5 (fun v:Int=>v=(l.countP fun x=>x.bU == k:Nat)) (bO.bQ (bO.cT ?_)) (fun v hv=>by refine bO.ret (sE.l ?_);exact hv)
  refine bO.loop (fun t:Int × Int=>0≤t.2∧t.2≤l.length∧t.1=((l.take t.2.toNat).countP fun x=>x.bU == k:Nat)) (fun t=>(l.length - t.2).toNat) ⟨by simp,by simp,by simp⟩ (by dsimp only;omega) ?_
  rintro ⟨c,t⟩ ⟨g1,g2,g3⟩
  dsimp only at g1 g2 g3 ⊢
  obtain ⟨n,rfl⟩:=aP g1
  rw[Int.toNat_natCast] at g3
  have hc:(l.take n).countP (fun x=>x.bU == k)≤l.length:=aS List.countP_le_length (by rw[aK];omega)
  simp (disch:=omega) only[wr,Int.ofNat_eq_natCast]
  refine bO.bR (bO.ite (fun e=>?_) (fun e=>?_))
  ·simp only[aB] at e
   have iT:(l.take (n+1)).countP (fun x=>x.bU == k)=(l.take n).countP (fun x=>x.bU == k)+(if ((l.getD n default).bU == k)=true then 1 else 0):=by
    rw[dZ default (by omega),List.countP_append,List.countP_singleton]
   rw[Int.toNat_natCast]
   refine bO.b5 (fun v:Int=>v=((l.take (n+1)).countP fun x=>x.bU == k:Nat)) (bO.bQ (bO.bY (bW (by omega)) (bO.b7 (bO.bR (bO.ite (fun e2=>?_) (fun e2=>?_)))))) (fun v hv=>by refine bO.ret (sE.r ?_);exact ⟨⟨by dsimp only;omega,by dsimp only;omega,by dsimp only;rw[show ((n:Int)+1).toNat=n+1 by omega];exact hv⟩,by dsimp only;omega⟩)
   ·rw[aE e2] at iT
    refine bO.ret (sE.r ?_)
    rw[iT];omega
   ·rw[aD e2] at iT
    refine bO.ret (sE.r ?_)
    rw[iT];omega
  ·simp only[aB] at e
   refine bO.ret (sE.l (sE.l ?_))
   rw[List.take_of_length_le (by omega)] at g3
   exact g3
theorem aBG {K:Nat} {u:cK} {d:Int} (hK:100000<K) (h:Sm u):cQ (F11 K u d) (fun v=>v=num u d 2):=by
 refine cQ.of ?_
 unfold F11
 refine bO.call (aLr hK (by decide) h) ?_
 rintro _ rfl
 refine bO.ret (sE.l ?_)
 rfl
theorem aKo {K:Nat} {u:cK} {d:Int} (hK:100000<K) (h:Sm u):cQ (F22 K u d) (fun v=>v=num u d 1):=by
 refine cQ.of ?_
 unfold F22
 refine bO.call (aLr hK (by decide) h) ?_
 rintro _ rfl
 refine bO.ret (sE.l ?_)
 rfl
end Go.Proofs.YtdbfbedholdjaaaGreat
