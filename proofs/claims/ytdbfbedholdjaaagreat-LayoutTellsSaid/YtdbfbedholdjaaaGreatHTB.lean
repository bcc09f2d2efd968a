/- No conditions. -/
import Derived.Test.YtdbfbedholdjaaaGreatHTA
set_option linter.unusedVariables false
set_option linter.unusedSimpArgs false
set_option linter.unusedSectionVars false
namespace Go.Proofs.YtdbfbedholdjaaaGreat
open Go Go.Dl
variable [dO]
set_option maxRecDepth 100000
set_option maxHeartbeats 8000000
def aDs (s:fF) (g:Bytes) (i:List Int):fF:=⟨s.cL,s.cO,s.dI,s.dW,g,i,s.b8,s.fY,s.eP,s.eN,s.fD,s.fW⟩
theorem aUr (u:cK) (d:Int) (s:fF) (x:eZ) (g:Bytes) (i:List Int):pL u d (aDs s g i) x=aDs (pL u d s x) g i:=by
 unfold pL
 by_cases e1:x.cB.bU=6
 ·rw[aE e1,aE e1];rfl
 rw[aD e1,aD e1]
 by_cases e2:x.cB.bU=7
 ·rw[aE e2,aE e2];rfl
 rw[aD e2,aD e2]
 by_cases e3:x.kE=1
 ·rw[aE e3,aE e3];rfl
 rw[aD e3,aD e3]
 by_cases e4:x.kE=2
 ·rw[aE e4,aE e4];rfl
 rw[aD e4,aD e4]
theorem aHQ (u:cK) (d:Int) (g:Bytes) (i:List Int):∀ (l:List eZ) (s:fF),l.foldl (pL u d) (aDs s g i)=aDs (l.foldl (pL u d) s) g i
 | [],_=>rfl
 | x::l,s=>by rw[List.foldl_cons,List.foldl_cons,aUr,aHQ u d g i l]
theorem aUs (u:cK) (s:fF) (n:Nat) (g:Bytes) (i:List Int):stp u (aDs s g i) n=aDs (stp u s n) g i:=by
 unfold stp
 by_cases e1:(u.bP.getD n default).bU=1
 ·rw[aE e1,aE e1];rfl
 rw[aD e1,aD e1]
 by_cases e2:(u.bP.getD n default).bU=2
 ·rw[aE e2,aE e2];rfl
 rw[aD e2,aD e2]
 by_cases e3:(u.bP.getD n default).bU=3
 ·rw[aE e3,aE e3];exact aHQ u n g i _ s
 rw[aD e3,aD e3]
 by_cases e4:(u.bP.getD n default).bU=4
 ·rw[aE e4,aE e4];rfl
 rw[aD e4,aD e4]
theorem rV (u:cK) (a:Bytes) (b:List Int) (g:Bytes) (i:List Int):∀ n,lay u n (im0 g i)=aDs (lay u n (im0 a b)) g i
 | 0=>rfl
 | n+1=>by rw[qM,qM,rV u a b g i n,aUs]
theorem aYZ {K:Nat} {u:cK} {d:Int} {s:fF} (hK:100000<K) (h:Sm u) (hw:Wf u) (hk:kd u d=3) (hs:Nt 1000 s) (hg:s.dJ.length≤10000000) (hi:s.dM.length≤10000000):cQ (F60 K u d s) (fun v=>v=(dc u d).cA.foldl (pL u d) (aDs s (s.dJ++dL (dc u d).cA) (s.dM++inits (dc u d).cA))):=by
 have hd:=gE hk (by decide)
 have hvl:=(hw.sz d).v
 have hpr:=(hw d hd).prg hk
 have hin:=((hw d hd).a32 hk).1
 have hll:=iI (dc u d).cA
 have hil:=n7 (dc u d).cA
 have hrs:=jU (dc u d).cA
 refine cQ.of ?_
 unfold F60
 refine bO.bY (bW hd) (bO.b7 (bO.bR ?_))
 refine bO.call (aJD (l:=(dc u d).cA) hK (by omega) (fun x hx=>(hpr x hx).1)) ?_
 rintro _ rfl
 dsimp only
 rw[aGf hin]
 refine bO.bY (cS (by omega)) (bO.b7 (bO.bY (cS (by omega)) (bO.b7 ?_)))
 generalize hs0:aDs s (s.dJ++dL (dc u d).cA) (s.dM++inits (dc u d).cA)=s0
 have hn0:Nt 1000 s0:=by rw[← hs0];exact hs
 refine bO.b5 (fun v:fF=>v=(dc u d).cA.foldl (pL u d) s0) (bO.bQ (bO.cT ?_)) (fun v hv=>tr hv)
 rw[show (⟨s.cL,s.cO,s.dI,s.dW,(s.dJ++dL (dc u d).cA),(s.dM++inits (dc u d).cA),s.b8,s.fY,s.eP,s.eN,s.fD,s.fW⟩:fF)=s0 from hs0]
 generalize (dc u d).cA=l at hvl
 refine bO.qJ l.length (fun i (t:fF × Int)=>t=((l.take i).foldl (pL u d) s0,(i:Int))) rfl (by omega) ?_ ?_
 ·rintro i hi _ rfl
  have iT:(l.take (i+1)).foldl (pL u d) s0=pL u d ((l.take i).foldl (pL u d) s0) (l.getD i default):=by
   rw[dZ default hi,List.foldl_append];rfl
  have hnt:=aBK (u:=u) (d:=d) (l.take i) hn0
  rw[aK] at hnt
  dsimp only
  generalize (l.take i).foldl (pL u d) s0=o at iT hnt
  obtain ⟨n1,n2,n3,n4⟩:=hnt
  refine bO.bR (bO.dN (by simpa using hi) ?_)
  rw[Int.toNat_natCast]
  generalize l.getD i default=x at iT
  refine bO.b5 (fun v:fF=>v=(l.take (i+1)).foldl (pL u d) s0) (bO.bQ (bO.bY (bW (by omega)) (bO.b7 (bO.cH (by decide) (aRe hK hw) ?_)))) (fun v hv=>by rw[wr (by omega) (by omega),hv];exact tr rfl)
  rintro _ rfl
  rw[iT]
  refine bO.b5 (fun v:fF=>v=pL u d o x) (bO.bQ (bO.bR ?_)) (fun v hv=>tr hv)
  refine bO.ite (fun e1=>bO.bR ?_) (fun e1=>bO.bR ?_)
  ·have e1:=beq_iff_eq.1 e1
   refine bO.cH (by decide) (iV hK h) ?_
   rintro _ rfl
   refine bO.cH (by decide) (aGc hK h) ?_
   rintro _ rfl
   refine bO.bY (cS (by rw[List.length_singleton];omega)) (bO.b7 (tr ?_))
   rw[pL,aE e1]
  have e1:¬ x.cB.bU=6:=fun q=>e1 (beq_iff_eq.2 q)
  refine bO.ite (fun e2=>bO.bR ?_) (fun e2=>bO.bR ?_)
  ·have e2:=beq_iff_eq.1 e2
   refine bO.bY (cS (by rw[List.length_singleton];omega)) (bO.b7 (tr ?_))
   rw[pL,aD e1,aE e2]
  have e2:¬ x.cB.bU=7:=fun q=>e2 (beq_iff_eq.2 q)
  refine bO.ite (fun e3=>?_) (fun e3=>bO.bR ?_)
  ·have e3:=beq_iff_eq.1 e3
   refine bO.bY (cS (by rw[List.length_singleton];omega)) (bO.b7 (tr ?_))
   rw[pL,aD e1,aD e2,aE e3];rfl
  have e3:¬ x.kE=1:=fun q=>e3 (beq_iff_eq.2 q)
  refine bO.ite (fun e4=>?_) (fun e4=>?_)
  ·have e4:=beq_iff_eq.1 e4
   refine bO.bY (cS (by rw[List.length_singleton];omega)) (bO.b7 (tr ?_))
   rw[pL,aD e1,aD e2,aD e3,aE e4];rfl
  ·have e4:¬ x.kE=2:=fun q=>e4 (beq_iff_eq.2 q)
   refine tr ?_
   rw[pL,aD e1,aD e2,aD e3,aD e4]
 ·rintro _ rfl
  refine bO.bR (bO.dA (by simp) (tl ?_))
  show (l.take l.length).foldl _ s0=_
  rw[bD]
theorem aRf {u:cK} {w:dS} (h:w∈j0 u):w.dF<0∨(Vw u w∧kd u w.cZ=2):=by
 unfold j0 at h
 rcases aZ.1 h with h | h
 ·obtain ⟨d,hd,h⟩:=List.mem_flatMap.1 h
  have hd:=List.mem_range.1 hd
  unfold mws at h
  split at h
  ·rename_i e
   obtain ⟨m,hm,rfl⟩:=List.mem_map.1 h
   have hm:=List.mem_range.1 (List.mem_filter.1 hm).1
   refine .inr ⟨⟨⟨by dsimp only;omega,by dsimp only;omega⟩,by dsimp only;omega,?_⟩,?_⟩
   ·show (m:Int)<(u.bP.getD ((d:Int).toNat) default).bS.length
    rw[Int.toNat_natCast];omega
   ·show kd u (d:Int)=2
    rw[yJ ⟨by omega,by omega⟩,dc,Int.toNat_natCast];exact e
  ·cases h
 ·obtain ⟨d,hd,h⟩:=List.mem_flatMap.1 h
  unfold pws at h
  split at h
  ·rw[aJ.1 h];exact .inl (show (-1:Int)<0 by decide)
  ·cases h
abbrev pre (u:cK) (n:Nat):fF:=im0 (dL (pv (u.bP.take n))) (inits (pv (u.bP.take n)))
theorem aRg {u:cK} {n:Nat} (hn:n<u.bP.length):lay u (n+1) (pre u (n+1))=if (u.bP.getD n default).bU=3 then (u.bP.getD n default).cA.foldl (pL u n) (aDs (lay u n (pre u n)) ((lay u n (pre u n)).dJ++dL (u.bP.getD n default).cA) ((lay u n (pre u n)).dM++inits (u.bP.getD n default).cA)) else stp u (lay u n (pre u n)) n:=by
 have hp:=aWf hn
 have h1:(lay u n (pre u n)).dJ=dL (pv (u.bP.take n)):=by rw[pre,rV u [] []];rfl
 have h2:(lay u n (pre u n)).dM=inits (pv (u.bP.take n)):=by rw[pre,rV u [] []];rfl
 rw[qM]
 by_cases e:(u.bP.getD n default).bU=3
 ·rw[aE e] at hp
  rw[aE e,h1,h2,← aA3,← aEG,← hp,pre,rV u (dL (pv (u.bP.take n))) (inits (pv (u.bP.take n))),stp,aD (by omega),aD (by omega),aE e]
 ·rw[aD e,bN] at hp
  rw[aD e,pre,hp]
theorem aY0 {K:Nat} {u:cK} (hK:100000<K) (h:Sm u) (hw:Wf u) (hnm:Nm u):cQ (F20 K u) (fun v=>v=img u):=by
 have hl:=hw.len'
 refine cQ.of ?_
 unfold F20
 refine bO.b5 (fun v:T9=>v=thT (lay u u.bP.length (pre u u.bP.length))) (bO.bQ (bO.cT ?_)) ?_
 ·refine bO.qJ u.bP.length (fun i (t:T13)=>t=aL6 (lay u i (pre u i)) i) rfl (by omega) ?_ ?_
  ·rintro n hn _ rfl
   have hm:=aCH hw (dL (pv (u.bP.take n))) (inits (pv (u.bP.take n))) n
   have hs:=aRg hn
   have hgl:(lay u n (pre u n)).dJ.length≤10000000:=by
    rw[pre,rV u [] []]
    show (dL (pv (u.bP.take n))).length≤_
    have h1:=iI (pv (u.bP.take n))
    have h2:=jU (pv (u.bP.take n))
    have h3:=aCI (l:=u.bP.take n) (fun d hd=>hw.all d (List.mem_of_mem_take hd))
    rw[aK] at h3
    omega
   have hil:(lay u n (pre u n)).dM.length≤10000000:=by
    rw[pre,rV u [] []]
    show (inits (pv (u.bP.take n))).length≤_
    have h1:=n7 (pv (u.bP.take n))
    have h2:=jU (pv (u.bP.take n))
    have h3:=aCI (l:=u.bP.take n) (fun d hd=>hw.all d (List.mem_of_mem_take hd))
    rw[aK] at h3
    omega
   generalize lay u n (pre u n)=s at hm hs hgl hil
   obtain ⟨m1,m2,m3,⟨t1,t2,t3,t4⟩,m5⟩:=hm
   have hnn:0≤(n:Int)∧(n:Int)<u.bP.length:=⟨by omega,by omega⟩
   have hkd:=yJ hnn
   have hdn:dc u n=u.bP.getD n default:=by rw[dc,Int.toNat_natCast]
   have hsz:=hw.sz n
   have aMZ:=(hw n hnn).fac
   rw[hkd] at aMZ
   rw[hdn] at hkd hsz aMZ
   have hm:=hsz.m
   have hp:=hsz.p
   unfold aL6
   dsimp only
   refine bO.bR (bO.dN (by simpa using hn) ?_)
   refine bO.b5 (fun v:fF=>v=lay u (n+1) (pre u (n+1))) (bO.bQ (bO.bY (bW hnn) (bO.b7 (bO.bR ?_)))) (fun v hv=>by rw[hv,wr (by omega) (by omega)];exact bO.bR (tr rfl))
   rw[hs,Int.toNat_natCast]
   refine bO.b5 (fun v:fF=>v=if (u.bP.getD n default).bU=3 then (u.bP.getD n default).cA.foldl (pL u n) (aDs s (s.dJ++dL (u.bP.getD n default).cA) (s.dM++inits (u.bP.getD n default).cA)) else stp u s n) (bO.bQ (bO.ite (fun e1=>?_) (fun e1=>bO.ite (fun e2=>?_) (fun e2=>bO.ite (fun e3=>?_) (fun e3=>bO.ite (fun e4=>bO.bR ?_) (fun e4=>?_)))))) (fun v hv=>tr hv)
   ·have e1:=beq_iff_eq.1 e1
    have aMZ:=aMZ e1
    rw[aD (by omega),stp,aE e1]
    generalize (u.bP.getD n default).bS=ms at hm hp aMZ
    refine bO.b5 (fun v:List Bytes=>v=ms.map kS) (bO.bQ (bO.cT ?_)) (fun sg hsg=>?_)
    ·refine bO.qJ ms.length (fun j (t:List Bytes × Int)=>t=((ms.take j).map kS,(j:Int))) rfl (by omega) ?_ ?_
     ·rintro j hj _ rfl
      have iT:ms.take (j+1)=ms.take j++[ms.getD j default]:=dZ default hj
      have hlj:(ms.take j).length≤6:=by rw[aK];omega
      have hpm:=hp _ (c6 (d:=default) hj)
      have hfm:=aMZ _ (c6 (d:=default) hj)
      dsimp only
      refine bO.bR (bO.dN (by simpa using hj) ?_)
      rw[Int.toNat_natCast]
      refine bO.b5 (fun v:List Bytes=>v=(ms.take (j+1)).map kS) (bO.bQ (bO.bY (bW (by omega)) (bO.b7 (bO.call (aJC hK (aS hpm.1 (by decide)) hfm) ?_)))) (fun v hv=>by rw[wr (by omega) (by omega),hv];exact tr rfl)
      rintro _ rfl
      refine bO.bY (cS (by rw[aU,List.length_singleton];omega)) (bO.b7 (tr ?_))
      rw[iT,bK];rfl
     ·rintro _ rfl
      refine bO.bR (bO.dA (by simp) (tl ?_))
      show (ms.take ms.length).map _=_
      rw[bD]
    ·refine bO.bY (cS (by rw[List.length_singleton];omega)) (bO.b7 (tr ?_))
     rw[hsg]
   ·have e2:=beq_iff_eq.1 e2
    rw[aD (by omega)]
    refine bO.call (aYU hK h hw hnm (by rw[hkd];exact e2)) ?_
    rintro _ rfl
    refine bO.bY (cS (by rw[List.length_singleton];omega)) (bO.b7 (tr ?_))
    rw[stp,aD (by omega),aE e2]
   ·have e3:=beq_iff_eq.1 e3
    rw[aE e3]
    refine bO.call (aYZ (s:=s) hK h hw (by rw[hkd];exact e3) ⟨by omega,by omega,by omega,by omega⟩ hgl hil) ?_
    rintro _ rfl
    refine tr ?_
    rw[hdn]
   ·have e4:=beq_iff_eq.1 e4
    rw[aD (by omega)]
    refine bO.cH (by decide) (iV hK h) ?_
    rintro _ rfl
    refine bO.cH (by decide) (aGd hK hw) ?_
    rintro _ rfl
    refine bO.bY (cS (by rw[List.length_singleton];omega)) (bO.b7 (tr ?_))
    rw[stp,aD (by omega),aD (by omega),aD (by omega),aE e4]
   ·simp only[beq_iff_eq] at e1 e2 e3 e4
    refine tr ?_
    rw[aD e3,stp,aD e1,aD e2,aD e3,aD e4]
  ·rintro _ rfl
   exact bO.bR (bO.dA (by simp [aL6]) (tl rfl))
 ·rintro _ rfl
  have hm:=(aCH hw (dL (pv u.bP)) (inits (pv u.bP)) u.bP.length).o
  rw[pre,bD]
  unfold img
  generalize lay u u.bP.length (im0 (dL (pv u.bP)) (inits (pv u.bP)))=s at hm
  refine bO.call (aQS hK hw) ?_
  rintro _ rfl
  have rB:=qK hw
  have hcd:=fun w (hw2:w∈j0 u)=>aRf hw2
  generalize j0 u=r at rB hcd
  refine bO.b5 (fun o:fF=>o=aEH s (r.map (l8 u))) (bO.bQ (bO.cT ?_)) (fun o ho=>by rw[ho];exact tl rfl)
  refine bO.qJ r.length (fun i (t:fF × Int)=>t=(aEH s ((r.take i).map (l8 u)),(i:Int))) (by show ((⟨_,_,_,_,_,_,_,_,_,_,_,_⟩:fF),(0:Int))=(⟨_,_,_,_,_,_,_,_,_,_,_,_⟩,_);rw[show ((r.take 0).map (l8 u))=s.dI from hm.symm];rfl) (by omega) ?_ ?_
  ·rintro i hi _ rfl
   have iT:r.take (i+1)=r.take i++[r.getD i default]:=dZ default hi
   have hli:(r.take i).length≤84:=by rw[aK];omega
   have hc:=hcd _ (c6 (d:=default) hi)
   dsimp only
   refine bO.bR (bO.dN (by simpa using hi) ?_)
   rw[Int.toNat_natCast]
   generalize r.getD i default=w at iT hc
   refine bO.b5 (fun v:fF=>v=aEH s ((r.take (i+1)).map (l8 u))) (bO.bQ (bO.bY (bW (by omega)) (bO.b7 (bO.bR ?_)))) (fun v hv=>by rw[wr (by omega) (by omega),hv];exact tr rfl)
   refine bO.b5 (fun v:fF × Int × Bytes × Bytes × Bool=>v.1=aEH s ((r.take i).map (l8 u))∧(⟨v.2.1,v.2.2.1,v.2.2.2.1,v.2.2.2.2,0,[]⟩:sL)=l8 u w) ?_ ?_
   ·refine bO.ite (fun e=>?_) (fun e=>?_)
    ·have e:=of_decide_eq_true e
     obtain ⟨hv,hk2⟩:=hc.resolve_left (by omega)
     have hmt:=((hw _ hv.1).cls hk2).mt _ (show sX u w∈(dc u w.cZ).bS from c6 (by have:=hv.2;omega))
     have hps:=(hw.sz w.cZ).p _ (show sX u w∈(dc u w.cZ).bS from c6 (by have:=hv.2;omega))
     refine bO.bY (bW (by omega)) (bO.b7 (bO.call (rU hv) ?_))
     rintro _ rfl
     refine bO.bY (bW (by omega)) (bO.b7 (bO.cH (by decide) (aGc hK h) ?_))
     rintro _ rfl
     refine bO.cH (by decide) (aQU hK (aS hps.1 (by decide)) hmt.1) ?_
     rintro _ rfl
     refine bO.call (aJD hK (aS hps.2 (by decide)) (fun x hx=>.inl (hmt.2 x hx))) ?_
     rintro _ rfl
     refine tr ⟨rfl,?_⟩
     rw[l8,aD (by omega)]
    ·have e:¬ 0≤w.dF:=fun q=>e (decide_eq_true q)
     refine tr ⟨rfl,?_⟩
     rw[l8,aE (by omega)]
   ·rintro ⟨v1,v2,v3,v4,v5⟩ ⟨q1,q2⟩
    dsimp only at q1 q2 ⊢
    subst q1
    refine bO.bY (cS (by show (((r.take i).map (l8 u)).length+1) * 80≤140737488355328;rw[aU];omega)) (bO.b7 (tr ?_))
    rw[q2,iT,bK];rfl
  ·rintro _ rfl
   refine bO.bR (bO.dA (by simp) (tl ?_))
   show aEH s ((r.take r.length).map _)=_
   rw[bD]
end Go.Proofs.YtdbfbedholdjaaaGreat

namespace Go.Proofs.YtdbfbedholdjaaaGreat
open Go Go.Dl
variable [dO]
set_option maxRecDepth 100000
set_option maxHeartbeats 8000000
theorem aUt {u:cK} {d:Int} (h:Sm u) (hw:Wf u) (hk:kd u d=2):Sc (desc u d):=by
 obtain ⟨v,_,rfl,hle⟩:=uR (K:=200000) (by omega) h hw hk
 have h1:=aUu hw d
 have h2:=qL u d
 have h3:=hw.len'
 have h4:=jU (rJ u d)
 refine ⟨?_,?_,?_,?_,?_⟩
 ·show (inits (rJ u d)).length≤_
  rw[n7];omega
 ·show ((p6 u d).map _).length≤_
  rw[aU];omega
 ·show ((p6 u d).map _).length≤_
  rw[aU];omega
 ·show ((sfs u d).map _).length≤_
  rw[aU]
  unfold sfs
  rw[List.length_mergeSort];omega
 ·intro t ht
  obtain ⟨f,_,rfl⟩:=List.mem_map.1 (show t∈(sfs u d).map fun f=>aGZ u d f from ht)
  have:=(hw.sz f).m
  show ((dc u f).bS.map _).length≤_
  rw[aU];omega
structure Mk (s:fF):Prop where
 f:∀ t∈s.cL,t.length≤1000
 c:∀ t∈s.cO,Sc t
theorem aY1 {u:cK} (h:Sm u) (hw:Wf u) {k:Nat} (hk:k<u.bP.length) {s:fF} (hs:Mk s):Mk (stp u s k):=by
 have hkd:=yJ (u:=u) (d:=k) ⟨by omega,by omega⟩
 have hm:=(hw.sz (k:Int)).m
 rw[dc,Int.toNat_natCast] at hkd hm
 obtain ⟨h1,h2⟩:=hs
 unfold stp
 split
 ·refine ⟨fun t ht=>?_,h2⟩
  rcases aZ.1 ht with ht | ht
  ·exact h1 t ht
  ·rw[aJ.1 ht,aU];omega
 split
 ·rename_i e1 e2
  refine ⟨h1,fun t ht=>?_⟩
  rcases aZ.1 ht with ht | ht
  ·exact h2 t ht
  ·rw[aJ.1 ht];exact aUt h hw (by rw[hkd];exact e2)
 split
 ·have hp:=aFy u k (u.bP.getD k default).cA s
  exact ⟨by rw[hp.f];exact h1,by rw[hp.c];exact h2⟩
 split
 ·exact ⟨h1,h2⟩
 ·exact ⟨h1,h2⟩
theorem aRh {u:cK} (h:Sm u) (hw:Wf u) (g:Bytes) (i:List Int):∀ k,k≤u.bP.length→Mk (lay u k (im0 g i))
 | 0,_=>⟨fun t ht=>(by cases ht),fun t ht=>(by cases ht)⟩
 | k+1,hk=>by rw[qM];exact aY1 h hw (by omega) (aRh h hw g i k (by omega))
theorem aY2 {u:cK} (h:Sm u) (hw:Wf u):Si (img u):=by
 have hl:=hw.len'
 obtain ⟨m1,m2,m3,⟨t1,t2,t3,t4⟩,m5⟩:=aCH hw (dL (pv u.bP)) (inits (pv u.bP)) u.bP.length
 obtain ⟨k1,k2⟩:=aRh h hw (dL (pv u.bP)) (inits (pv u.bP)) u.bP.length (aM _)
 have hpv:=aCI hw.all
 have hrs:=jU (pv u.bP)
 have rB:=qK hw
 refine ⟨⟨?_,k1⟩,⟨?_,k2⟩,⟨?_,fun t ht=>?_⟩,?_,?_,?_,?_,?_,?_⟩
 ·exact aS m1 (by omega)
 ·exact aS m2 (by omega)
 ·show ((j0 u).map (l8 u)).length≤_
  rw[aU];omega
 ·have ht:t∈(j0 u).map (l8 u):=ht
  obtain ⟨w,_,rfl⟩:=List.mem_map.1 ht
  unfold l8
  split <;> exact Nat.zero_le _
 ·exact aS t1 (by omega)
 ·have e:(img u).dM=inits (pv u.bP):=by unfold img;rw[rV u [] []];rfl
  rw[e,n7];omega
 ·exact aS t2 (by omega)
 ·exact aS t3 (by omega)
 ·exact aS t4 (by omega)
 ·exact aS m3 (by omega)
def ins (u:cK) (d:Int) (s:Bytes):Int:=if (if kd u d=3 then co1 u d s 6 (q9 u u.bP.length) 0 else -1)<0 then -1 else IntKind.i64.wrap ((if kd u d=3 then co1 u d s 6 (q9 u u.bP.length) 0 else -1)+1)
theorem aY3 {K:Nat} {u:cK} {d:Int} {s:Bytes} (hK:100000<K) (h:Sm u) (hw:Wf u):cQ (F27 K u d s) (fun v=>v=ins u d s):=by
 refine cQ.of ?_
 unfold F27 ins
 refine bO.call (aN6 hK h hw) ?_
 rintro _ rfl
 refine bO.ite (fun e=>?_) (fun e=>?_)
 ·rw[aE (of_decide_eq_true e)];exact tl rfl
 ·rw[aD (fun q=>e (decide_eq_true q))];exact tl rfl
theorem aY4 {K:Nat} {u:cK} {d:Int} {s:Bytes} (hK:100000<K) (hw:Wf u):cQ (F28 K u d s) (fun v=>v=ins u d s):=by
 refine cQ.of ?_
 unfold F28 ins
 refine bO.call (aJE hK hw) ?_
 rintro _ rfl
 rw[aRd hw (show (6:Int)≠0 by decide)]
 refine bO.ite (fun e=>?_) (fun e=>?_)
 ·rw[aE (of_decide_eq_true e)];exact tl rfl
 ·rw[aD (fun q=>e (decide_eq_true q))];exact tl rfl
theorem aLn (d:Int) (n:Nat):(!((decide (d ≥ 0)) && (decide (d<Int.ofNat n))) || cP d n)=true:=by
 by_cases h:0≤d∧d<n
 ·rw[bW h,Bool.or_true]
 ·have:((decide (d ≥ 0)) && (decide (d<Int.ofNat n)))=false:=by
   rw[Bool.eq_false_iff]
   intro q
   simp only[aC,aB,Int.ofNat_eq_natCast] at q
   exact h q
  rw[this];rfl
theorem aRi {d:Int} {n i m:Nat} (h:0≤d∧d<n) (hi:i<m):(((decide (d ≥ 0)) && (decide (d<Int.ofNat n))) && (decide ((i:Int)<Int.ofNat m)))=true:=by
 simp only[aC,aB,Int.ofNat_eq_natCast];omega
theorem aRj {d:Int} {n i m:Nat} (h:0≤d∧d<n→m≤i):¬ (((decide (d ≥ 0)) && (decide (d<Int.ofNat n))) && (decide ((i:Int)<Int.ofNat m)))=true:=by
 intro q
 simp only[aC,aB,Int.ofNat_eq_natCast] at q
 have:=h q.1;omega
theorem aY5 {s:Bytes}:cQ (F6 200000000 s) (fun v=>v=true):=by
 refine cQ.of ?_
 unfold F6
 refine bO.bR (bO.ite (fun e=>?_) (fun e=>?_))
 ·refine bO.call aJF ?_
  rintro _ rfl
  exact tl rfl
 refine bO.call (aY6 (by omega)) (fun r3 h3=>?_)
 refine bO.bR (bO.ite (fun e=>?_) (fun e=>?_))
 ·refine bO.call aJF ?_
  rintro _ rfl
  exact tl rfl
 have aA6:r3.2=[]:=by
  simp only[aB,Int.ofNat_eq_natCast] at e
  exact List.length_eq_zero_iff.1 (by omega)
 obtain ⟨h,hw,hn,_⟩:=h3 aA6
 generalize r3.1=u at h hw hn
 have hl:=hw.len'
 refine bO.call (a0F (by omega) h hw) ?_
 rintro _ rfl
 refine bO.call (aY0 (by omega) h hw hn) ?_
 rintro _ rfl
 refine bO.cH (by decide) (aXs (by omega) (aY2 h hw)) ?_
 rintro _ rfl
 refine bO.dA (by decide) ?_
 refine bO.eC (bO.bQ (bO.cT ?_)) (fun _=>bO.call aJF (by rintro _ rfl;exact tl rfl))
 refine bO.qJ (u.bP.length+2) (fun i (t:Int)=>t=(i:Int) - 1) rfl (by omega) ?_ ?_
 ·rintro i hi _ rfl
  refine bO.bR (bO.dN (by simp;omega) ?_)
  generalize hd:(i:Int) - 1=d
  refine bO.eC (bO.bQ ?_) (fun _=>by rw[wr (by omega) (by omega)];exact tr (show d+1=_ by omega))
  refine bO.cH (by decide) (aBG (by omega) h) ?_
  rintro _ rfl
  refine bO.cH (by decide) (aGc (by omega) h) ?_
  rintro _ rfl
  refine bO.cH (by simp) (aKo (by omega) h) ?_
  rintro _ rfl
  refine bO.cH (by simp) (aQR (by omega) h) ?_
  rintro _ rfl
  refine bO.aCJ (w:=false) (by simp) ?_
  refine bO.cH (by decide) (aCC (by omega) hw) ?_
  rintro _ rfl
  refine bO.cH (by decide) (aGd (by omega) hw) ?_
  rintro _ rfl
  refine bO.dA (by simp) ?_
  have hvl:=(hw.sz d).v
  have uJ:=(hw.sz d).m
  have hvd:(u.bP.getD d.toNat default).cA=(dc u d).cA:=rfl
  have hmd:(u.bP.getD d.toNat default).bS=(dc u d).bS:=rfl
  rw[hvd,hmd]
  refine bO.eC (bO.bQ (bO.cT ?_)) (fun _=>bO.eC (bO.bQ (bO.cT ?_)) (fun _=>tr trivial))
  ·refine bO.up (if 0≤d∧d<u.bP.length then (dc u d).cA.length else 0) (by split <;> omega) (fun j hj=>?_) ?_
   ·by_cases hdd:0≤d∧d<u.bP.length
    ·rw[aE hdd] at hj
     refine bO.bY (aLn _ _) (bO.b7 (bO.bR (bO.dN (aRi hdd hj) ?_)))
     refine bO.eC (bO.bQ (bO.bY (bW hdd) (bO.bY (bW (by omega)) (bO.b7 (bO.bR ?_))))) (fun _=>by rw[wr (by omega) (by omega)];exact tr ⟨rfl,trivial⟩)
     refine bO.cH (by decide) (aN9 (by omega) h hw) ?_
     rintro _ rfl
     refine bO.cH (by decide) (aRe (by omega) hw) ?_
     rintro _ rfl
     refine bO.cH (by simp) (aUw (by omega) h hw) ?_
     rintro _ rfl
     refine bO.cH (by simp) (aYW (by omega) h hw) ?_
     rintro _ rfl
     refine bO.aCJ (w:=false) (by simp) ?_
     refine bO.cH (by decide) (aY3 (by omega) h hw) ?_
     rintro _ rfl
     refine bO.cH (by decide) (aY4 (by omega) hw) ?_
     rintro _ rfl
     refine bO.cH (by simp) (aXc (by omega) h hw) ?_
     rintro _ rfl
     refine bO.cH (by simp) (aYV (by omega) hw) ?_
     rintro _ rfl
     refine bO.aCJ (w:=false) (by simp) ?_
     exact bO.dA (by decide) (tr trivial)
    ·rw[aD hdd] at hj;omega
   ·refine bO.bY (aLn _ _) (bO.b7 (bO.bR (bO.dA (aRj (fun q=>by rw[aE q];exact aM _)) (tl (sE.l trivial)))))
  ·refine bO.up (if 0≤d∧d<u.bP.length then (dc u d).bS.length else 0) (by split <;> omega) (fun j hj=>?_) ?_
   ·by_cases hdd:0≤d∧d<u.bP.length
    ·rw[aE hdd] at hj
     refine bO.bY (aLn _ _) (bO.b7 (bO.bR (bO.dN (aRi hdd hj) ?_)))
     refine bO.eC (bO.bQ (bO.bY (bW hdd) (bO.bY (bW (by omega)) (bO.b7 (bO.bR ?_))))) (fun _=>by rw[wr (by omega) (by omega)];exact tr ⟨rfl,trivial⟩)
     refine bO.cH (by decide) (aUx (by omega) h hw) ?_
     rintro _ rfl
     refine bO.cH (by decide) (aYY (by omega) h hw) ?_
     rintro _ rfl
     refine bO.cH (by simp) (aCC (by omega) hw) ?_
     rintro _ rfl
     refine bO.cH (by simp) (aGd (by omega) hw) ?_
     rintro _ rfl
     refine bO.aCJ (w:=false) (by simp) ?_
     exact bO.dA (by decide) (tr trivial)
    ·rw[aD hdd] at hj;omega
   ·refine bO.bY (aLn _ _) (bO.b7 (bO.bR (bO.dA (aRj (fun q=>by rw[aE q];exact aM _)) (tl (sE.l trivial)))))
 ·rintro _ rfl
  exact bO.bR (bO.dA (by simp;omega) (tl (sE.l trivial)))
theorem aUk (s:Bytes):bX (F6 200000000 s)=some true:=by
 obtain ⟨v,h,rfl⟩:=aY5 (s:=s)
 exact h
end Go.Proofs.YtdbfbedholdjaaaGreat
