/- No conditions. -/
import Derived.Test.YtdbfbedholdjaaaGreatGUA
import Derived.Test.YtdbfbedholdjaaaGreatGLA
import Derived.Test.YtdbfbedholdjaaaGreatGLd
set_option linter.unusedVariables false
set_option linter.unusedSimpArgs false
set_option linter.unusedSectionVars false
namespace Go.Proofs.YtdbfbedholdjaaaGreat
open Go Go.Dl
variable [dK]
set_option maxRecDepth 100000
set_option maxHeartbeats 8000000
theorem bL.iO {α R:Type} {m:Option (R ⊕ R)} {f:R→Option α} {Q:α→Prop} {z:R} (h:cR m (fun v=>v=z)) (hf:bL (f z) Q):bL ((bV m).bind f) Q:=bL.call h fun _ e=>e ▸ hf
theorem bL.aI0 {α R:Type} {b:Bool} {d:R} {m:Option (R ⊕ R)} {f:R→Option α} {Q:α→Prop} {z:R} (hb:b=true) (h:cR m (fun v=>v=z)) (hf:bL (f z) Q):bL ((cF b (bV m) d).bind f) Q:=bL.cJ hb h fun _ e=>e ▸ hf
theorem bT {i:Int} {n:Nat} (h:0≤i∧i<n):cY i n=true:=by simp only[cY,aC,aB];omega
structure Sm (u:cM):Prop where
 b:yZ u.bM≤6004
theorem aKz:∀ {l:List gX} {d:gX},d∈l→d.sz≤yZ l
 | x::r,d,h=>by
   rw[yZ]
   rcases bA.1 h with rfl | h
   ·omega
   ·have:=aKz h;omega
theorem aKA:∀ {l:List iT} {d:iT},d∈l→d.sz≤wL l
 | x::r,d,h=>by
   rw[wL]
   rcases bA.1 h with rfl | h
   ·omega
   ·have:=aKA h;omega
abbrev dc (u:cM) (d:Int):gX:=u.bM.getD d.toNat default
theorem c9 {α:Type} {l:List α} {i:Nat} {d:α} (h:i<l.length):l.getD i d∈l:=by
 rw[List.getD,aE h];exact List.getElem_mem h
theorem aC4 {α:Type} {l:List α} {i:Nat} {d:α} (h:¬ i<l.length):l.getD i d=d:=by
 rw[List.getD,aZ (by omega)];rfl
theorem Sm.len {u:cM} (h:Sm u):u.bM.length≤6004:=aR (aKu _) h.b
theorem Sm.sz {u:cM} (h:Sm u) (d:Int):(dc u d).sz≤6004:=by
 by_cases hd:d.toNat<u.bM.length
 ·exact aR (aKz (c9 hd)) h.b
 ·rw[dc,aC4 hd];decide
theorem Sm.vars {u:cM} (h:Sm u) (d:Int):(dc u d).cH.length≤6004:=by have:=h.sz d;unfold gX.sz at this;omega
theorem Sm.lH {u:cM} (h:Sm u) (d:Int):(dc u d).cK.length≤6004:=by have:=h.sz d;unfold gX.sz at this;omega
theorem Sm.wL {u:cM} (h:Sm u) (d:Int):wL (dc u d).bQ≤6004:=by have:=h.sz d;unfold gX.sz at this;omega
theorem Sm.aAG {u:cM} (h:Sm u) (d:Int):(dc u d).bQ.length≤6004:=aR (aKt _) (h.wL d)
theorem Sm.body {u:cM} (h:Sm u) (d:Int):cG.hG (dc u d).rP≤6004:=by have:=h.sz d;unfold gX.sz at this;omega
theorem Sm.m {u:cM} (h:Sm u) (d:Int) (m:Nat):((dc u d).bQ.getD m default).sz≤6004:=by
 by_cases hm:m<(dc u d).bQ.length
 ·exact aR (aKA (c9 hm)) (h.wL d)
 ·rw[aC4 hm];decide
theorem iT.bounds {m:iT} (h:m.sz≤6004):m.cN.length≤6004∧m.cH.length≤6004∧cG.hG m.rP≤6004:=by
 unfold iT.sz at h;exact ⟨by omega,by omega,by omega⟩
def ix {α:Type} (p:α→Bool) (l:List α):Int:=if l.findIdx p<l.length then (l.findIdx p:Int) else -1
theorem aD4 {α:Type} {p:α→Bool} {l:List α} {z:α} {t:Nat} (h:t<l.length) (hb:∀ j,j<t→p (l.getD j z)=false) (hp:p (l.getD t z)=true):ix p l=t:=by
 have e:l.findIdx p=t:=by
  rw[List.getD,aE h] at hp
  refine (List.findIdx_eq h).2 ⟨hp,fun j hj=>?_⟩
  have:=hb j hj
  rw[List.getD,aE (by omega)] at this
  exact this
 unfold ix;rw[e,aH h]
theorem aGo {α:Type} {p:α→Bool} {l:List α} {z:α} (hb:∀ j,j<l.length→p (l.getD j z)=false):ix p l = -1:=by
 unfold ix
 rw[aF]
 intro h
 have h1:=hb _ h
 rw[List.getD,aE h] at h1
 have:=List.findIdx_getElem (w:=h)
 rw[Option.getD_some] at h1
 rw[h1] at this;cases this
theorem aD8 {α:Type} (p:α→Bool) (l:List α) : -1≤ix p l∧ix p l<l.length:=by
 unfold ix;split <;> omega
theorem aUf {α:Type} {p:α→Bool} {l:List α} (z:α) (h:0≤ix p l):(ix p l).toNat<l.length∧p (l.getD (ix p l).toNat z)=true:=by
 unfold ix at h ⊢
 split at h
 ·rename_i hl
  rw[aH hl]
  rw[Int.toNat_natCast]
  refine ⟨hl,?_⟩
  rw[List.getD,aE hl]
  exact List.findIdx_getElem (w:=hl)
 ·omega
theorem aI1 {α:Type} {p:α→Bool} {l:List α} {x:α} (h:x∈l) (hp:p x=true):0≤ix p l:=by
 unfold ix
 rw[aH (List.findIdx_lt_length_of_exists ⟨x,h,hp⟩)];omega
def kY (u:cM) (s:Bytes):Int:=ix (fun d:gX=>d.cD == s) u.bM
def kd (u:cM) (d:Int):Int:=if d<0∨d ≥ u.bM.length then 0 else (dc u d).bR
theorem gA {u:cM} {d k:Int} (h:kd u d=k) (hk:k≠0):0≤d∧d<u.bM.length:=by
 unfold kd at h
 split at h
 ·omega
 ·omega
theorem kA {K:Nat} {u:cM} {s:Bytes} (hK:100000<K) (h:Sm u):cR (F61 K u s) (fun v=>v=kY u s):=by
 have hl:=h.len
 refine cR.of ?_
 unfold F61
 refine bL.bP (bL.bN (bL.c7 ?_))
 refine bL.loop (fun t:Int=>0≤t∧t≤u.bM.length∧∀ j:Nat,(j:Int)<t→((u.bM.getD j default).cD == s)=false) (fun t=>(u.bM.length - t).toNat) ⟨by simp,by simp,fun j hj=>by omega⟩ (by simp;omega) (fun t ⟨h1,h2,h3⟩=>?_)
 obtain ⟨n,rfl⟩:=aK h1
 simp (disch:=omega) only[wr,Int.ofNat_eq_natCast]
 refine bL.bO (bL.ite (fun _=>bL.bP (bL.bN (bL.bW (bT (by simp only[aB,Int.ofNat_eq_natCast] at *;omega)) (bL.bX (bL.bO (bL.ite (fun _=>bL.ret (sE.l (sE.r (sE.r ?_)))) (fun _=>bL.ret (sE.r (bL.ret (sE.r ?_)))))))))) (fun _=>bL.ret (sE.l (sE.l (bL.ret (sE.l ?_))))))
 ·rename_i e2 e
  simp only[aB] at e2
  exact (aD4 (z:=default) (by omega) (fun j hj=>h3 j (by omega)) e).symm
 ·rename_i e2 e
  rw[Int.toNat_natCast] at e
  simp only[aB] at e2
  refine ⟨⟨by omega,by omega,fun j hj=>?_⟩,by omega⟩
  by_cases hjn:j=n
  ·subst hjn;simpa using e
  ·exact h3 j (by omega)
 ·rename_i e
  simp only[aB] at e
  exact (aGo (z:=default) fun j hj=>h3 j (by omega)).symm
theorem kB {K:Nat} {u:cM} {d:Int}:cR (F68 K u d) (fun v=>v=kd u d):=by
 refine cR.of ?_
 unfold F68 kd
 refine bL.bO (bL.ite (fun _=>bL.ret (sE.l ?_)) (fun _=>bL.bW (by simp only[aB,aC,aO,Int.ofNat_eq_natCast,cY,room,c5,Int.toNat_natCast] at *;omega) (bL.bX (bL.bO (bL.ret (sE.l ?_))))))
 ·rename_i e
  simp only[aO,aB,Int.ofNat_eq_natCast] at e
  rw[aH e]
 ·rename_i e
  simp only[aO,aB,Int.ofNat_eq_natCast] at e
  rw[aF e]
theorem yX {K:Nat} {l:List Int} {x:Int} (hK:100000<K) (h:l.length≤20000):cR (aGu K l x) (fun v=>v=l.contains x):=by
 refine cR.of ?_
 unfold aGu
 refine bL.bP (bL.bN (bL.c7 ?_))
 refine bL.loop (fun t:Int=>0≤t∧t≤l.length∧∀ j:Nat,(j:Int)<t→l.getD j default≠x) (fun t=>(l.length - t).toNat) ⟨by simp,by simp,fun j hj=>by omega⟩ (by simp;omega) (fun t ⟨h1,h2,h3⟩=>?_)
 obtain ⟨n,rfl⟩:=aK h1
 simp (disch:=omega) only[wr,Int.ofNat_eq_natCast]
 refine bL.bO (bL.ite (fun _=>bL.bP (bL.bN (bL.bW (bT (by simp only[aB,Int.ofNat_eq_natCast] at *;omega)) (bL.bX (bL.bO (bL.ite (fun _=>bL.ret (sE.l (sE.r (sE.r ?_)))) (fun _=>bL.ret (sE.r (bL.ret (sE.r ?_)))))))))) (fun _=>bL.ret (sE.l (sE.l (bL.ret (sE.l ?_))))))
 ·rename_i e2 e
  rw[Int.toNat_natCast] at e
  simp only[aB] at e2
  simp only[beq_iff_eq] at e
  exact (List.contains_iff_mem.2 (e ▸ c9 (by omega))).symm
 ·rename_i e2 e
  rw[Int.toNat_natCast] at e
  simp only[aB] at e2
  simp only[beq_iff_eq] at e
  refine ⟨⟨by omega,by omega,fun j hj=>?_⟩,by omega⟩
  by_cases hjn:j=n
  ·subst hjn;exact e
  ·exact h3 j (by omega)
 ·rename_i e
  simp only[aB] at e
  symm
  rw[← Bool.not_eq_true]
  intro hc
  obtain ⟨i,hi,rfl⟩:=List.getElem_of_mem (List.contains_iff_mem.1 hc)
  refine h3 i (by omega) ?_
  rw[List.getD,aE hi];rfl
def own (d:gX) (s:Bytes):Int:=ix (fun m:iT=>m.cD == s) d.bQ
theorem aQj {K:Nat} {d:gX} {s:Bytes} (hK:100000<K) (h:d.bQ.length≤6004):cR (aNr K d s) (fun v=>v=own d s):=by
 refine cR.of ?_
 unfold aNr
 refine bL.bP (bL.bN (bL.c7 ?_))
 refine bL.loop (fun t:Int=>0≤t∧t≤d.bQ.length∧∀ j:Nat,(j:Int)<t→((d.bQ.getD j default).cD == s)=false) (fun t=>(d.bQ.length - t).toNat) ⟨by simp,by simp,fun j hj=>by omega⟩ (by simp;omega) (fun t ⟨h1,h2,h3⟩=>?_)
 obtain ⟨n,rfl⟩:=aK h1
 simp (disch:=omega) only[wr,Int.ofNat_eq_natCast]
 refine bL.bO (bL.ite (fun _=>bL.bP (bL.bN (bL.bW (bT (by simp only[aB,Int.ofNat_eq_natCast] at *;omega)) (bL.bX (bL.bO (bL.ite (fun _=>bL.ret (sE.l (sE.r (sE.r ?_)))) (fun _=>bL.ret (sE.r (bL.ret (sE.r ?_)))))))))) (fun _=>bL.ret (sE.l (sE.l (bL.ret (sE.l ?_))))))
 ·rename_i e2 e
  simp only[aB] at e2
  exact (aD4 (z:=default) (by omega) (fun j hj=>h3 j (by omega)) e).symm
 ·rename_i e2 e
  rw[Int.toNat_natCast] at e
  simp only[aB] at e2
  refine ⟨⟨by omega,by omega,fun j hj=>?_⟩,by omega⟩
  by_cases hjn:j=n
  ·subst hjn;simpa using e
  ·exact h3 j (by omega)
 ·rename_i e
  simp only[aB] at e
  exact (aGo (z:=default) fun j hj=>h3 j (by omega)).symm
def unv:Nat→List Int→Nat
 | 0,_=>0
 | n+1,out=>unv n out+if out.contains (n:Int) then 0 else 1
theorem aKB:∀ (n:Nat) (out:List Int) (d:Int),(n:Int)≤d→unv n (out++[d])=unv n out
 | 0,_,_,_=>rfl
 | n+1,out,d,h=>by
   rw[unv,unv,aKB n out d (by omega)]
   have:(out++[d]).contains (n:Int)=out.contains (n:Int):=by
    rw[Bool.eq_iff_iff];simp <;> omega
   rw[this]
theorem tT:∀ (n:Nat) (out:List Int) (d:Int),0≤d→d<n→out.contains d=false→unv n (out++[d])+1=unv n out
 | 0,_,d,h0,h,_=>by omega
 | n+1,out,d,h0,h,hc=>by
   rw[unv,unv]
   by_cases e:d=n
   ·subst e
    rw[aKB n out _ (by omega),aH (by simp),aF (by rw[hc];exact Bool.false_ne_true)]
   ·have:=tT n out d h0 (by omega) hc
    have h2:(out++[d]).contains (n:Int)=out.contains (n:Int):=by
     rw[Bool.eq_iff_iff];simp <;> omega
    rw[h2];omega
theorem nU:∀ n,unv n []=n
 | 0=>rfl
 | n+1=>by rw[unv,nU n];simp
def chF (u:cM):Nat→List Int→Int→List Int
 | 0,out,_=>out
 | n+1,out,d=>if kd u d=2∧out.contains d=false then chF u n (out++[d]) (kY u (dc u d).fV) else out
def chain (u:cM) (d:Int):List Int:=chF u (u.bM.length+1) [] d
theorem aFK {u:cM} (P:List Int→Prop) (hp:∀ out d,P out→kd u d=2→out.contains d=false→P (out++[d])):∀ (n:Nat) (out:List Int) (d:Int),P out→P (chF u n out d)
 | 0,_,_,h=>h
 | n+1,out,d,h=>by
   rw[chF]
   split
   ·rename_i e;exact aFK P hp n _ _ (hp _ _ h e.1 e.2)
   ·exact h
theorem aLZ {u:cM} {d x:Int} (h:x∈chain u d):kd u x=2 :=
 aFK (fun out=>∀ x∈out,kd u x=2) (fun out d h1 h2 _ x hx=>by
  rcases aX.1 hx with hx | hx
  ·exact h1 x hx
  ·rw[aL.1 hx];exact h2) _ [] d (fun x hx=>by cases hx) x h
theorem iJ {u:cM} {d x:Int} (h:x∈chain u d):0≤x∧x<u.bM.length:=gA (aLZ h) (by decide)
theorem mF (u:cM) (d:Int):(chain u d).length≤u.bM.length:=by
 have h:=aFK (u:=u) (fun out=>out.length+unv u.bM.length out=u.bM.length) (fun out d h1 h2 h3=>by
  have hd:=gA h2 (by decide)
  have:=tT u.bM.length out d hd.1 hd.2 h3
  rw[aD,List.length_singleton];omega) (u.bM.length+1) [] d (by rw[nU];simp)
 unfold chain;omega
theorem oP {K:Nat} {u:cM} {d:Int} (hK:100000<K) (h:Sm u):cR (aCi K u d) (fun v=>v=chain u d):=by
 have hl:=h.len
 refine cR.of ?_
 unfold aCi
 refine bL.bP (bL.bN (bL.c7 ?_))
 refine bL.loop (fun t:Int × List Int=>t.2.length+unv u.bM.length t.2=u.bM.length∧∃ n,unv u.bM.length t.2<n∧chF u n t.2 t.1=chain u d) (fun t=>unv u.bM.length t.2) ⟨by rw[nU];simp,u.bM.length+1,by rw[nU];simp,rfl⟩ (by show unv _ []<K;rw[nU];omega) ?_
 rintro ⟨e,out⟩ ⟨h1,n,h2,h3⟩
 dsimp only at h1 h2 h3 ⊢
 obtain ⟨n,rfl⟩:∃ m,n=m+1:=⟨n - 1,by omega⟩
 rw[chF] at h3
 refine bL.iO (kB) ?_
 refine bL.dA (fun _=>yX (by omega) (by omega)) (fun v hv=>?_)
 refine bL.ite (fun c=>?_) (fun c=>?_)
 ·simp only[aC,beq_iff_eq,aP] at c
  have hv':=hv (by simp [c.1])
  have hc:out.contains e=false:=by rw[← hv'];exact c.2
  rw[aH ⟨c.1,hc⟩] at h3
  have hd:=gA c.1 (by decide)
  have hu:=tT u.bM.length out e hd.1 hd.2 hc
  refine bL.bP (bL.bN ?_)
  refine bL.bW (by simp [room];omega) (bL.bX (bL.bW (by simp [cY];omega) (bL.bX (bL.bO ?_))))
  refine bL.cJ (by decide) (kA (by omega) h) ?_
  rintro _ rfl
  refine bL.ret (sE.r (bL.ret (sE.r ?_)))
  exact ⟨⟨by simp;omega,n,by dsimp only;omega,h3⟩,by dsimp only;omega⟩
 ·have hc:¬ (kd u e=2∧out.contains e=false):=fun ⟨c1,c2⟩=>by
   have hv':=hv (by simp [c1])
   rw[c2] at hv'
   exact c (by simp [c1,hv'])
  rw[aF hc] at h3
  refine bL.ret (sE.l (sE.l (bL.ret (sE.l ?_))))
  exact h3
end Go.Proofs.YtdbfbedholdjaaaGreat

namespace Go.Proofs.YtdbfbedholdjaaaGreat
open Go Go.Dl
variable [dK]
set_option maxRecDepth 100000
set_option maxHeartbeats 8000000
theorem lF {α:Type} {l:List α} {n:Nat} (z:α) (h:n<l.length):l.drop n=l.getD n z::l.drop (n+1):=by
 rw[List.getD,aE h,Option.getD_some];exact List.drop_eq_getElem_cons h
def rC (u:cM) (s:Bytes):List Int→dR × Bool
 | []=>(⟨0,0⟩,false)
 | c::r=>if 0≤own (dc u c) s then (⟨c,own (dc u c) s⟩,true) else rC u s r
def line (u:cM) (d:Int):List Int:=if kd u d=1 then [d] else chain u d
def nM (u:cM) (d:Int) (s:Bytes):dR × Bool:=rC u s (line u d)
theorem aBo {u:cM} {d x:Int} (h:x∈line u d):0≤x∧x<u.bM.length:=by
 unfold line at h
 split at h
 ·rename_i e;rw[aL.1 h];exact gA e (by decide)
 ·exact iJ h
theorem aHm {u:cM} (h:Sm u) (d:Int):(line u d).length≤6005:=by
 unfold line
 split
 ·simp
 ·have:=mF u d;have:=h.len;omega
theorem tR {K:Nat} {u:cM} {d:Int} {s:Bytes} (hK:100000<K) (h:Sm u):cR (aE6 K u d s) (fun v=>v=nM u d s):=by
 have hl:=h.len
 refine cR.of ?_
 unfold aE6
 refine bL.iO (oP (by omega) (by assumption)) ?_
 refine bL.iO (kB) ?_
 refine bL.bZ (fun l=>l=line u d) ?_ ?_
 ·unfold line
  refine bL.ite (fun e=>?_) (fun e=>?_)
  ·refine bL.ret (sE.r ?_)
   rw[aH (by simpa using e)]
  ·refine bL.ret (sE.r ?_)
   rw[aF (by simpa using e)]
 rintro _ rfl
 have h2:=aHm h d
 refine bL.bP (bL.bN (bL.c7 ?_))
 refine bL.loop (fun t:Int=>0≤t∧t≤(line u d).length∧rC u s ((line u d).drop t.toNat)=nM u d s) (fun t=>((line u d).length - t).toNat) ⟨by simp,by simp,rfl⟩ (by simp;omega) (fun t ⟨g1,g2,g3⟩=>?_)
 obtain ⟨n,rfl⟩:=aK g1
 rw[Int.toNat_natCast] at g3
 simp (disch:=omega) only[wr,Int.ofNat_eq_natCast]
 refine bL.bO (bL.ite (fun e=>?_) (fun e=>?_))
 ·simp only[aB] at e
  have hn:n<(line u d).length:=by omega
  rw[lF default hn,rC] at g3
  have hx:=aBo (c9 (d:=default) hn)
  refine bL.bP (bL.bN ?_)
  rw[Int.toNat_natCast]
  refine bL.bW (bT (by omega)) (bL.bX (bL.bW (bT hx) (bL.bX ?_)))
  refine bL.cJ (by decide) (aQj (by omega) (h.aAG _)) ?_
  rintro _ rfl
  refine bL.ite (fun c=>?_) (fun c=>?_)
  ·simp only[aB] at c
   rw[aH c] at g3
   refine bL.bW (bT (by omega)) (bL.bX ?_)
   refine bL.ret (sE.l (sE.r (sE.r ?_)))
   exact g3
  ·simp only[aB] at c
   rw[aF c] at g3
   refine bL.ret (sE.r (bL.ret (sE.r ?_)))
   exact ⟨⟨by omega,by omega,by rw[show ((n:Int)+1).toNat=n+1 by omega];exact g3⟩,by omega⟩
 ·simp only[aB] at e
  rw[List.drop_eq_nil_of_le (by omega),rC] at g3
  refine bL.ret (sE.l (sE.l (bL.ret (sE.l ?_))))
  exact g3
def iA (u:cM) (out:List Int) (s:Bytes):List Int:=if kd u (kY u s)=1∧out.contains (kY u s)=false then out++[kY u s] else out
def lH (u:cM) (d:Int):List Int:=(chain u d).foldl (fun out c=>(dc u c).cK.foldl (iA u) out) []
def Dis (u:cM) (out:List Int):Prop:=out.length+unv u.bM.length out=u.bM.length
theorem Dis.nil (u:cM):Dis u []:=by unfold Dis;rw[nU];simp
theorem aHs {u:cM} {out:List Int} (s:Bytes) (h:Dis u out):Dis u (iA u out s):=by
 unfold iA
 split
 ·rename_i e
  have hd:=gA e.1 (by decide)
  have:=tT u.bM.length out _ hd.1 hd.2 e.2
  unfold Dis at *
  rw[aD,List.length_singleton];omega
 ·exact h
theorem uH {u:cM}:∀ (l:List Bytes) {out:List Int},Dis u out→Dis u (l.foldl (iA u) out)
 | [],_,h=>h
 | s::l,_,h=>uH l (aHs s h)
theorem Dis.len {u:cM} {out:List Int} (h:Dis u out):out.length≤u.bM.length:=by unfold Dis at h;omega
theorem aL0 (u:cM) (d:Int):Dis u (lH u d):=by
 have:∀ (l:List Int) (out:List Int),Dis u out→Dis u (l.foldl (fun out c=>(dc u c).cK.foldl (iA u) out) out):=by
  intro l
  induction l with
  | nil=>exact fun _ h=>h
  | cons x l ih=>exact fun out h=>ih _ (uH _ h)
 exact this _ _ (Dis.nil u)
theorem uD (u:cM) (d:Int):(lH u d).length≤u.bM.length:=(aL0 u d).len
theorem aHh {K:Nat} {u:cM} {d:Int} (hK:100000<K) (h:Sm u):cR (aK7 K u d) (fun v=>v=lH u d):=by
 have hl:=h.len
 refine cR.of ?_
 unfold aK7
 refine bL.iO (oP (by omega) (by assumption)) ?_
 have hc:=mF u d
 refine bL.bP (bL.bN (bL.c7 ?_))
 refine bL.loop (fun t:List Int × Int=>0≤t.2∧t.2≤(chain u d).length∧Dis u t.1∧((chain u d).drop t.2.toNat).foldl (fun out c=>(dc u c).cK.foldl (iA u) out) t.1=lH u d) (fun t=>((chain u d).length - t.2).toNat) ⟨by simp,by simp,Dis.nil u,rfl⟩ (by simp;omega) ?_
 rintro ⟨out,t⟩ ⟨g1,g2,g3,g4⟩
 dsimp only at g1 g2 g3 g4 ⊢
 obtain ⟨n,rfl⟩:=aK g1
 rw[Int.toNat_natCast] at g4
 simp (disch:=omega) only[wr,Int.ofNat_eq_natCast]
 refine bL.bO (bL.ite (fun e=>?_) (fun e=>?_))
 ·simp only[aB] at e
  have hn:n<(chain u d).length:=by omega
  rw[lF default hn,List.foldl_cons] at g4
  have hx:=iJ (c9 (d:=default) hn)
  have hfs:=h.lH ((chain u d).getD n default)
  rw[Int.toNat_natCast]
  refine bL.bP (bL.bN (bL.bW (bT (by omega)) (bL.bX (bL.bW (bT hx) (bL.bX (bL.bO ?_))))))
  refine bL.bZ (fun o=>Dis u o∧((chain u d).drop (n+1)).foldl (fun out c=>(dc u c).cK.foldl (iA u) out) o=lH u d) ?_ ?_
  ·refine bL.bN (bL.c7 ?_)
   generalize hfl:(u.bM.getD ((chain u d).getD n default).toNat default).cK=fl at g4 hfs
   refine bL.loop (fun t:List Int × Int=>0≤t.2∧t.2≤fl.length∧Dis u t.1∧((chain u d).drop (n+1)).foldl (fun out c=>(dc u c).cK.foldl (iA u) out) ((fl.drop t.2.toNat).foldl (iA u) t.1)=lH u d) (fun t=>(fl.length - t.2).toNat) ⟨by simp,by simp,g3,g4⟩ (by simp;omega) ?_
   rintro ⟨o2,t2⟩ ⟨k1,k2,k3,k4⟩
   dsimp only at k1 k2 k3 k4 ⊢
   obtain ⟨m,rfl⟩:=aK k1
   rw[Int.toNat_natCast] at k4
   have k5:=k3.len
   simp (disch:=omega) only[wr,Int.ofNat_eq_natCast]
   refine bL.bO (bL.ite (fun e=>?_) (fun e=>?_))
   ·simp only[aB] at e
    have hm:m<fl.length:=by omega
    rw[lF default hm,List.foldl_cons] at k4
    have k6:=aHs (fl.getD m default) k3
    have k7:=k6.len
    refine bL.bP (bL.bN ?_)
    rw[Int.toNat_natCast]
    refine bL.bW (bT (by omega)) (bL.bX ?_)
    refine bL.aI0 rfl (kA (by omega) (by assumption)) ?_
    refine bL.iO (kB) ?_
    refine bL.dA (fun _=>yX (by omega) (by omega)) (fun v hv=>?_)
    refine bL.ite (fun c=>?_) (fun c=>?_)
    ·simp only[aC,beq_iff_eq,aP] at c
     have hv':=hv (beq_iff_eq.2 c.1)
     have he:iA u o2 (fl.getD m default)=o2++[kY u (fl.getD m default)]:=by
      unfold iA;rw[aH ⟨c.1,by rw[← hv'];exact c.2⟩]
     rw[he] at k4 k6
     refine bL.bW (by simp [room];omega) (bL.bX ?_)
     refine bL.ret (sE.r (bL.ret (sE.r ?_)))
     exact ⟨⟨by dsimp only;omega,by dsimp only;omega,k6,by dsimp only;rw[show ((m:Int)+1).toNat=m+1 by omega];exact k4⟩,by dsimp only;omega⟩
    ·have he:iA u o2 (fl.getD m default)=o2:=by
      unfold iA
      rw[aF]
      rintro ⟨c1,c2⟩
      have hv':=hv (beq_iff_eq.2 c1)
      rw[c2] at hv'
      exact c (by rw[c1,hv'];rfl)
     rw[he] at k4
     refine bL.ret (sE.r (bL.ret (sE.r ?_)))
     exact ⟨⟨by dsimp only;omega,by dsimp only;omega,k3,by dsimp only;rw[show ((m:Int)+1).toNat=m+1 by omega];exact k4⟩,by dsimp only;omega⟩
   ·simp only[aB] at e
    rw[List.drop_eq_nil_of_le (by omega),List.foldl_nil] at k4
    refine bL.ret (sE.l (sE.l ?_))
    exact ⟨k3,k4⟩
  rintro o ⟨k1,k2⟩
  refine bL.ret (sE.r (bL.ret (sE.r ?_)))
  exact ⟨⟨by dsimp only;omega,by dsimp only;omega,k1,by dsimp only;rw[show ((n:Int)+1).toNat=n+1 by omega];exact k2⟩,by dsimp only;omega⟩
 ·simp only[aB] at e
  rw[List.drop_eq_nil_of_le (by omega),List.foldl_nil] at g4
  refine bL.ret (sE.l (sE.l (bL.ret (sE.l ?_))))
  exact g4
def varsOf (u:cM) (l:List Int):List fE:=l.flatMap fun x=>(dc u x).cH
def rS (u:cM) (d:Int):List fE:=if kd u d=3 then (dc u d).cH else varsOf u (chain u d).reverse
theorem wI {u:cM} (h:Sm u):∀ l:List Int,(varsOf u l).length≤l.length * 6004
 | []=>by simp [varsOf]
 | x::l=>by
   have:=wI h l
   have:=h.vars x
   unfold varsOf at *
   rw[List.flatMap_cons,aD,List.length_cons,Nat.succ_mul];omega
theorem aC0 {u:cM} (h:Sm u) (d:Int):(rS u d).length≤36100000:=by
 unfold rS
 split
 ·have:=h.vars d;omega
 ·have:=wI h (chain u d).reverse
  have h1:=mF u d
  have h2:=h.len
  have h3:(chain u d).length * 6004≤6004 * 6004:=aU _ (by omega)
  rw[List.length_reverse] at this
  omega
theorem aKl {K:Nat} {u:cM} {d:Int} (hK:100000<K) (h:Sm u):cR (F70 K u d) (fun v=>v=rS u d):=by
 have hl:=h.len
 have hf:=aC0 h d
 refine cR.of ?_
 unfold F70
 refine bL.iO (kB) ?_
 refine bL.ite (fun e=>?_) (fun e=>?_)
 ·have e:=beq_iff_eq.1 e
  have hd:=gA e (by decide)
  have hv:=h.vars d
  refine bL.bW (bT hd) (bL.bX (bL.bO (bL.bW (show room ((dc u d).cH.length * 80)=true by simp only[room,aB];omega) (bL.bX ?_))))
  refine bL.ret (sE.l ?_)
  unfold rS;rw[aH e]
 ·have e:kd u d≠3:=fun c=>e (beq_iff_eq.2 c)
  have hs:rS u d=varsOf u (chain u d).reverse:=by unfold rS;rw[aF e]
  refine bL.iO (oP (by omega) (by assumption)) ?_
  have hc:=mF u d
  refine bL.bO (bL.bP (bL.bN (bL.c7 ?_)))
  simp (disch:=omega) only[wr,Int.ofNat_eq_natCast]
  refine bL.loop (fun t:List fE × Int=>-1≤t.2∧t.2<(chain u d).length∧t.1=varsOf u ((chain u d).drop (t.2+1).toNat).reverse) (fun t=>(t.2+1).toNat) ⟨by dsimp only;omega,by dsimp only;omega,by dsimp only;rw[show ((chain u d).length - 1+1:Int).toNat=(chain u d).length by omega,List.drop_length];rfl⟩ (by dsimp only;omega) ?_
  rintro ⟨acc,t⟩ ⟨g1,g2,g3⟩
  dsimp only at g1 g2 g3 ⊢
  refine bL.ite (fun e=>?_) (fun e=>?_)
  ·simp only[aB] at e
   obtain ⟨n,rfl⟩:=aK e
   rw[show ((n:Int)+1).toNat=n+1 by omega] at g3
   have hn:n<(chain u d).length:=by omega
   have hx:=iJ (c9 (d:=default) hn)
   have hd:varsOf u ((chain u d).drop n).reverse=acc++(dc u ((chain u d).getD n default)).cH:=by
    rw[lF default hn,List.reverse_cons,g3];simp [varsOf]
   have h1:=wI h ((chain u d).drop n).reverse
   rw[hd,aD,List.length_reverse,bK] at h1
   have h3:((chain u d).length - n) * 6004≤6004 * 6004:=aU _ (by omega)
   refine bL.bP (bL.bN ?_)
   rw[Int.toNat_natCast]
   refine bL.bW (bT (by omega)) (bL.bX (bL.bW (bT hx) (bL.bX (bL.bO (bL.bW ?_ (bL.bX ?_))))))
   ·show room ((acc.length+(dc u ((chain u d).getD n default)).cH.length) * 80)=true
    simp only[room,aB];omega
   simp (disch:=omega) only[wr,Int.ofNat_eq_natCast]
   refine bL.ret (sE.r (bL.ret (sE.r ?_)))
   exact ⟨⟨by dsimp only;omega,by dsimp only;omega,by dsimp only;rw[show ((n:Int) - 1+1).toNat=n by omega];exact hd.symm⟩,by dsimp only;omega⟩
  ·simp only[aB] at e
   rw[show (t+1).toNat=0 by omega,List.drop_zero] at g3
   refine bL.ret (sE.l (sE.l (bL.ret (sE.l ?_))))
   rw[hs];exact g3
theorem aUg {a b:fU} (h:((a.bR == b.bR) && ((a.fLo == b.fLo) && ((a.fHi == b.fHi) && ((a.cD == b.cD) && true))))=true):a=b:=by
 simp only[aC,beq_iff_eq] at h
 obtain ⟨h1,h2,h3,h4,_⟩:=h
 cases a;cases b;simp_all
theorem aHg {K:Nat} {a b:iT} (hK:100000<K) (ha:a.cN.length≤6004):cR (aK8 K a b) (fun v=>v=true→a.cN.length=b.cN.length∧a.eY=b.eY∧∀ i:Nat,(i:Int)<a.cN.length→(a.cN.getD i default).cO=(b.cN.getD i default).cO):=by
 refine cR.of ?_
 unfold aK8
 refine bL.bO (bL.ite (fun e=>?_) (fun e=>?_))
 ·refine bL.ret (sE.l ?_)
  intro h;cases h
 ·have e:¬ (a.cN.length≠b.cN.length)∧a.eY=b.eY:=by
   simp only[aO,not_or,aP,Bool.not_eq_false,bne_iff_ne,ne_eq,Int.ofNat_eq_natCast,Int.natCast_inj] at e
   exact ⟨e.1,aUg e.2⟩
  have hl:a.cN.length=b.cN.length:=by omega
  refine bL.bP (bL.bN (bL.c7 ?_))
  refine bL.loop (fun t:Int=>0≤t∧t≤a.cN.length∧∀ i:Nat,(i:Int)<t→(a.cN.getD i default).cO=(b.cN.getD i default).cO) (fun t=>(a.cN.length - t).toNat) ⟨by simp,by simp,fun j hj=>by omega⟩ (by simp;omega) (fun t ⟨h1,h2,h3⟩=>?_)
  obtain ⟨n,rfl⟩:=aK h1
  simp (disch:=omega) only[wr,Int.ofNat_eq_natCast]
  refine bL.bO (bL.ite (fun e1=>?_) (fun e1=>?_))
  ·simp only[aB] at e1
   refine bL.bP (bL.bN (bL.bW (bT (by omega)) (bL.bW (bT (by omega)) (bL.bX (bL.bO (bL.ite (fun e2=>?_) (fun e2=>?_)))))))
   ·refine bL.ret (sE.l (sE.r (sE.r ?_)))
    intro h;cases h
   ·simp only[aP,Bool.not_eq_false] at e2
    have e2:=aUg e2
    rw[Int.toNat_natCast] at e2
    refine bL.ret (sE.r (bL.ret (sE.r ?_)))
    refine ⟨⟨by omega,by omega,fun j hj=>?_⟩,by omega⟩
    by_cases hjn:j=n
    ·subst hjn;exact e2
    ·exact h3 j (by omega)
  ·simp only[aB] at e1
   refine bL.ret (sE.l (sE.l (bL.ret (sE.l ?_))))
   exact fun _=>⟨hl,e.2,fun j hj=>h3 j (by omega)⟩
def sC (u:cM) (w:dR):iT:=(dc u w.c6).bQ.getD w.dJ.toNat default
def Vw (u:cM) (w:dR):Prop:=(0≤w.c6∧w.c6<u.bM.length)∧0≤w.dJ∧w.dJ<(dc u w.c6).bQ.length
theorem yU {K:Nat} {u:cM} {w:dR} (h:Vw u w):cR (F63 K u w) (fun v=>v=sC u w):=by
 refine cR.of ?_
 unfold F63
 refine bL.bW (bT h.1) (bL.bW (bT h.2) (bL.bX ?_))
 refine bL.ret (sE.l ?_)
 rfl
theorem aKC {u:cM} {s:Bytes}:∀ {l:List Int},(∀ x∈l,0≤x∧x<u.bM.length)→(rC u s l).2=true→Vw u (rC u s l).1∧(rC u s l).1.c6∈l∧(sC u (rC u s l).1).cD=s
 | c::r,hl,h=>by
   rw[rC] at h ⊢
   split at h
   ·rename_i e
    rw[aH e]
    obtain ⟨h1,h2⟩:=aUf (default:iT) e
    refine ⟨⟨hl c (bH ..),e,(aD8 _ _).2⟩,bH ..,?_⟩
    exact eq_of_beq h2
   ·rename_i e
    rw[aF e]
    obtain ⟨h1,h2,h3⟩:=aKC (fun x hx=>hl x (aT _ hx)) h
    exact ⟨h1,aT _ h2,h3⟩
theorem oG {u:cM} {d:Int} {s:Bytes} (h:(nM u d s).2=true):Vw u (nM u d s).1∧(nM u d s).1.c6∈line u d∧(sC u (nM u d s).1).cD=s:=aKC (fun x hx=>aBo hx) h
theorem aCZ {u:cM} {s:Bytes}:∀ {l:List Int} {c:Int},c∈l→0≤own (dc u c) s→(rC u s l).2=true
 | x::l,c,h,h2=>by
   rw[rC]
   split
   ·rfl
   ·rename_i e
    rcases bA.1 h with rfl | h
    ·exact absurd h2 e
    ·exact aCZ h h2
end Go.Proofs.YtdbfbedholdjaaaGreat

namespace Go.Proofs.YtdbfbedholdjaaaGreat
open Go Go.Dl
variable [dK]
set_option maxRecDepth 100000
set_option maxHeartbeats 8000000
theorem aC8 {K:Nat} {u:cM} {w:dR}:cR (aIo K u w) (fun v=>v=true→kd u w.c6=2∧Vw u w):=by
 refine cR.of ?_
 unfold aIo
 refine bL.cJ (by decide) kB ?_
 rintro _ rfl
 refine bL.bW ?_ (bL.bX (bL.bO ?_))
 ·by_cases e:kd u w.c6=2
  ·rw[bT (gA e (by decide))];simp
  ·rw[beq_eq_false_iff_ne.2 e];rfl
 ·refine bL.ret (sE.l ?_)
  intro h
  simp only[aC,beq_iff_eq,aB] at h
  exact ⟨h.1.1,gA h.1.1 (by decide),h.1.2,h.2⟩
def Plc (u:cM) (w:dR):Prop:=(kd u w.c6=2∧Vw u w)∨(kd u w.c6=3∧w.dJ = -1)
theorem yS {K:Nat} {u:cM} {w:dR}:cR (aGw K u w) (fun v=>v=true→Plc u w):=by
 refine cR.of ?_
 unfold aGw
 refine bL.call aC8 (fun v hv=>?_)
 refine bL.dA (fun _=>kB) (fun v2 hv2=>?_)
 refine bL.bO (bL.ret (sE.l ?_))
 intro h
 cases v with
 | true=>exact .inl (hv rfl)
 | false =>
   simp only[Bool.false_or,aC,beq_iff_eq] at h
   have:=hv2 (by rfl)
   exact .inr ⟨by rw[← this];exact h.1,h.2⟩
theorem Plc.in {u:cM} {w:dR} (h:Plc u w):0≤w.c6∧w.c6<u.bM.length:=by
 rcases h with h | h
 ·exact gA h.1 (by decide)
 ·exact gA h.1 (by decide)
theorem cP {n:Nat} (h:n≤140737488355328):room n=true:=by simp only[room,aB];exact h
theorem aHi {K:Nat} {u:cM} {w:dR} (hK:100000<K) (h:Sm u):cR (aK9 K u w) (fun v=>v.length≤36200000):=by
 refine cR.of ?_
 unfold aK9
 refine bL.call yS (fun v hv=>?_)
 refine bL.ite (fun e=>?_) (fun e=>?_)
 ·refine bL.ret (sE.l ?_)
  simp
 ·have hp:=hv (by simpa using e)
  have hd:=hp.in
  have h1:=h.vars w.c6
  refine bL.ite (fun e2=>?_) (fun e2=>?_)
  ·refine bL.bW (bT hd) (bL.bX (bL.bO (bL.bW (cP ?_) (bL.bX ?_))))
   ·show (dc u w.c6).cH.length * 80≤_
    omega
   ·refine bL.ret (sE.l ?_)
    show (dc u w.c6).cH.length≤_
    omega
  ·simp only[aB] at e2
   have hw:Vw u w:=by
    rcases hp with hp | hp
    ·exact hp.2
    ·omega
   have hm:(sC u w).sz≤6004:=h.m w.c6 w.dJ.toNat
   have hb:=iT.bounds hm
   have hf:=aC0 h w.c6
   refine bL.bW (bT hd) (bL.bW (bT hw.2) (bL.bX (bL.bO (bL.bW (cP ?_) (bL.bX (bL.bO (bL.bW (cP ?_) (bL.bX ?_))))))))
   ·show (sC u w).cN.length * 80≤_
    omega
   ·show ((sC u w).cN.length+(sC u w).cH.length) * 80≤_
    omega
   ·refine bL.call (aKl (by omega) h) ?_
    rintro _ rfl
    refine bL.bW (cP ?_) (bL.bX ?_)
    ·show (((sC u w).cN++(sC u w).cH).length+(rS u w.c6).length) * 80≤_
     rw[aD];omega
    ·refine bL.ret (sE.l ?_)
     show (((sC u w).cN++(sC u w).cH)++(rS u w.c6)).length≤_
     rw[aD,aD];omega
theorem aCX {K:Nat} {u:cM} {w:dR} {s:Bytes} (hK:40000000<K) (h:Sm u):cR (aIp K u w s) (fun _=>True):=by
 refine cR.of ?_
 unfold aIp
 refine bL.call (aHi (by omega) h) (fun l hl=>?_)
 refine bL.bP (bL.bN (bL.c7 ?_))
 refine bL.loop (fun t:Int=>0≤t∧t≤l.length) (fun t=>(l.length - t).toNat) ⟨by simp,by simp⟩ (by simp;omega) (fun t ⟨h1,h2⟩=>?_)
 simp (disch:=omega) only[wr,Int.ofNat_eq_natCast]
 refine bL.bO (bL.ite (fun _=>bL.bP (bL.bN (bL.bW (bT (by simp only[aB,Int.ofNat_eq_natCast] at *;omega)) (bL.bX (bL.bO (bL.ite (fun _=>bL.bW (bT (by simp only[aB,Int.ofNat_eq_natCast] at *;omega)) (bL.bX (bL.ret (sE.l (sE.r (sE.r ?_)))))) (fun _=>bL.ret (sE.r (bL.ret (sE.r ?_)))))))))) (fun _=>bL.ret (sE.l (sE.l (bL.ret (sE.l ?_))))))
 all_goals (try (first | trivial | (intro h;cases h;done) | omega | (simp only[aB] at *;omega)))
theorem aHt {K:Nat} {u:cM} {s:Bytes} (hK:100000<K) (h:Sm u):cR (aIq K u s) (fun v=>v=true→kd u (kY u s)≠0):=by
 refine cR.of ?_
 unfold aIq
 refine bL.cJ (by decide) (kA (by omega) h) ?_
 rintro _ rfl
 refine bL.cJ (by decide) kB ?_
 rintro _ rfl
 refine bL.ret (sE.l ?_)
 intro e
 simp only[aO,beq_iff_eq] at e
 omega
theorem aHl {K:Nat} {u:cM} {a b:Bytes} (hK:100000<K) (h:Sm u):cR (aLb K u a b) (fun _=>True):=by
 refine cR.of ?_
 unfold aLb
 refine bL.iO (kA (by omega) (by assumption)) ?_
 refine bL.iO (kB) ?_
 refine bL.ite (fun e=>?_) (fun e=>?_)
 ·refine bL.ret (sE.l ?_);trivial
 ·refine bL.iO (kA (by omega) (by assumption)) ?_
  have hc:=mF u (kY u a)
  have hl:=h.len
  refine bL.dA (fun _=>oP (by omega) h) (fun v1 hv1=>?_)
  refine bL.dA (fun e2=>yX (by omega) (by rw[hv1 e2];omega)) (fun v2 hv2=>?_)
  refine bL.dA (fun _=>aHh (by omega) h) (fun v3 hv3=>?_)
  refine bL.dA (fun e2=>yX (by omega) (by rw[hv3 e2];exact aR (uD u _) (by omega))) (fun v4 hv4=>?_)
  refine bL.ret (sE.l ?_);trivial
theorem aCV {K:Nat} {u:cM} {a b:fU} (hK:100000<K) (h:Sm u):cR (aGx K u a b) (fun _=>True):=by
 refine cR.of ?_
 unfold aGx
 refine bL.bP (bL.bN (bL.bP (bL.ite (fun _=>bL.ret (sE.r (bL.ite (fun _=>bL.ret (sE.l (sE.r ?_))) (fun _=>bL.ite (fun _=>bL.ret (sE.l (sE.r ?_))) (fun _=>bL.ite (fun _=>?_) (fun _=>bL.ret (sE.r (bL.ret (sE.l ?_))))))))) (fun _=>bL.ret (sE.r (bL.ite (fun _=>bL.ret (sE.l (sE.r ?_))) (fun _=>bL.ite (fun _=>bL.ret (sE.l (sE.r ?_))) (fun _=>bL.ite (fun _=>?_) (fun _=>bL.ret (sE.r (bL.ret (sE.l ?_))))))))))))
 all_goals first
  | trivial
  | (refine bL.dA (fun _=>aHl (by omega) h) (fun v1 hv1=>?_);refine bL.bO (bL.ret (sE.l (sE.r ?_)));trivial)
def ar (k:Int):Int:=if k<1∨k ≥ 15 then -1 else ([(-1),0,0,0,0,0,1,1,1,2,0,0,0,0,1]:List Int).getD k.toNat default
theorem aQk {K:Nat} {k:Int}:cR (aNx K k) (fun v=>v=ar k):=by
 refine cR.of ?_
 unfold aNx ar
 refine bL.bO (bL.ite (fun e=>?_) (fun e=>?_))
 ·simp only[List.length_cons,List.length_nil,aO,aB,ge_iff_le,Int.ofNat_eq_natCast] at e
  refine bL.ret (sE.l ?_)
  rw[aH (by omega)]
 ·simp only[List.length_cons,List.length_nil,aO,aB,not_or,ge_iff_le,Int.not_le,Int.not_lt,Int.ofNat_eq_natCast] at e
  refine bL.bW (bT (by simp only[List.length_cons,List.length_nil];omega)) ?_
  refine bL.bX (bL.bO (bL.ret (sE.l ?_)))
  rw[aF (by omega)]
theorem aQl {K:Nat} {o:Int} {a b:fU}:cR (aLa K o a b) (fun _=>True):=by
 refine cR.of ?_
 unfold aLa
 refine bL.bO (bL.bP (bL.bN (bL.bO (bL.ite (fun _=>bL.ret (sE.l (sE.r ?_))) (fun _=>bL.bO (bL.ite (fun _=>bL.ret (sE.l (sE.r ?_))) (fun _=>bL.bO (bL.ite (fun _=>bL.ret (sE.l (sE.r ?_))) (fun _=>bL.bO (bL.ite (fun _=>bL.ret (sE.l (sE.r ?_))) (fun _=>bL.ret (sE.r (bL.ret (sE.l ?_))))))))))))))
 all_goals trivial
theorem aHk {K:Nat} {u:cM} {w:dR} {e:cI} (hK:40000000<K) (h:Sm u):cR (aLi K u w e) (fun v=>v.2=0→0≤v.1∧v.1<u.bM.length):=by
 refine cR.of ?_
 unfold aLi
 refine bL.iO (oP (by omega) (by assumption)) ?_
 refine bL.dI (bL.bN ?_) (fun _=>?_)
 ·refine bL.ite (fun e1=>?_) (fun e1=>?_)
  ·refine bL.call (aCX (by omega) h) (fun r1 _=>?_)
   refine bL.ite (fun e2=>?_) (fun e2=>bL.bO (bL.ite (fun e3=>?_) (fun e3=>?_)))
   ·refine bL.ret (sE.l (sE.r ?_));intro h;cases h
   ·refine bL.ret (sE.l (sE.r ?_));intro h;cases h
   ·refine bL.call (aHt (by omega) h) (fun v hv=>?_)
    refine bL.ite (fun e4=>?_) (fun e4=>?_)
    ·refine bL.ret (sE.l (sE.r ?_));intro h;cases h
    ·refine bL.iO (kA (by omega) (by assumption)) ?_
     refine bL.ret (sE.l (sE.r ?_))
     intro _
     exact gA (k:=kd u (kY u r1.1.cO.cD)) rfl (hv (by simpa using e4))
  ·refine bL.ite (fun e1=>?_) (fun e1=>?_)
   ·refine bL.call aC8 (fun v hv=>?_)
    refine bL.ite (fun e4=>?_) (fun e4=>?_)
    ·refine bL.ret (sE.l (sE.r ?_));intro h;cases h
    ·refine bL.ret (sE.l (sE.r ?_))
     intro _
     exact (hv (by simpa using e4)).2.1
   ·refine bL.ite (fun e1=>?_) (fun e1=>?_)
    ·refine bL.call aC8 (fun v hv=>?_)
     refine bL.bO (bL.ite (fun e4=>?_) (fun e4=>?_))
     ·refine bL.ret (sE.l (sE.r ?_));intro h;cases h
     ·simp only[aO,not_or,aB,Int.ofNat_eq_natCast] at e4
      refine bL.bW (bT (by omega)) ?_
      refine bL.bX (bL.ret (sE.l (sE.r ?_)))
      intro _
      exact iJ (c9 (by omega))
    ·refine bL.ret (sE.r ?_)
     trivial
 ·refine bL.ret (sE.l ?_);intro h;cases h
theorem cI.szq (e:cI):e.sz=1+cI.hG e.fM:=by cases e;rw[cI.sz]
theorem nT:∀ {l:List cI} {x:cI},x∈l→x.sz≤cI.hG l
 | y::r,x,h=>by
   rw[cI.hG]
   rcases bA.1 h with rfl | h
   ·omega
   ·have:=nT h;omega
theorem aKk:∀ (l:List cI) (a b:Nat),cI.hG ((l.drop a).take b)≤cI.hG l:=by
 intro l a b
 have h1:=mO (l.take a) (l.drop a)
 rw[List.take_append_drop] at h1
 have h2:=mO ((l.drop a).take b) ((l.drop a).drop b)
 rw[List.take_append_drop] at h2
 omega
theorem T0 {p:Prop} (h:p:=by (repeat' (first | with_reducible refine bL.bO ?_ | with_reducible refine bL.bP ?_ | with_reducible refine bL.bN ?_ | with_reducible refine bL.c7 ?_ | with_reducible refine bL.ite (fun _=>?_) (fun _=>?_) | with_reducible refine bL.bX ?_ | with_reducible refine bL.bW rfl ?_ | with_reducible refine bL.ret ?_ | with_reducible refine sE.l ?_ | with_reducible refine sE.r ?_ | with_reducible refine bL.iO (kA (by omega) (by assumption)) ?_ | with_reducible refine bL.iO kB ?_)) <;> first | trivial | (intro h;cases h;done)):p:=h
theorem ex7:∀ k:Nat,(∀ (u:cM) (w:dR) (e:cI),Sm u→e.sz≤7000→3 * e.sz+40000000<k→cR (aFe k u w e) (fun _=>True)) ∧
 (∀ (u:cM) (w:dR) (l:List cI),Sm u→cI.hG l≤7000→3 * cI.hG l+40000002<k→cR (aDE k u w l) (fun v=>v.2=0→v.1.length=l.length)) ∧
 (∀ (u:cM) (w:dR) (e:cI),Sm u→e.sz≤7000→3 * e.sz+40000001<k→cR (aAR k u w e) (fun _=>True)) ∧
 (∀ (u:cM) (w:dR) (e:cI) (x:fE),Sm u→e.sz≤7000→3 * e.sz+40000000<k→(e.bR=6→1≤e.fM.length)→cR (aIu k u w e x) (fun _=>True))
 | 0=>⟨fun _ _ _ _ _ h=>by omega,fun _ _ _ _ _ h=>by omega,fun _ _ _ _ _ h=>by omega,fun _ _ _ _ _ _ h=>by omega⟩
 | k+1=>by
   obtain ⟨ih1,ih2,ih3,ih4⟩:=ex7 k
   refine ⟨fun u w e h hz hk=>?_,fun u w l h hz hk=>?_,fun u w e h hz hk=>?_,fun u w e x h hz hk hx=>?_⟩
   ·refine cR.of ?_
    rw[aFe]
    have hs:=e.szq
    refine bL.call (aHk (by omega) h) (fun r1 hr1=>?_)
    refine bL.ite (fun e1=>?_) (fun e1=>?_)
    ·exact T0
    refine bL.iO (tR (by omega) (by assumption)) ?_
    refine bL.ite (fun e2=>?_) (fun e2=>?_)
    ·exact T0
    have hw:=(oG (u:=u) (d:=r1.1) (s:=e.xS) (by simpa using e2)).1
    refine bL.call (yU hw) ?_
    rintro _ rfl
    refine bL.ite (fun e3=>?_) (fun e3=>?_)
    ·exact T0
    refine bL.call (ih2 u w e.fM h (by omega) (by omega)) (fun r4 hr4=>?_)
    refine bL.ite (fun e4=>?_) (fun e4=>bL.bO (bL.ite (fun e5=>?_) (fun e5=>?_)))
    ·exact T0
    ·exact T0
    have hl:=mN e.fM
    have h4:=hr4 (by simpa using e4)
    have h5:r4.1.length=(sC u (nM u r1.1 e.xS).1).cN.length:=by
     simp only[bne_iff_ne,ne_eq,Decidable.not_not,Int.ofNat_eq_natCast] at e5;omega
    refine bL.dI (bL.bN (bL.c7 ?_)) (fun _=>by exact T0)
    refine bL.loop (fun t:Int=>0≤t∧t≤r4.1.length) (fun t=>(r4.1.length - t).toNat) ⟨by simp,by simp⟩ (by simp;omega) (fun t ⟨h1,h2⟩=>?_)
    simp (disch:=omega) only[wr,Int.ofNat_eq_natCast]
    refine bL.bO (bL.ite (fun e6=>?_) (fun e6=>?_))
    ·simp only[aB] at e6
     refine bL.dI (bL.bN (bL.bW (bT (by omega)) (bL.bW (bT (by omega)) (bL.bX ?_)))) (fun _=>?_)
     ·refine bL.cJ (by decide) (aCV (by omega) h) (fun _ _=>?_)
      exact T0
     ·refine bL.ret (sE.r ?_)
      exact ⟨⟨by omega,by omega⟩,by omega⟩
    ·exact T0
   ·refine cR.of ?_
    rw[aDE]
    have hl:=mN l
    refine bL.bZ (fun o=>o.length=l.length) (bL.bN (bL.c7 ?_)) ?_
    ·refine bL.loop (fun t:List fU × Int=>0≤t.2∧t.2≤l.length∧(t.1.length:Int)=t.2) (fun t=>(l.length - t.2).toNat) ⟨by simp,by simp,by simp⟩ (by simp;omega) ?_
     rintro ⟨o,t⟩ ⟨g1,g2,g3⟩
     dsimp only at g1 g2 g3 ⊢
     simp (disch:=omega) only[wr,Int.ofNat_eq_natCast]
     refine bL.bO (bL.ite (fun e6=>?_) (fun e6=>?_))
     ·simp only[aB] at e6
      have hm:=nT (c9 (d:=default) (show t.toNat<l.length by omega))
      refine bL.bZ (fun o2=>(o2.length:Int)=t+1) (bL.bN (bL.bW (bT (by omega)) (bL.bX ?_))) ?_
      ·refine bL.call (ih3 u w _ h (by omega) (by omega)) (fun r _=>?_)
       refine bL.ite (fun e7=>?_) (fun e7=>?_)
       ·refine bL.ret (sE.l (sE.r (sE.r ?_)))
        intro h
        exact absurd h (by simpa using e7)
       ·refine bL.bW (cP ?_) (bL.bX ?_)
        ·show (o.length+1) * 40≤_
         omega
        ·refine bL.ret (sE.r ?_)
         show ((o++[r.1]).length:Int)=t+1
         rw[aD,List.length_singleton];omega
      ·intro o2 h2
       refine bL.ret (sE.r ?_)
       exact ⟨⟨by dsimp only;omega,by dsimp only;omega,h2⟩,by dsimp only;omega⟩
     ·simp only[aB] at e6
      refine bL.ret (sE.l (sE.l ?_))
      show o.length=l.length
      omega
    ·intro o ho
     refine bL.ret (sE.l ?_)
     exact fun _=>ho
   ·refine cR.of ?_
    rw[aAR]
    have hs:=e.szq
    refine bL.call yS (fun _ _=>?_)
    refine bL.ite (fun e1=>?_) (fun e1=>?_)
    ·exact T0
    refine bL.ite (fun e2=>?_) (fun e2=>?_)
    ·refine bL.call (ih1 u w e h (by omega) (by omega)) (fun _ _=>?_)
     exact T0
    refine bL.call aQk ?_
    rintro _ rfl
    refine bL.bO (bL.ite (fun e3=>?_) (fun e3=>?_))
    ·exact T0
    simp only[aO,not_or,aB,bne_iff_ne,ne_eq,Decidable.not_not,Int.ofNat_eq_natCast,Int.not_lt] at e3
    refine bL.call (aCX (by omega) h) (fun r6 _=>?_)
    refine bL.dI (bL.bN ?_) (fun _=>?_)
    ·have a26:cR (aIu k u w e r6.1) (fun _=>True):=ih4 u w e r6.1 h (by omega) (by omega) (fun e6=>by
      have:ar e.bR=1:=by rw[e6];decide
      omega)
     have a27:cR (aIq k u e.cD) (fun v=>v=true→kd u (kY u e.cD)≠0):=aHt (by omega) h
     refine bL.ite (fun _=>bL.ret (sE.l (sE.r ?_))) (fun _=>bL.bP (bL.ite (fun _=>bL.ret (sE.r (bL.ite (fun _=>bL.ret (sE.l (sE.r ?_))) (fun _=>bL.ite (fun _=>bL.ret (sE.l (sE.r ?_))) (fun _=>bL.bP (bL.ite (fun _=>bL.ret (sE.r (bL.ite (fun _=>bL.ite (fun _=>bL.ret (sE.l (sE.r ?_))) (fun _=>?_)) (fun _=>bL.ite (fun _=>?_) (fun _=>bL.ret (sE.r ?_)))))) (fun _=>bL.ite (fun _=>bL.ret (sE.r (bL.ite (fun _=>bL.ite (fun _=>bL.ret (sE.l (sE.r ?_))) (fun _=>?_)) (fun _=>bL.ite (fun _=>?_) (fun _=>bL.ret (sE.r ?_)))))) (fun _=>bL.ite (fun _=>bL.ret (sE.r (bL.ite (fun _=>bL.ite (fun _=>bL.ret (sE.l (sE.r ?_))) (fun _=>?_)) (fun _=>bL.ite (fun _=>?_) (fun _=>bL.ret (sE.r ?_)))))) (fun _=>bL.ite (fun _=>bL.ret (sE.r (bL.ite (fun _=>bL.ite (fun _=>bL.ret (sE.l (sE.r ?_))) (fun _=>?_)) (fun _=>bL.ite (fun _=>?_) (fun _=>bL.ret (sE.r ?_)))))) (fun _=>bL.ret (sE.r (bL.ite (fun _=>bL.ite (fun _=>bL.ret (sE.l (sE.r ?_))) (fun _=>?_)) (fun _=>bL.ite (fun _=>?_) (fun _=>bL.ret (sE.r ?_))))))))))))))) (fun _=>bL.ret (sE.r (bL.ite (fun _=>bL.ret (sE.l (sE.r ?_))) (fun _=>bL.ite (fun _=>bL.ret (sE.l (sE.r ?_))) (fun _=>bL.bP (bL.ite (fun _=>bL.ret (sE.r (bL.ite (fun _=>bL.ite (fun _=>bL.ret (sE.l (sE.r ?_))) (fun _=>?_)) (fun _=>bL.ite (fun _=>?_) (fun _=>bL.ret (sE.r ?_)))))) (fun _=>bL.ite (fun _=>bL.ret (sE.r (bL.ite (fun _=>bL.ite (fun _=>bL.ret (sE.l (sE.r ?_))) (fun _=>?_)) (fun _=>bL.ite (fun _=>?_) (fun _=>bL.ret (sE.r ?_)))))) (fun _=>bL.ite (fun _=>bL.ret (sE.r (bL.ite (fun _=>bL.ite (fun _=>bL.ret (sE.l (sE.r ?_))) (fun _=>?_)) (fun _=>bL.ite (fun _=>?_) (fun _=>bL.ret (sE.r ?_)))))) (fun _=>bL.ite (fun _=>bL.ret (sE.r (bL.ite (fun _=>bL.ite (fun _=>bL.ret (sE.l (sE.r ?_))) (fun _=>?_)) (fun _=>bL.ite (fun _=>?_) (fun _=>bL.ret (sE.r ?_)))))) (fun _=>bL.ret (sE.r (bL.ite (fun _=>bL.ite (fun _=>bL.ret (sE.l (sE.r ?_))) (fun _=>?_)) (fun _=>bL.ite (fun _=>?_) (fun _=>bL.ret (sE.r ?_)))))))))))))))))
     all_goals first
      | trivial
      | (refine bL.call a26 (fun _ _=>?_);exact T0)
      | (refine bL.call a27 (fun _ _=>?_);exact T0)
    refine bL.bW ?_ (bL.bX ?_)
    ·simp only[c5,aC,aB];omega
    have hsub:=aKk e.fM (0:Int).toNat ((ar e.bR).toNat - (0:Int).toNat)
    refine bL.call (ih2 u w _ h (by omega) (by omega)) (fun lZ hr=>?_)
    refine bL.ite (fun e4=>?_) (fun e4=>?_)
    ·exact T0
    have hr':=hr (by simpa using e4)
    have hl:(lZ.1.length:Int)=ar e.bR:=by
     rw[hr',aS,bK];omega
    have k7:e.bR=7→(lZ.1.length:Int)=1:=fun q=>by rw[hl,q];decide
    have k8:e.bR=8→(lZ.1.length:Int)=1:=fun q=>by rw[hl,q];decide
    have k9:e.bR=9→(lZ.1.length:Int)=2:=fun q=>by rw[hl,q];decide
    have k14:e.bR=14→(lZ.1.length:Int)=1:=fun q=>by rw[hl,q];decide
    refine bL.dI (bL.bN ?_) (fun _=>by exact T0)
    refine bL.bW ?_ (bL.bW ?_ (bL.bX (bL.bO (bL.ite (fun e5=>?_) (fun e5=>?_)))))
    ·by_cases q:e.bR=7
     ·rw[bT (by have:=k7 q;omega)];simp
     ·rw[beq_eq_false_iff_ne.2 q];rfl
    ·by_cases q:e.bR=8
     ·rw[bT (by have:=k8 q;omega)];simp
     ·rw[beq_eq_false_iff_ne.2 q];rfl
    ·simp only[aO,aC,beq_iff_eq] at e5
     refine bL.bW (bT ?_) (by exact T0)
     rcases e5 with q | q
     ·have:=k7 q.1;omega
     ·have:=k8 q.1;omega
    ·refine bL.ite (fun e6=>?_) (fun e6=>?_)
     ·have:=k9 (beq_iff_eq.1 e6)
      refine bL.bW (bT (by omega)) (bL.bW (bT (by omega)) (bL.bX ?_))
      refine bL.call aQl (fun _ _=>?_)
      exact T0
     ·refine bL.bW ?_ (by exact T0)
      by_cases q:e.bR=14
      ·rw[bT (by have:=k14 q;omega)];simp
      ·rw[beq_eq_false_iff_ne.2 q];rfl
   ·refine cR.of ?_
    rw[aIu]
    have hs:=e.szq
    refine bL.dI (bL.bN ?_) (fun _=>by exact T0)
    refine bL.ite (fun e1=>?_) (fun e1=>?_)
    ·exact T0
    refine bL.ite (fun e1=>?_) (fun e1=>?_)
    ·have h1:=hx (beq_iff_eq.1 e1)
     refine bL.ite (fun e2=>?_) (fun e2=>?_)
     ·exact T0
     ·have hm:=nT (c9 (d:=default) (show (0:Int).toNat<e.fM.length by simp;omega))
      refine bL.bW (bT (by omega)) (bL.bX ?_)
      refine bL.call (ih3 u w _ h (by omega) (by omega)) (fun _ _=>?_)
      exact T0
    ·exact T0
theorem aCU {K:Nat} {u:cM} {w:dR} {e:cI} (hK:40100000<K) (he:e.sz≤6004) (h:Sm u):cR (aAR K u w e) (fun _=>True):=(ex7 K).2.2.1 u w e h (by omega) (by omega)
theorem aPI {K:Nat} {u:cM} {w:dR} {l:List cI} (hK:40100000<K) (he:cI.hG l≤6004) (h:Sm u):cR (aDE K u w l) (fun v=>v.2=0→v.1.length=l.length):=(ex7 K).2.1 u w l h (by omega) (by omega)
theorem aPH {K:Nat} {u:cM} {w:dR} {e:cI} (hK:40100000<K) (he:e.sz≤6004) (h:Sm u):cR (aFe K u w e) (fun _=>True):=(ex7 K).1 u w e h (by omega) (by omega)
end Go.Proofs.YtdbfbedholdjaaaGreat
