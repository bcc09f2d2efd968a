/- No conditions. -/
import Derived.Test.YtdbfbedholdjaaaGreatHUA
import Derived.Test.YtdbfbedholdjaaaGreatHLA
import Derived.Test.YtdbfbedholdjaaaGreatHLd
set_option linter.unusedVariables false
set_option linter.unusedSimpArgs false
set_option linter.unusedSectionVars false
namespace Go.Proofs.YtdbfbedholdjaaaGreat
open Go Go.Dl
variable [dO]
set_option maxRecDepth 100000
set_option maxHeartbeats 8000000
theorem bO.jD {α R:Type} {m:Option (R ⊕ R)} {f:R→Option α} {Q:α→Prop} {z:R} (h:cQ m (fun v=>v=z)) (hf:bO (f z) Q):bO ((bX m).bind f) Q:=bO.call h fun _ e=>e ▸ hf
theorem bO.aJI {α R:Type} {b:Bool} {d:R} {m:Option (R ⊕ R)} {f:R→Option α} {Q:α→Prop} {z:R} (hb:b=true) (h:cQ m (fun v=>v=z)) (hf:bO (f z) Q):bO ((cE b (bX m) d).bind f) Q:=bO.cH hb h fun _ e=>e ▸ hf
theorem bW {i:Int} {n:Nat} (h:0≤i∧i<n):cP i n=true:=by simp only[cP,aC,aB];omega
structure Sm (u:cK):Prop where
 b:dsz u.bP≤6004
theorem aLy:∀ {l:List iR} {d:iR},d∈l→d.sz≤dsz l
 | x::r,d,h=>by
   rw[dsz]
   rcases aY.1 h with rfl | h
   ·omega
   ·have:=aLy h;omega
theorem aLz:∀ {l:List hU} {d:hU},d∈l→d.sz≤xB l
 | x::r,d,h=>by
   rw[xB]
   rcases aY.1 h with rfl | h
   ·omega
   ·have:=aLz h;omega
abbrev dc (u:cK) (d:Int):iR:=u.bP.getD d.toNat default
theorem c6 {α:Type} {l:List α} {i:Nat} {d:α} (h:i<l.length):l.getD i d∈l:=by
 rw[List.getD,aF h];exact List.getElem_mem h
theorem aDF {α:Type} {l:List α} {i:Nat} {d:α} (h:¬ i<l.length):l.getD i d=d:=by
 rw[List.getD,bB (by omega)];rfl
theorem Sm.len {u:cK} (h:Sm u):u.bP.length≤6004:=aS (aLt _) h.b
theorem Sm.sz {u:cK} (h:Sm u) (d:Int):(dc u d).sz≤6004:=by
 by_cases hd:d.toNat<u.bP.length
 ·exact aS (aLy (c6 hd)) h.b
 ·rw[dc,aDF hd];decide
theorem Sm.vars {u:cK} (h:Sm u) (d:Int):(dc u d).cA.length≤6004:=by have:=h.sz d;unfold iR.sz at this;omega
theorem Sm.gJ {u:cK} (h:Sm u) (d:Int):(dc u d).cL.length≤6004:=by have:=h.sz d;unfold iR.sz at this;omega
theorem Sm.xB {u:cK} (h:Sm u) (d:Int):xB (dc u d).bS≤6004:=by have:=h.sz d;unfold iR.sz at this;omega
theorem Sm.aA4 {u:cK} (h:Sm u) (d:Int):(dc u d).bS.length≤6004:=aS (aLs _) (h.xB d)
theorem Sm.body {u:cK} (h:Sm u) (d:Int):cI.gZ (dc u d).sC≤6004:=by have:=h.sz d;unfold iR.sz at this;omega
theorem Sm.m {u:cK} (h:Sm u) (d:Int) (m:Nat):((dc u d).bS.getD m default).sz≤6004:=by
 by_cases hm:m<(dc u d).bS.length
 ·exact aS (aLz (c6 hm)) (h.xB d)
 ·rw[aDF hm];decide
theorem hU.bounds {m:hU} (h:m.sz≤6004):m.cG.length≤6004∧m.cA.length≤6004∧cI.gZ m.sC≤6004:=by
 unfold hU.sz at h;exact ⟨by omega,by omega,by omega⟩
def ix {α:Type} (p:α→Bool) (l:List α):Int:=if l.findIdx p<l.length then (l.findIdx p:Int) else -1
theorem aAS {α:Type} {p:α→Bool} {l:List α} {z:α} {t:Nat} (h:t<l.length) (hb:∀ j,j<t→p (l.getD j z)=false) (hp:p (l.getD t z)=true):ix p l=t:=by
 have e:l.findIdx p=t:=by
  rw[List.getD,aF h] at hp
  refine (List.findIdx_eq h).2 ⟨hp,fun j hj=>?_⟩
  have:=hb j hj
  rw[List.getD,aF (by omega)] at this
  exact this
 unfold ix;rw[e,aE h]
theorem yI {α:Type} {p:α→Bool} {l:List α} {z:α} (hb:∀ j,j<l.length→p (l.getD j z)=false):ix p l = -1:=by
 unfold ix
 rw[aD]
 intro h
 have h1:=hb _ h
 rw[List.getD,aF h] at h1
 have:=List.findIdx_getElem (w:=h)
 rw[Option.getD_some] at h1
 rw[h1] at this;cases this
theorem a38 {α:Type} (p:α→Bool) (l:List α) : -1≤ix p l∧ix p l<l.length:=by
 unfold ix;split <;> omega
theorem aWk {α:Type} {p:α→Bool} {l:List α} (z:α) (h:0≤ix p l):(ix p l).toNat<l.length∧p (l.getD (ix p l).toNat z)=true:=by
 unfold ix at h ⊢
 split at h
 ·rename_i hl
  rw[aE hl]
  rw[Int.toNat_natCast]
  refine ⟨hl,?_⟩
  rw[List.getD,aF hl]
  exact List.findIdx_getElem (w:=hl)
 ·omega
theorem aJJ {α:Type} {p:α→Bool} {l:List α} {x:α} (h:x∈l) (hp:p x=true):0≤ix p l:=by
 unfold ix
 rw[aE (List.findIdx_lt_length_of_exists ⟨x,h,hp⟩)];omega
def vC (u:cK) (s:Bytes):Int:=ix (fun d:iR=>d.cD == s) u.bP
def kd (u:cK) (d:Int):Int:=if d<0∨d ≥ u.bP.length then 0 else (dc u d).bU
theorem gE {u:cK} {d k:Int} (h:kd u d=k) (hk:k≠0):0≤d∧d<u.bP.length:=by
 unfold kd at h
 split at h
 ·omega
 ·omega
theorem iV {K:Nat} {u:cK} {s:Bytes} (hK:100000<K) (h:Sm u):cQ (F61 K u s) (fun v=>v=vC u s):=by
 have hl:=h.len
 refine cQ.of ?_
 unfold F61
 refine bO.bT (bO.bQ (bO.cT ?_))
 refine bO.loop (fun t:Int=>0≤t∧t≤u.bP.length∧∀ j:Nat,(j:Int)<t→((u.bP.getD j default).cD == s)=false) (fun t=>(u.bP.length - t).toNat) ⟨by simp,by simp,fun j hj=>by omega⟩ (by simp;omega) (fun t ⟨h1,h2,h3⟩=>?_)
 obtain ⟨n,rfl⟩:=aP h1
 simp (disch:=omega) only[wr,Int.ofNat_eq_natCast]
 refine bO.bR (bO.ite (fun _=>bO.bT (bO.bQ (bO.bY (bW (by simp only[aB,Int.ofNat_eq_natCast] at *;omega)) (bO.b7 (bO.bR (bO.ite (fun _=>bO.ret (sE.l (sE.r (sE.r ?_)))) (fun _=>bO.ret (sE.r (bO.ret (sE.r ?_)))))))))) (fun _=>bO.ret (sE.l (sE.l (bO.ret (sE.l ?_))))))
 ·rename_i e2 e
  simp only[aB] at e2
  exact (aAS (z:=default) (by omega) (fun j hj=>h3 j (by omega)) e).symm
 ·rename_i e2 e
  rw[Int.toNat_natCast] at e
  simp only[aB] at e2
  refine ⟨⟨by omega,by omega,fun j hj=>?_⟩,by omega⟩
  by_cases hjn:j=n
  ·subst hjn;simpa using e
  ·exact h3 j (by omega)
 ·rename_i e
  simp only[aB] at e
  exact (yI (z:=default) fun j hj=>h3 j (by omega)).symm
theorem iU {K:Nat} {u:cK} {d:Int}:cQ (F68 K u d) (fun v=>v=kd u d):=by
 refine cQ.of ?_
 unfold F68 kd
 refine bO.bR (bO.ite (fun _=>bO.ret (sE.l ?_)) (fun _=>bO.bY (by simp only[aB,aC,aL,Int.ofNat_eq_natCast,cP,room,c5,Int.toNat_natCast] at *;omega) (bO.b7 (bO.bR (bO.ret (sE.l ?_))))))
 ·rename_i e
  simp only[aL,aB,Int.ofNat_eq_natCast] at e
  rw[aE e]
 ·rename_i e
  simp only[aL,aB,Int.ofNat_eq_natCast] at e
  rw[aD e]
theorem zM {K:Nat} {l:List Int} {x:Int} (hK:100000<K) (h:l.length≤20000):cQ (aG0 K l x) (fun v=>v=l.contains x):=by
 refine cQ.of ?_
 unfold aG0
 refine bO.bT (bO.bQ (bO.cT ?_))
 refine bO.loop (fun t:Int=>0≤t∧t≤l.length∧∀ j:Nat,(j:Int)<t→l.getD j default≠x) (fun t=>(l.length - t).toNat) ⟨by simp,by simp,fun j hj=>by omega⟩ (by simp;omega) (fun t ⟨h1,h2,h3⟩=>?_)
 obtain ⟨n,rfl⟩:=aP h1
 simp (disch:=omega) only[wr,Int.ofNat_eq_natCast]
 refine bO.bR (bO.ite (fun _=>bO.bT (bO.bQ (bO.bY (bW (by simp only[aB,Int.ofNat_eq_natCast] at *;omega)) (bO.b7 (bO.bR (bO.ite (fun _=>bO.ret (sE.l (sE.r (sE.r ?_)))) (fun _=>bO.ret (sE.r (bO.ret (sE.r ?_)))))))))) (fun _=>bO.ret (sE.l (sE.l (bO.ret (sE.l ?_))))))
 ·rename_i e2 e
  rw[Int.toNat_natCast] at e
  simp only[aB] at e2
  simp only[beq_iff_eq] at e
  exact (List.contains_iff_mem.2 (e ▸ c6 (by omega))).symm
 ·rename_i e2 e
  rw[Int.toNat_natCast] at e
  simp only[aB] at e2
  simp only[beq_iff_eq] at e
  refine ⟨⟨by omega,by omega,fun j hj=>?_⟩,by omega⟩
  by_cases hjn:j=n
  ·subst hjn;exact e
  ·exact h3 j (by omega)
 ·rename_i e
  simp only[aB] at e
  symm
  rw[← Bool.not_eq_true]
  intro hc
  obtain ⟨i,hi,rfl⟩:=List.getElem_of_mem (List.contains_iff_mem.1 hc)
  refine h3 i (by omega) ?_
  rw[List.getD,aF hi];rfl
def own (d:iR) (s:Bytes):Int:=ix (fun m:hU=>m.cD == s) d.bS
theorem aR0 {K:Nat} {d:iR} {s:Bytes} (hK:100000<K) (h:d.bS.length≤6004):cQ (aOf K d s) (fun v=>v=own d s):=by
 refine cQ.of ?_
 unfold aOf
 refine bO.bT (bO.bQ (bO.cT ?_))
 refine bO.loop (fun t:Int=>0≤t∧t≤d.bS.length∧∀ j:Nat,(j:Int)<t→((d.bS.getD j default).cD == s)=false) (fun t=>(d.bS.length - t).toNat) ⟨by simp,by simp,fun j hj=>by omega⟩ (by simp;omega) (fun t ⟨h1,h2,h3⟩=>?_)
 obtain ⟨n,rfl⟩:=aP h1
 simp (disch:=omega) only[wr,Int.ofNat_eq_natCast]
 refine bO.bR (bO.ite (fun _=>bO.bT (bO.bQ (bO.bY (bW (by simp only[aB,Int.ofNat_eq_natCast] at *;omega)) (bO.b7 (bO.bR (bO.ite (fun _=>bO.ret (sE.l (sE.r (sE.r ?_)))) (fun _=>bO.ret (sE.r (bO.ret (sE.r ?_)))))))))) (fun _=>bO.ret (sE.l (sE.l (bO.ret (sE.l ?_))))))
 ·rename_i e2 e
  simp only[aB] at e2
  exact (aAS (z:=default) (by omega) (fun j hj=>h3 j (by omega)) e).symm
 ·rename_i e2 e
  rw[Int.toNat_natCast] at e
  simp only[aB] at e2
  refine ⟨⟨by omega,by omega,fun j hj=>?_⟩,by omega⟩
  by_cases hjn:j=n
  ·subst hjn;simpa using e
  ·exact h3 j (by omega)
 ·rename_i e
  simp only[aB] at e
  exact (yI (z:=default) fun j hj=>h3 j (by omega)).symm
def unv:Nat→List Int→Nat
 | 0,_=>0
 | n+1,out=>unv n out+if out.contains (n:Int) then 0 else 1
theorem aLA:∀ (n:Nat) (out:List Int) (d:Int),(n:Int)≤d→unv n (out++[d])=unv n out
 | 0,_,_,_=>rfl
 | n+1,out,d,h=>by
   rw[unv,unv,aLA n out d (by omega)]
   have:(out++[d]).contains (n:Int)=out.contains (n:Int):=by
    rw[Bool.eq_iff_iff];simp <;> omega
   rw[this]
theorem uE:∀ (n:Nat) (out:List Int) (d:Int),0≤d→d<n→out.contains d=false→unv n (out++[d])+1=unv n out
 | 0,_,d,h0,h,_=>by omega
 | n+1,out,d,h0,h,hc=>by
   rw[unv,unv]
   by_cases e:d=n
   ·subst e
    rw[aLA n out _ (by omega),aE (by simp),aD (by rw[hc];exact Bool.false_ne_true)]
   ·have:=uE n out d h0 (by omega) hc
    have h2:(out++[d]).contains (n:Int)=out.contains (n:Int):=by
     rw[Bool.eq_iff_iff];simp <;> omega
    rw[h2];omega
theorem nY:∀ n,unv n []=n
 | 0=>rfl
 | n+1=>by rw[unv,nY n];simp
def chF (u:cK):Nat→List Int→Int→List Int
 | 0,out,_=>out
 | n+1,out,d=>if kd u d=2∧out.contains d=false then chF u n (out++[d]) (vC u (dc u d).gF) else out
def chain (u:cK) (d:Int):List Int:=chF u (u.bP.length+1) [] d
theorem aGm {u:cK} (P:List Int→Prop) (hp:∀ out d,P out→kd u d=2→out.contains d=false→P (out++[d])):∀ (n:Nat) (out:List Int) (d:Int),P out→P (chF u n out d)
 | 0,_,_,h=>h
 | n+1,out,d,h=>by
   rw[chF]
   split
   ·rename_i e;exact aGm P hp n _ _ (hp _ _ h e.1 e.2)
   ·exact h
theorem aAv {u:cK} {d x:Int} (h:x∈chain u d):kd u x=2 :=
 aGm (fun out=>∀ x∈out,kd u x=2) (fun out d h1 h2 _ x hx=>by
  rcases aZ.1 hx with hx | hx
  ·exact h1 x hx
  ·rw[aJ.1 hx];exact h2) _ [] d (fun x hx=>by cases hx) x h
theorem lV {u:cK} {d x:Int} (h:x∈chain u d):0≤x∧x<u.bP.length:=gE (aAv h) (by decide)
theorem mK (u:cK) (d:Int):(chain u d).length≤u.bP.length:=by
 have h:=aGm (u:=u) (fun out=>out.length+unv u.bP.length out=u.bP.length) (fun out d h1 h2 h3=>by
  have hd:=gE h2 (by decide)
  have:=uE u.bP.length out d hd.1 hd.2 h3
  rw[aG,List.length_singleton];omega) (u.bP.length+1) [] d (by rw[nY];simp)
 unfold chain;omega
theorem mZ {K:Nat} {u:cK} {d:Int} (hK:100000<K) (h:Sm u):cQ (aBb K u d) (fun v=>v=chain u d):=by
 have hl:=h.len
 refine cQ.of ?_
 unfold aBb
 refine bO.bT (bO.bQ (bO.cT ?_))
 refine bO.loop (fun t:Int × List Int=>t.2.length+unv u.bP.length t.2=u.bP.length∧∃ n,unv u.bP.length t.2<n∧chF u n t.2 t.1=chain u d) (fun t=>unv u.bP.length t.2) ⟨by rw[nY];simp,u.bP.length+1,by rw[nY];simp,rfl⟩ (by show unv _ []<K;rw[nY];omega) ?_
 rintro ⟨e,out⟩ ⟨h1,n,h2,h3⟩
 dsimp only at h1 h2 h3 ⊢
 obtain ⟨n,rfl⟩:∃ m,n=m+1:=⟨n - 1,by omega⟩
 rw[chF] at h3
 refine bO.jD (iU) ?_
 refine bO.c8 (fun _=>zM (by omega) (by omega)) (fun v hv=>?_)
 refine bO.ite (fun c=>?_) (fun c=>?_)
 ·simp only[aC,beq_iff_eq,aQ] at c
  have hv':=hv (by simp [c.1])
  have hc:out.contains e=false:=by rw[← hv'];exact c.2
  rw[aE ⟨c.1,hc⟩] at h3
  have hd:=gE c.1 (by decide)
  have hu:=uE u.bP.length out e hd.1 hd.2 hc
  refine bO.bT (bO.bQ ?_)
  refine bO.bY (by simp [room];omega) (bO.b7 (bO.bY (by simp [cP];omega) (bO.b7 (bO.bR ?_))))
  refine bO.cH (by decide) (iV (by omega) h) ?_
  rintro _ rfl
  refine bO.ret (sE.r (bO.ret (sE.r ?_)))
  exact ⟨⟨by simp;omega,n,by dsimp only;omega,h3⟩,by dsimp only;omega⟩
 ·have hc:¬ (kd u e=2∧out.contains e=false):=fun ⟨c1,c2⟩=>by
   have hv':=hv (by simp [c1])
   rw[c2] at hv'
   exact c (by simp [c1,hv'])
  rw[aD hc] at h3
  refine bO.ret (sE.l (sE.l (bO.ret (sE.l ?_))))
  exact h3
end Go.Proofs.YtdbfbedholdjaaaGreat

namespace Go.Proofs.YtdbfbedholdjaaaGreat
open Go Go.Dl
variable [dO]
set_option maxRecDepth 100000
set_option maxHeartbeats 8000000
theorem kD {α:Type} {l:List α} {n:Nat} (z:α) (h:n<l.length):l.drop n=l.getD n z::l.drop (n+1):=by
 rw[List.getD,aF h,Option.getD_some];exact List.drop_eq_getElem_cons h
def wY (u:cK) (s:Bytes):List Int→dS × Bool
 | []=>(⟨0,0⟩,false)
 | c::r=>if 0≤own (dc u c) s then (⟨c,own (dc u c) s⟩,true) else wY u s r
def line (u:cK) (d:Int):List Int:=if kd u d=1 then [d] else chain u d
def l9 (u:cK) (d:Int) (s:Bytes):dS × Bool:=wY u s (line u d)
theorem aGk {u:cK} {d x:Int} (h:x∈line u d):0≤x∧x<u.bP.length:=by
 unfold line at h
 split at h
 ·rename_i e;rw[aJ.1 h];exact gE e (by decide)
 ·exact lV h
theorem aH5 {u:cK} (h:Sm u) (d:Int):(line u d).length≤6005:=by
 unfold line
 split
 ·simp
 ·have:=mK u d;have:=h.len;omega
theorem qX {K:Nat} {u:cK} {d:Int} {s:Bytes} (hK:100000<K) (h:Sm u):cQ (aEd K u d s) (fun v=>v=l9 u d s):=by
 have hl:=h.len
 refine cQ.of ?_
 unfold aEd
 refine bO.jD (mZ (by omega) (by assumption)) ?_
 refine bO.jD (iU) ?_
 refine bO.b5 (fun l=>l=line u d) ?_ ?_
 ·unfold line
  refine bO.ite (fun e=>?_) (fun e=>?_)
  ·refine bO.ret (sE.r ?_)
   rw[aE (by simpa using e)]
  ·refine bO.ret (sE.r ?_)
   rw[aD (by simpa using e)]
 rintro _ rfl
 have h2:=aH5 h d
 refine bO.bT (bO.bQ (bO.cT ?_))
 refine bO.loop (fun t:Int=>0≤t∧t≤(line u d).length∧wY u s ((line u d).drop t.toNat)=l9 u d s) (fun t=>((line u d).length - t).toNat) ⟨by simp,by simp,rfl⟩ (by simp;omega) (fun t ⟨g1,g2,g3⟩=>?_)
 obtain ⟨n,rfl⟩:=aP g1
 rw[Int.toNat_natCast] at g3
 simp (disch:=omega) only[wr,Int.ofNat_eq_natCast]
 refine bO.bR (bO.ite (fun e=>?_) (fun e=>?_))
 ·simp only[aB] at e
  have hn:n<(line u d).length:=by omega
  rw[kD default hn,wY] at g3
  have hx:=aGk (c6 (d:=default) hn)
  refine bO.bT (bO.bQ ?_)
  rw[Int.toNat_natCast]
  refine bO.bY (bW (by omega)) (bO.b7 (bO.bY (bW hx) (bO.b7 ?_)))
  refine bO.cH (by decide) (aR0 (by omega) (h.aA4 _)) ?_
  rintro _ rfl
  refine bO.ite (fun c=>?_) (fun c=>?_)
  ·simp only[aB] at c
   rw[aE c] at g3
   refine bO.bY (bW (by omega)) (bO.b7 ?_)
   refine bO.ret (sE.l (sE.r (sE.r ?_)))
   exact g3
  ·simp only[aB] at c
   rw[aD c] at g3
   refine bO.ret (sE.r (bO.ret (sE.r ?_)))
   exact ⟨⟨by omega,by omega,by rw[show ((n:Int)+1).toNat=n+1 by omega];exact g3⟩,by omega⟩
 ·simp only[aB] at e
  rw[List.drop_eq_nil_of_le (by omega),wY] at g3
  refine bO.ret (sE.l (sE.l (bO.ret (sE.l ?_))))
  exact g3
def iS (u:cK) (out:List Int) (s:Bytes):List Int:=if kd u (vC u s)=1∧out.contains (vC u s)=false then out++[vC u s] else out
def gJ (u:cK) (d:Int):List Int:=(chain u d).foldl (fun out c=>(dc u c).cL.foldl (iS u) out) []
def Dis (u:cK) (out:List Int):Prop:=out.length+unv u.bP.length out=u.bP.length
theorem Dis.nil (u:cK):Dis u []:=by unfold Dis;rw[nY];simp
theorem aIa {u:cK} {out:List Int} (s:Bytes) (h:Dis u out):Dis u (iS u out s):=by
 unfold iS
 split
 ·rename_i e
  have hd:=gE e.1 (by decide)
  have:=uE u.bP.length out _ hd.1 hd.2 e.2
  unfold Dis at *
  rw[aG,List.length_singleton];omega
 ·exact h
theorem uQ {u:cK}:∀ (l:List Bytes) {out:List Int},Dis u out→Dis u (l.foldl (iS u) out)
 | [],_,h=>h
 | s::l,_,h=>uQ l (aIa s h)
theorem Dis.len {u:cK} {out:List Int} (h:Dis u out):out.length≤u.bP.length:=by unfold Dis at h;omega
theorem aM1 (u:cK) (d:Int):Dis u (gJ u d):=by
 have:∀ (l:List Int) (out:List Int),Dis u out→Dis u (l.foldl (fun out c=>(dc u c).cL.foldl (iS u) out) out):=by
  intro l
  induction l with
  | nil=>exact fun _ h=>h
  | cons x l ih=>exact fun out h=>ih _ (uQ _ h)
 exact this _ _ (Dis.nil u)
theorem qL (u:cK) (d:Int):(gJ u d).length≤u.bP.length:=(aM1 u d).len
theorem aDr {K:Nat} {u:cK} {d:Int} (hK:100000<K) (h:Sm u):cQ (aIW K u d) (fun v=>v=gJ u d):=by
 have hl:=h.len
 refine cQ.of ?_
 unfold aIW
 refine bO.jD (mZ (by omega) (by assumption)) ?_
 have hc:=mK u d
 refine bO.bT (bO.bQ (bO.cT ?_))
 refine bO.loop (fun t:List Int × Int=>0≤t.2∧t.2≤(chain u d).length∧Dis u t.1∧((chain u d).drop t.2.toNat).foldl (fun out c=>(dc u c).cL.foldl (iS u) out) t.1=gJ u d) (fun t=>((chain u d).length - t.2).toNat) ⟨by simp,by simp,Dis.nil u,rfl⟩ (by simp;omega) ?_
 rintro ⟨out,t⟩ ⟨g1,g2,g3,g4⟩
 dsimp only at g1 g2 g3 g4 ⊢
 obtain ⟨n,rfl⟩:=aP g1
 rw[Int.toNat_natCast] at g4
 simp (disch:=omega) only[wr,Int.ofNat_eq_natCast]
 refine bO.bR (bO.ite (fun e=>?_) (fun e=>?_))
 ·simp only[aB] at e
  have hn:n<(chain u d).length:=by omega
  rw[kD default hn,List.foldl_cons] at g4
  have hx:=lV (c6 (d:=default) hn)
  have hfs:=h.gJ ((chain u d).getD n default)
  rw[Int.toNat_natCast]
  refine bO.bT (bO.bQ (bO.bY (bW (by omega)) (bO.b7 (bO.bY (bW hx) (bO.b7 (bO.bR ?_))))))
  refine bO.b5 (fun o=>Dis u o∧((chain u d).drop (n+1)).foldl (fun out c=>(dc u c).cL.foldl (iS u) out) o=gJ u d) ?_ ?_
  ·refine bO.bQ (bO.cT ?_)
   generalize hfl:(u.bP.getD ((chain u d).getD n default).toNat default).cL=fl at g4 hfs
   refine bO.loop (fun t:List Int × Int=>0≤t.2∧t.2≤fl.length∧Dis u t.1∧((chain u d).drop (n+1)).foldl (fun out c=>(dc u c).cL.foldl (iS u) out) ((fl.drop t.2.toNat).foldl (iS u) t.1)=gJ u d) (fun t=>(fl.length - t.2).toNat) ⟨by simp,by simp,g3,g4⟩ (by simp;omega) ?_
   rintro ⟨o2,t2⟩ ⟨k1,k2,k3,k4⟩
   dsimp only at k1 k2 k3 k4 ⊢
   obtain ⟨m,rfl⟩:=aP k1
   rw[Int.toNat_natCast] at k4
   have k5:=k3.len
   simp (disch:=omega) only[wr,Int.ofNat_eq_natCast]
   refine bO.bR (bO.ite (fun e=>?_) (fun e=>?_))
   ·simp only[aB] at e
    have hm:m<fl.length:=by omega
    rw[kD default hm,List.foldl_cons] at k4
    have k6:=aIa (fl.getD m default) k3
    have k7:=k6.len
    refine bO.bT (bO.bQ ?_)
    rw[Int.toNat_natCast]
    refine bO.bY (bW (by omega)) (bO.b7 ?_)
    refine bO.aJI rfl (iV (by omega) (by assumption)) ?_
    refine bO.jD (iU) ?_
    refine bO.c8 (fun _=>zM (by omega) (by omega)) (fun v hv=>?_)
    refine bO.ite (fun c=>?_) (fun c=>?_)
    ·simp only[aC,beq_iff_eq,aQ] at c
     have hv':=hv (beq_iff_eq.2 c.1)
     have he:iS u o2 (fl.getD m default)=o2++[vC u (fl.getD m default)]:=by
      unfold iS;rw[aE ⟨c.1,by rw[← hv'];exact c.2⟩]
     rw[he] at k4 k6
     refine bO.bY (by simp [room];omega) (bO.b7 ?_)
     refine bO.ret (sE.r (bO.ret (sE.r ?_)))
     exact ⟨⟨by dsimp only;omega,by dsimp only;omega,k6,by dsimp only;rw[show ((m:Int)+1).toNat=m+1 by omega];exact k4⟩,by dsimp only;omega⟩
    ·have he:iS u o2 (fl.getD m default)=o2:=by
      unfold iS
      rw[aD]
      rintro ⟨c1,c2⟩
      have hv':=hv (beq_iff_eq.2 c1)
      rw[c2] at hv'
      exact c (by rw[c1,hv'];rfl)
     rw[he] at k4
     refine bO.ret (sE.r (bO.ret (sE.r ?_)))
     exact ⟨⟨by dsimp only;omega,by dsimp only;omega,k3,by dsimp only;rw[show ((m:Int)+1).toNat=m+1 by omega];exact k4⟩,by dsimp only;omega⟩
   ·simp only[aB] at e
    rw[List.drop_eq_nil_of_le (by omega),List.foldl_nil] at k4
    refine bO.ret (sE.l (sE.l ?_))
    exact ⟨k3,k4⟩
  rintro o ⟨k1,k2⟩
  refine bO.ret (sE.r (bO.ret (sE.r ?_)))
  exact ⟨⟨by dsimp only;omega,by dsimp only;omega,k1,by dsimp only;rw[show ((n:Int)+1).toNat=n+1 by omega];exact k2⟩,by dsimp only;omega⟩
 ·simp only[aB] at e
  rw[List.drop_eq_nil_of_le (by omega),List.foldl_nil] at g4
  refine bO.ret (sE.l (sE.l (bO.ret (sE.l ?_))))
  exact g4
def varsOf (u:cK) (l:List Int):List eZ:=l.flatMap fun x=>(dc u x).cA
def rJ (u:cK) (d:Int):List eZ:=if kd u d=3 then (dc u d).cA else varsOf u (chain u d).reverse
theorem w6 {u:cK} (h:Sm u):∀ l:List Int,(varsOf u l).length≤l.length * 6004
 | []=>by simp [varsOf]
 | x::l=>by
   have:=w6 h l
   have:=h.vars x
   unfold varsOf at *
   rw[List.flatMap_cons,aG,List.length_cons,Nat.succ_mul];omega
theorem aDB {u:cK} (h:Sm u) (d:Int):(rJ u d).length≤36100000:=by
 unfold rJ
 split
 ·have:=h.vars d;omega
 ·have:=w6 h (chain u d).reverse
  have h1:=mK u d
  have h2:=h.len
  have h3:(chain u d).length * 6004≤6004 * 6004:=aV _ (by omega)
  rw[List.length_reverse] at this
  omega
theorem aBR {K:Nat} {u:cK} {d:Int} (hK:100000<K) (h:Sm u):cQ (F70 K u d) (fun v=>v=rJ u d):=by
 have hl:=h.len
 have hf:=aDB h d
 refine cQ.of ?_
 unfold F70
 refine bO.jD (iU) ?_
 refine bO.ite (fun e=>?_) (fun e=>?_)
 ·have e:=beq_iff_eq.1 e
  have hd:=gE e (by decide)
  have hv:=h.vars d
  refine bO.bY (bW hd) (bO.b7 (bO.bR (bO.bY (show room ((dc u d).cA.length * 80)=true by simp only[room,aB];omega) (bO.b7 ?_))))
  refine bO.ret (sE.l ?_)
  unfold rJ;rw[aE e]
 ·have e:kd u d≠3:=fun c=>e (beq_iff_eq.2 c)
  have hs:rJ u d=varsOf u (chain u d).reverse:=by unfold rJ;rw[aD e]
  refine bO.jD (mZ (by omega) (by assumption)) ?_
  have hc:=mK u d
  refine bO.bR (bO.bT (bO.bQ (bO.cT ?_)))
  simp (disch:=omega) only[wr,Int.ofNat_eq_natCast]
  refine bO.loop (fun t:List eZ × Int=>-1≤t.2∧t.2<(chain u d).length∧t.1=varsOf u ((chain u d).drop (t.2+1).toNat).reverse) (fun t=>(t.2+1).toNat) ⟨by dsimp only;omega,by dsimp only;omega,by dsimp only;rw[show ((chain u d).length - 1+1:Int).toNat=(chain u d).length by omega,List.drop_length];rfl⟩ (by dsimp only;omega) ?_
  rintro ⟨acc,t⟩ ⟨g1,g2,g3⟩
  dsimp only at g1 g2 g3 ⊢
  refine bO.ite (fun e=>?_) (fun e=>?_)
  ·simp only[aB] at e
   obtain ⟨n,rfl⟩:=aP e
   rw[show ((n:Int)+1).toNat=n+1 by omega] at g3
   have hn:n<(chain u d).length:=by omega
   have hx:=lV (c6 (d:=default) hn)
   have hd:varsOf u ((chain u d).drop n).reverse=acc++(dc u ((chain u d).getD n default)).cA:=by
    rw[kD default hn,List.reverse_cons,g3];simp [varsOf]
   have h1:=w6 h ((chain u d).drop n).reverse
   rw[hd,aG,List.length_reverse,bM] at h1
   have h3:((chain u d).length - n) * 6004≤6004 * 6004:=aV _ (by omega)
   refine bO.bT (bO.bQ ?_)
   rw[Int.toNat_natCast]
   refine bO.bY (bW (by omega)) (bO.b7 (bO.bY (bW hx) (bO.b7 (bO.bR (bO.bY ?_ (bO.b7 ?_))))))
   ·show room ((acc.length+(dc u ((chain u d).getD n default)).cA.length) * 80)=true
    simp only[room,aB];omega
   simp (disch:=omega) only[wr,Int.ofNat_eq_natCast]
   refine bO.ret (sE.r (bO.ret (sE.r ?_)))
   exact ⟨⟨by dsimp only;omega,by dsimp only;omega,by dsimp only;rw[show ((n:Int) - 1+1).toNat=n by omega];exact hd.symm⟩,by dsimp only;omega⟩
  ·simp only[aB] at e
   rw[show (t+1).toNat=0 by omega,List.drop_zero] at g3
   refine bO.ret (sE.l (sE.l (bO.ret (sE.l ?_))))
   rw[hs];exact g3
theorem aWl {a b:fS} (h:((a.bU == b.bU) && ((a.fLo == b.fLo) && ((a.zO == b.zO) && ((a.cD == b.cD) && true))))=true):a=b:=by
 simp only[aC,beq_iff_eq] at h
 obtain ⟨h1,h2,h3,h4,_⟩:=h
 cases a;cases b;simp_all
theorem aHZ {K:Nat} {a b:hU} (hK:100000<K) (ha:a.cG.length≤6004):cQ (aL8 K a b) (fun v=>v=true→a.cG.length=b.cG.length∧a.eU=b.eU∧∀ i:Nat,(i:Int)<a.cG.length→(a.cG.getD i default).cB=(b.cG.getD i default).cB):=by
 refine cQ.of ?_
 unfold aL8
 refine bO.bR (bO.ite (fun e=>?_) (fun e=>?_))
 ·refine bO.ret (sE.l ?_)
  intro h;cases h
 ·have e:¬ (a.cG.length≠b.cG.length)∧a.eU=b.eU:=by
   simp only[aL,not_or,aQ,Bool.not_eq_false,bne_iff_ne,ne_eq,Int.ofNat_eq_natCast,Int.natCast_inj] at e
   exact ⟨e.1,aWl e.2⟩
  have hl:a.cG.length=b.cG.length:=by omega
  refine bO.bT (bO.bQ (bO.cT ?_))
  refine bO.loop (fun t:Int=>0≤t∧t≤a.cG.length∧∀ i:Nat,(i:Int)<t→(a.cG.getD i default).cB=(b.cG.getD i default).cB) (fun t=>(a.cG.length - t).toNat) ⟨by simp,by simp,fun j hj=>by omega⟩ (by simp;omega) (fun t ⟨h1,h2,h3⟩=>?_)
  obtain ⟨n,rfl⟩:=aP h1
  simp (disch:=omega) only[wr,Int.ofNat_eq_natCast]
  refine bO.bR (bO.ite (fun e1=>?_) (fun e1=>?_))
  ·simp only[aB] at e1
   refine bO.bT (bO.bQ (bO.bY (bW (by omega)) (bO.bY (bW (by omega)) (bO.b7 (bO.bR (bO.ite (fun e2=>?_) (fun e2=>?_)))))))
   ·refine bO.ret (sE.l (sE.r (sE.r ?_)))
    intro h;cases h
   ·simp only[aQ,Bool.not_eq_false] at e2
    have e2:=aWl e2
    rw[Int.toNat_natCast] at e2
    refine bO.ret (sE.r (bO.ret (sE.r ?_)))
    refine ⟨⟨by omega,by omega,fun j hj=>?_⟩,by omega⟩
    by_cases hjn:j=n
    ·subst hjn;exact e2
    ·exact h3 j (by omega)
  ·simp only[aB] at e1
   refine bO.ret (sE.l (sE.l (bO.ret (sE.l ?_))))
   exact fun _=>⟨hl,e.2,fun j hj=>h3 j (by omega)⟩
def sX (u:cK) (w:dS):hU:=(dc u w.cZ).bS.getD w.dF.toNat default
def Vw (u:cK) (w:dS):Prop:=(0≤w.cZ∧w.cZ<u.bP.length)∧0≤w.dF∧w.dF<(dc u w.cZ).bS.length
theorem rU {K:Nat} {u:cK} {w:dS} (h:Vw u w):cQ (F63 K u w) (fun v=>v=sX u w):=by
 refine cQ.of ?_
 unfold F63
 refine bO.bY (bW h.1) (bO.bY (bW h.2) (bO.b7 ?_))
 refine bO.ret (sE.l ?_)
 rfl
theorem aLB {u:cK} {s:Bytes}:∀ {l:List Int},(∀ x∈l,0≤x∧x<u.bP.length)→(wY u s l).2=true→Vw u (wY u s l).1∧(wY u s l).1.cZ∈l∧(sX u (wY u s l).1).cD=s
 | c::r,hl,h=>by
   rw[wY] at h ⊢
   split at h
   ·rename_i e
    rw[aE e]
    obtain ⟨h1,h2⟩:=aWk (default:hU) e
    refine ⟨⟨hl c (bA ..),e,(a38 _ _).2⟩,bA ..,?_⟩
    exact eq_of_beq h2
   ·rename_i e
    rw[aD e]
    obtain ⟨h1,h2,h3⟩:=aLB (fun x hx=>hl x (aT _ hx)) h
    exact ⟨h1,aT _ h2,h3⟩
theorem wJ {u:cK} {d:Int} {s:Bytes} (h:(l9 u d s).2=true):Vw u (l9 u d s).1∧(l9 u d s).1.cZ∈line u d∧(sX u (l9 u d s).1).cD=s:=aLB (fun x hx=>aGk hx) h
theorem aDz {u:cK} {s:Bytes}:∀ {l:List Int} {c:Int},c∈l→0≤own (dc u c) s→(wY u s l).2=true
 | x::l,c,h,h2=>by
   rw[wY]
   split
   ·rfl
   ·rename_i e
    rcases aY.1 h with rfl | h
    ·exact absurd h2 e
    ·exact aDz h h2
end Go.Proofs.YtdbfbedholdjaaaGreat

namespace Go.Proofs.YtdbfbedholdjaaaGreat
open Go Go.Dl
variable [dO]
set_option maxRecDepth 100000
set_option maxHeartbeats 8000000
theorem aDJ {K:Nat} {u:cK} {w:dS}:cQ (aIY K u w) (fun v=>v=true→kd u w.cZ=2∧Vw u w):=by
 refine cQ.of ?_
 unfold aIY
 refine bO.cH (by decide) iU ?_
 rintro _ rfl
 refine bO.bY ?_ (bO.b7 (bO.bR ?_))
 ·by_cases e:kd u w.cZ=2
  ·rw[bW (gE e (by decide))];simp
  ·rw[beq_eq_false_iff_ne.2 e];rfl
 ·refine bO.ret (sE.l ?_)
  intro h
  simp only[aC,beq_iff_eq,aB] at h
  exact ⟨h.1.1,gE h.1.1 (by decide),h.1.2,h.2⟩
def Plc (u:cK) (w:dS):Prop:=(kd u w.cZ=2∧Vw u w)∨(kd u w.cZ=3∧w.dF = -1)
theorem zI {K:Nat} {u:cK} {w:dS}:cQ (aG2 K u w) (fun v=>v=true→Plc u w):=by
 refine cQ.of ?_
 unfold aG2
 refine bO.call aDJ (fun v hv=>?_)
 refine bO.c8 (fun _=>iU) (fun v2 hv2=>?_)
 refine bO.bR (bO.ret (sE.l ?_))
 intro h
 cases v with
 | true=>exact .inl (hv rfl)
 | false =>
   simp only[Bool.false_or,aC,beq_iff_eq] at h
   have:=hv2 (by rfl)
   exact .inr ⟨by rw[← this];exact h.1,h.2⟩
theorem Plc.in {u:cK} {w:dS} (h:Plc u w):0≤w.cZ∧w.cZ<u.bP.length:=by
 rcases h with h | h
 ·exact gE h.1 (by decide)
 ·exact gE h.1 (by decide)
theorem cS {n:Nat} (h:n≤140737488355328):room n=true:=by simp only[room,aB];exact h
theorem aH1 {K:Nat} {u:cK} {w:dS} (hK:100000<K) (h:Sm u):cQ (aL9 K u w) (fun v=>v.length≤36200000):=by
 refine cQ.of ?_
 unfold aL9
 refine bO.call zI (fun v hv=>?_)
 refine bO.ite (fun e=>?_) (fun e=>?_)
 ·refine bO.ret (sE.l ?_)
  simp
 ·have hp:=hv (by simpa using e)
  have hd:=hp.in
  have h1:=h.vars w.cZ
  refine bO.ite (fun e2=>?_) (fun e2=>?_)
  ·refine bO.bY (bW hd) (bO.b7 (bO.bR (bO.bY (cS ?_) (bO.b7 ?_))))
   ·show (dc u w.cZ).cA.length * 80≤_
    omega
   ·refine bO.ret (sE.l ?_)
    show (dc u w.cZ).cA.length≤_
    omega
  ·simp only[aB] at e2
   have hw:Vw u w:=by
    rcases hp with hp | hp
    ·exact hp.2
    ·omega
   have hm:(sX u w).sz≤6004:=h.m w.cZ w.dF.toNat
   have hb:=hU.bounds hm
   have hf:=aDB h w.cZ
   refine bO.bY (bW hd) (bO.bY (bW hw.2) (bO.b7 (bO.bR (bO.bY (cS ?_) (bO.b7 (bO.bR (bO.bY (cS ?_) (bO.b7 ?_))))))))
   ·show (sX u w).cG.length * 80≤_
    omega
   ·show ((sX u w).cG.length+(sX u w).cA.length) * 80≤_
    omega
   ·refine bO.call (aBR (by omega) h) ?_
    rintro _ rfl
    refine bO.bY (cS ?_) (bO.b7 ?_)
    ·show (((sX u w).cG++(sX u w).cA).length+(rJ u w.cZ).length) * 80≤_
     rw[aG];omega
    ·refine bO.ret (sE.l ?_)
     show (((sX u w).cG++(sX u w).cA)++(rJ u w.cZ)).length≤_
     rw[aG,aG];omega
theorem aDx {K:Nat} {u:cK} {w:dS} {s:Bytes} (hK:40000000<K) (h:Sm u):cQ (aIZ K u w s) (fun _=>True):=by
 refine cQ.of ?_
 unfold aIZ
 refine bO.call (aH1 (by omega) h) (fun l hl=>?_)
 refine bO.bT (bO.bQ (bO.cT ?_))
 refine bO.loop (fun t:Int=>0≤t∧t≤l.length) (fun t=>(l.length - t).toNat) ⟨by simp,by simp⟩ (by simp;omega) (fun t ⟨h1,h2⟩=>?_)
 simp (disch:=omega) only[wr,Int.ofNat_eq_natCast]
 refine bO.bR (bO.ite (fun _=>bO.bT (bO.bQ (bO.bY (bW (by simp only[aB,Int.ofNat_eq_natCast] at *;omega)) (bO.b7 (bO.bR (bO.ite (fun _=>bO.bY (bW (by simp only[aB,Int.ofNat_eq_natCast] at *;omega)) (bO.b7 (bO.ret (sE.l (sE.r (sE.r ?_)))))) (fun _=>bO.ret (sE.r (bO.ret (sE.r ?_)))))))))) (fun _=>bO.ret (sE.l (sE.l (bO.ret (sE.l ?_))))))
 all_goals (try (first | trivial | (intro h;cases h;done) | omega | (simp only[aB] at *;omega)))
theorem aIb {K:Nat} {u:cK} {s:Bytes} (hK:100000<K) (h:Sm u):cQ (aI0 K u s) (fun v=>v=true→kd u (vC u s)≠0):=by
 refine cQ.of ?_
 unfold aI0
 refine bO.cH (by decide) (iV (by omega) h) ?_
 rintro _ rfl
 refine bO.cH (by decide) iU ?_
 rintro _ rfl
 refine bO.ret (sE.l ?_)
 intro e
 simp only[aL,beq_iff_eq] at e
 omega
theorem aH4 {K:Nat} {u:cK} {a b:Bytes} (hK:100000<K) (h:Sm u):cQ (aMb K u a b) (fun _=>True):=by
 refine cQ.of ?_
 unfold aMb
 refine bO.jD (iV (by omega) (by assumption)) ?_
 refine bO.jD (iU) ?_
 refine bO.ite (fun e=>?_) (fun e=>?_)
 ·refine bO.ret (sE.l ?_);trivial
 ·refine bO.jD (iV (by omega) (by assumption)) ?_
  have hc:=mK u (vC u a)
  have hl:=h.len
  refine bO.c8 (fun _=>mZ (by omega) h) (fun v1 hv1=>?_)
  refine bO.c8 (fun e2=>zM (by omega) (by rw[hv1 e2];omega)) (fun v2 hv2=>?_)
  refine bO.c8 (fun _=>aDr (by omega) h) (fun v3 hv3=>?_)
  refine bO.c8 (fun e2=>zM (by omega) (by rw[hv3 e2];exact aS (qL u _) (by omega))) (fun v4 hv4=>?_)
  refine bO.ret (sE.l ?_);trivial
theorem aDv {K:Nat} {u:cK} {a b:fS} (hK:100000<K) (h:Sm u):cQ (aG3 K u a b) (fun _=>True):=by
 refine cQ.of ?_
 unfold aG3
 refine bO.bT (bO.bQ (bO.bT (bO.ite (fun _=>bO.ret (sE.r (bO.ite (fun _=>bO.ret (sE.l (sE.r ?_))) (fun _=>bO.ite (fun _=>bO.ret (sE.l (sE.r ?_))) (fun _=>bO.ite (fun _=>?_) (fun _=>bO.ret (sE.r (bO.ret (sE.l ?_))))))))) (fun _=>bO.ret (sE.r (bO.ite (fun _=>bO.ret (sE.l (sE.r ?_))) (fun _=>bO.ite (fun _=>bO.ret (sE.l (sE.r ?_))) (fun _=>bO.ite (fun _=>?_) (fun _=>bO.ret (sE.r (bO.ret (sE.l ?_))))))))))))
 all_goals first
  | trivial
  | (refine bO.c8 (fun _=>aH4 (by omega) h) (fun v1 hv1=>?_);refine bO.bR (bO.ret (sE.l (sE.r ?_)));trivial)
def ar (k:Int):Int:=if k<1∨k ≥ 15 then -1 else ([(-1),0,0,0,0,0,1,1,1,2,0,0,0,0,1]:List Int).getD k.toNat default
theorem aR1 {K:Nat} {k:Int}:cQ (aOl K k) (fun v=>v=ar k):=by
 refine cQ.of ?_
 unfold aOl ar
 refine bO.bR (bO.ite (fun e=>?_) (fun e=>?_))
 ·simp only[List.length_cons,List.length_nil,aL,aB,ge_iff_le,Int.ofNat_eq_natCast] at e
  refine bO.ret (sE.l ?_)
  rw[aE (by omega)]
 ·simp only[List.length_cons,List.length_nil,aL,aB,not_or,ge_iff_le,Int.not_le,Int.not_lt,Int.ofNat_eq_natCast] at e
  refine bO.bY (bW (by simp only[List.length_cons,List.length_nil];omega)) ?_
  refine bO.b7 (bO.bR (bO.ret (sE.l ?_)))
  rw[aD (by omega)]
theorem aR2 {K:Nat} {o:Int} {a b:fS}:cQ (aMa K o a b) (fun _=>True):=by
 refine cQ.of ?_
 unfold aMa
 refine bO.bR (bO.bT (bO.bQ (bO.bR (bO.ite (fun _=>bO.ret (sE.l (sE.r ?_))) (fun _=>bO.bR (bO.ite (fun _=>bO.ret (sE.l (sE.r ?_))) (fun _=>bO.bR (bO.ite (fun _=>bO.ret (sE.l (sE.r ?_))) (fun _=>bO.bR (bO.ite (fun _=>bO.ret (sE.l (sE.r ?_))) (fun _=>bO.ret (sE.r (bO.ret (sE.l ?_))))))))))))))
 all_goals trivial
theorem aH3 {K:Nat} {u:cK} {w:dS} {e:cM} (hK:40000000<K) (h:Sm u):cQ (aMi K u w e) (fun v=>v.2=0→0≤v.1∧v.1<u.bP.length):=by
 refine cQ.of ?_
 unfold aMi
 refine bO.jD (mZ (by omega) (by assumption)) ?_
 refine bO.eC (bO.bQ ?_) (fun _=>?_)
 ·refine bO.ite (fun e1=>?_) (fun e1=>?_)
  ·refine bO.call (aDx (by omega) h) (fun r1 _=>?_)
   refine bO.ite (fun e2=>?_) (fun e2=>bO.bR (bO.ite (fun e3=>?_) (fun e3=>?_)))
   ·refine bO.ret (sE.l (sE.r ?_));intro h;cases h
   ·refine bO.ret (sE.l (sE.r ?_));intro h;cases h
   ·refine bO.call (aIb (by omega) h) (fun v hv=>?_)
    refine bO.ite (fun e4=>?_) (fun e4=>?_)
    ·refine bO.ret (sE.l (sE.r ?_));intro h;cases h
    ·refine bO.jD (iV (by omega) (by assumption)) ?_
     refine bO.ret (sE.l (sE.r ?_))
     intro _
     exact gE (k:=kd u (vC u r1.1.cB.cD)) rfl (hv (by simpa using e4))
  ·refine bO.ite (fun e1=>?_) (fun e1=>?_)
   ·refine bO.call aDJ (fun v hv=>?_)
    refine bO.ite (fun e4=>?_) (fun e4=>?_)
    ·refine bO.ret (sE.l (sE.r ?_));intro h;cases h
    ·refine bO.ret (sE.l (sE.r ?_))
     intro _
     exact (hv (by simpa using e4)).2.1
   ·refine bO.ite (fun e1=>?_) (fun e1=>?_)
    ·refine bO.call aDJ (fun v hv=>?_)
     refine bO.bR (bO.ite (fun e4=>?_) (fun e4=>?_))
     ·refine bO.ret (sE.l (sE.r ?_));intro h;cases h
     ·simp only[aL,not_or,aB,Int.ofNat_eq_natCast] at e4
      refine bO.bY (bW (by omega)) ?_
      refine bO.b7 (bO.ret (sE.l (sE.r ?_)))
      intro _
      exact lV (c6 (by omega))
    ·refine bO.ret (sE.r ?_)
     trivial
 ·refine bO.ret (sE.l ?_);intro h;cases h
theorem cM.szq (e:cM):e.sz=1+cM.gZ e.fP:=by cases e;rw[cM.sz]
theorem nX:∀ {l:List cM} {x:cM},x∈l→x.sz≤cM.gZ l
 | y::r,x,h=>by
   rw[cM.gZ]
   rcases aY.1 h with rfl | h
   ·omega
   ·have:=nX h;omega
theorem aLp:∀ (l:List cM) (a b:Nat),cM.gZ ((l.drop a).take b)≤cM.gZ l:=by
 intro l a b
 have h1:=mR (l.take a) (l.drop a)
 rw[List.take_append_drop] at h1
 have h2:=mR ((l.drop a).take b) ((l.drop a).drop b)
 rw[List.take_append_drop] at h2
 omega
theorem T0 {p:Prop} (h:p:=by (repeat' (first | with_reducible refine bO.bR ?_ | with_reducible refine bO.bT ?_ | with_reducible refine bO.bQ ?_ | with_reducible refine bO.cT ?_ | with_reducible refine bO.ite (fun _=>?_) (fun _=>?_) | with_reducible refine bO.b7 ?_ | with_reducible refine bO.bY rfl ?_ | with_reducible refine bO.ret ?_ | with_reducible refine sE.l ?_ | with_reducible refine sE.r ?_ | with_reducible refine bO.jD (iV (by omega) (by assumption)) ?_ | with_reducible refine bO.jD iU ?_)) <;> first | trivial | (intro h;cases h;done)):p:=h
theorem ex7:∀ k:Nat,(∀ (u:cK) (w:dS) (e:cM),Sm u→e.sz≤7000→3 * e.sz+40000000<k→cQ (aFL k u w e) (fun _=>True)) ∧
 (∀ (u:cK) (w:dS) (l:List cM),Sm u→cM.gZ l≤7000→3 * cM.gZ l+40000002<k→cQ (aEe k u w l) (fun v=>v.2=0→v.1.length=l.length)) ∧
 (∀ (u:cK) (w:dS) (e:cM),Sm u→e.sz≤7000→3 * e.sz+40000001<k→cQ (aBf k u w e) (fun _=>True)) ∧
 (∀ (u:cK) (w:dS) (e:cM) (x:eZ),Sm u→e.sz≤7000→3 * e.sz+40000000<k→(e.bU=6→1≤e.fP.length)→cQ (aI3 k u w e x) (fun _=>True))
 | 0=>⟨fun _ _ _ _ _ h=>by omega,fun _ _ _ _ _ h=>by omega,fun _ _ _ _ _ h=>by omega,fun _ _ _ _ _ _ h=>by omega⟩
 | k+1=>by
   obtain ⟨ih1,ih2,ih3,ih4⟩:=ex7 k
   refine ⟨fun u w e h hz hk=>?_,fun u w l h hz hk=>?_,fun u w e h hz hk=>?_,fun u w e x h hz hk hx=>?_⟩
   ·refine cQ.of ?_
    rw[aFL]
    have hs:=e.szq
    refine bO.call (aH3 (by omega) h) (fun r1 hr1=>?_)
    refine bO.ite (fun e1=>?_) (fun e1=>?_)
    ·exact T0
    refine bO.jD (qX (by omega) (by assumption)) ?_
    refine bO.ite (fun e2=>?_) (fun e2=>?_)
    ·exact T0
    have hw:=(wJ (u:=u) (d:=r1.1) (s:=e.yL) (by simpa using e2)).1
    refine bO.call (rU hw) ?_
    rintro _ rfl
    refine bO.ite (fun e3=>?_) (fun e3=>?_)
    ·exact T0
    refine bO.call (ih2 u w e.fP h (by omega) (by omega)) (fun r4 hr4=>?_)
    refine bO.ite (fun e4=>?_) (fun e4=>bO.bR (bO.ite (fun e5=>?_) (fun e5=>?_)))
    ·exact T0
    ·exact T0
    have hl:=mQ e.fP
    have h4:=hr4 (by simpa using e4)
    have h5:r4.1.length=(sX u (l9 u r1.1 e.yL).1).cG.length:=by
     simp only[bne_iff_ne,ne_eq,Decidable.not_not,Int.ofNat_eq_natCast] at e5;omega
    refine bO.eC (bO.bQ (bO.cT ?_)) (fun _=>by exact T0)
    refine bO.loop (fun t:Int=>0≤t∧t≤r4.1.length) (fun t=>(r4.1.length - t).toNat) ⟨by simp,by simp⟩ (by simp;omega) (fun t ⟨h1,h2⟩=>?_)
    simp (disch:=omega) only[wr,Int.ofNat_eq_natCast]
    refine bO.bR (bO.ite (fun e6=>?_) (fun e6=>?_))
    ·simp only[aB] at e6
     refine bO.eC (bO.bQ (bO.bY (bW (by omega)) (bO.bY (bW (by omega)) (bO.b7 ?_)))) (fun _=>?_)
     ·refine bO.cH (by decide) (aDv (by omega) h) (fun _ _=>?_)
      exact T0
     ·refine bO.ret (sE.r ?_)
      exact ⟨⟨by omega,by omega⟩,by omega⟩
    ·exact T0
   ·refine cQ.of ?_
    rw[aEe]
    have hl:=mQ l
    refine bO.b5 (fun o=>o.length=l.length) (bO.bQ (bO.cT ?_)) ?_
    ·refine bO.loop (fun t:List fS × Int=>0≤t.2∧t.2≤l.length∧(t.1.length:Int)=t.2) (fun t=>(l.length - t.2).toNat) ⟨by simp,by simp,by simp⟩ (by simp;omega) ?_
     rintro ⟨o,t⟩ ⟨g1,g2,g3⟩
     dsimp only at g1 g2 g3 ⊢
     simp (disch:=omega) only[wr,Int.ofNat_eq_natCast]
     refine bO.bR (bO.ite (fun e6=>?_) (fun e6=>?_))
     ·simp only[aB] at e6
      have hm:=nX (c6 (d:=default) (show t.toNat<l.length by omega))
      refine bO.b5 (fun o2=>(o2.length:Int)=t+1) (bO.bQ (bO.bY (bW (by omega)) (bO.b7 ?_))) ?_
      ·refine bO.call (ih3 u w _ h (by omega) (by omega)) (fun r _=>?_)
       refine bO.ite (fun e7=>?_) (fun e7=>?_)
       ·refine bO.ret (sE.l (sE.r (sE.r ?_)))
        intro h
        exact absurd h (by simpa using e7)
       ·refine bO.bY (cS ?_) (bO.b7 ?_)
        ·show (o.length+1) * 40≤_
         omega
        ·refine bO.ret (sE.r ?_)
         show ((o++[r.1]).length:Int)=t+1
         rw[aG,List.length_singleton];omega
      ·intro o2 h2
       refine bO.ret (sE.r ?_)
       exact ⟨⟨by dsimp only;omega,by dsimp only;omega,h2⟩,by dsimp only;omega⟩
     ·simp only[aB] at e6
      refine bO.ret (sE.l (sE.l ?_))
      show o.length=l.length
      omega
    ·intro o ho
     refine bO.ret (sE.l ?_)
     exact fun _=>ho
   ·refine cQ.of ?_
    rw[aBf]
    have hs:=e.szq
    refine bO.call zI (fun _ _=>?_)
    refine bO.ite (fun e1=>?_) (fun e1=>?_)
    ·exact T0
    refine bO.ite (fun e2=>?_) (fun e2=>?_)
    ·refine bO.call (ih1 u w e h (by omega) (by omega)) (fun _ _=>?_)
     exact T0
    refine bO.call aR1 ?_
    rintro _ rfl
    refine bO.bR (bO.ite (fun e3=>?_) (fun e3=>?_))
    ·exact T0
    simp only[aL,not_or,aB,bne_iff_ne,ne_eq,Decidable.not_not,Int.ofNat_eq_natCast,Int.not_lt] at e3
    refine bO.call (aDx (by omega) h) (fun r6 _=>?_)
    refine bO.eC (bO.bQ ?_) (fun _=>?_)
    ·have a6r:cQ (aI3 k u w e r6.1) (fun _=>True):=ih4 u w e r6.1 h (by omega) (by omega) (fun e6=>by
      have:ar e.bU=1:=by rw[e6];decide
      omega)
     have a6s:cQ (aI0 k u e.cD) (fun v=>v=true→kd u (vC u e.cD)≠0):=aIb (by omega) h
     refine bO.ite (fun _=>bO.ret (sE.l (sE.r ?_))) (fun _=>bO.bT (bO.ite (fun _=>bO.ret (sE.r (bO.ite (fun _=>bO.ret (sE.l (sE.r ?_))) (fun _=>bO.ite (fun _=>bO.ret (sE.l (sE.r ?_))) (fun _=>bO.bT (bO.ite (fun _=>bO.ret (sE.r (bO.ite (fun _=>bO.ite (fun _=>bO.ret (sE.l (sE.r ?_))) (fun _=>?_)) (fun _=>bO.ite (fun _=>?_) (fun _=>bO.ret (sE.r ?_)))))) (fun _=>bO.ite (fun _=>bO.ret (sE.r (bO.ite (fun _=>bO.ite (fun _=>bO.ret (sE.l (sE.r ?_))) (fun _=>?_)) (fun _=>bO.ite (fun _=>?_) (fun _=>bO.ret (sE.r ?_)))))) (fun _=>bO.ite (fun _=>bO.ret (sE.r (bO.ite (fun _=>bO.ite (fun _=>bO.ret (sE.l (sE.r ?_))) (fun _=>?_)) (fun _=>bO.ite (fun _=>?_) (fun _=>bO.ret (sE.r ?_)))))) (fun _=>bO.ite (fun _=>bO.ret (sE.r (bO.ite (fun _=>bO.ite (fun _=>bO.ret (sE.l (sE.r ?_))) (fun _=>?_)) (fun _=>bO.ite (fun _=>?_) (fun _=>bO.ret (sE.r ?_)))))) (fun _=>bO.ret (sE.r (bO.ite (fun _=>bO.ite (fun _=>bO.ret (sE.l (sE.r ?_))) (fun _=>?_)) (fun _=>bO.ite (fun _=>?_) (fun _=>bO.ret (sE.r ?_))))))))))))))) (fun _=>bO.ret (sE.r (bO.ite (fun _=>bO.ret (sE.l (sE.r ?_))) (fun _=>bO.ite (fun _=>bO.ret (sE.l (sE.r ?_))) (fun _=>bO.bT (bO.ite (fun _=>bO.ret (sE.r (bO.ite (fun _=>bO.ite (fun _=>bO.ret (sE.l (sE.r ?_))) (fun _=>?_)) (fun _=>bO.ite (fun _=>?_) (fun _=>bO.ret (sE.r ?_)))))) (fun _=>bO.ite (fun _=>bO.ret (sE.r (bO.ite (fun _=>bO.ite (fun _=>bO.ret (sE.l (sE.r ?_))) (fun _=>?_)) (fun _=>bO.ite (fun _=>?_) (fun _=>bO.ret (sE.r ?_)))))) (fun _=>bO.ite (fun _=>bO.ret (sE.r (bO.ite (fun _=>bO.ite (fun _=>bO.ret (sE.l (sE.r ?_))) (fun _=>?_)) (fun _=>bO.ite (fun _=>?_) (fun _=>bO.ret (sE.r ?_)))))) (fun _=>bO.ite (fun _=>bO.ret (sE.r (bO.ite (fun _=>bO.ite (fun _=>bO.ret (sE.l (sE.r ?_))) (fun _=>?_)) (fun _=>bO.ite (fun _=>?_) (fun _=>bO.ret (sE.r ?_)))))) (fun _=>bO.ret (sE.r (bO.ite (fun _=>bO.ite (fun _=>bO.ret (sE.l (sE.r ?_))) (fun _=>?_)) (fun _=>bO.ite (fun _=>?_) (fun _=>bO.ret (sE.r ?_)))))))))))))))))
     all_goals first
      | trivial
      | (refine bO.call a6r (fun _ _=>?_);exact T0)
      | (refine bO.call a6s (fun _ _=>?_);exact T0)
    refine bO.bY ?_ (bO.b7 ?_)
    ·simp only[c5,aC,aB];omega
    have hsub:=aLp e.fP (0:Int).toNat ((ar e.bU).toNat - (0:Int).toNat)
    refine bO.call (ih2 u w _ h (by omega) (by omega)) (fun mI hr=>?_)
    refine bO.ite (fun e4=>?_) (fun e4=>?_)
    ·exact T0
    have hr':=hr (by simpa using e4)
    have hl:(mI.1.length:Int)=ar e.bU:=by
     rw[hr',aK,bM];omega
    have k7:e.bU=7→(mI.1.length:Int)=1:=fun q=>by rw[hl,q];decide
    have k8:e.bU=8→(mI.1.length:Int)=1:=fun q=>by rw[hl,q];decide
    have k9:e.bU=9→(mI.1.length:Int)=2:=fun q=>by rw[hl,q];decide
    have k14:e.bU=14→(mI.1.length:Int)=1:=fun q=>by rw[hl,q];decide
    refine bO.eC (bO.bQ ?_) (fun _=>by exact T0)
    refine bO.bY ?_ (bO.bY ?_ (bO.b7 (bO.bR (bO.ite (fun e5=>?_) (fun e5=>?_)))))
    ·by_cases q:e.bU=7
     ·rw[bW (by have:=k7 q;omega)];simp
     ·rw[beq_eq_false_iff_ne.2 q];rfl
    ·by_cases q:e.bU=8
     ·rw[bW (by have:=k8 q;omega)];simp
     ·rw[beq_eq_false_iff_ne.2 q];rfl
    ·simp only[aL,aC,beq_iff_eq] at e5
     refine bO.bY (bW ?_) (by exact T0)
     rcases e5 with q | q
     ·have:=k7 q.1;omega
     ·have:=k8 q.1;omega
    ·refine bO.ite (fun e6=>?_) (fun e6=>?_)
     ·have:=k9 (beq_iff_eq.1 e6)
      refine bO.bY (bW (by omega)) (bO.bY (bW (by omega)) (bO.b7 ?_))
      refine bO.call aR2 (fun _ _=>?_)
      exact T0
     ·refine bO.bY ?_ (by exact T0)
      by_cases q:e.bU=14
      ·rw[bW (by have:=k14 q;omega)];simp
      ·rw[beq_eq_false_iff_ne.2 q];rfl
   ·refine cQ.of ?_
    rw[aI3]
    have hs:=e.szq
    refine bO.eC (bO.bQ ?_) (fun _=>by exact T0)
    refine bO.ite (fun e1=>?_) (fun e1=>?_)
    ·exact T0
    refine bO.ite (fun e1=>?_) (fun e1=>?_)
    ·have h1:=hx (beq_iff_eq.1 e1)
     refine bO.ite (fun e2=>?_) (fun e2=>?_)
     ·exact T0
     ·have hm:=nX (c6 (d:=default) (show (0:Int).toNat<e.fP.length by simp;omega))
      refine bO.bY (bW (by omega)) (bO.b7 ?_)
      refine bO.call (ih3 u w _ h (by omega) (by omega)) (fun _ _=>?_)
      exact T0
    ·exact T0
theorem aDu {K:Nat} {u:cK} {w:dS} {e:cM} (hK:40100000<K) (he:e.sz≤6004) (h:Sm u):cQ (aBf K u w e) (fun _=>True):=(ex7 K).2.2.1 u w e h (by omega) (by omega)
theorem aRt {K:Nat} {u:cK} {w:dS} {l:List cM} (hK:40100000<K) (he:cM.gZ l≤6004) (h:Sm u):cQ (aEe K u w l) (fun v=>v.2=0→v.1.length=l.length):=(ex7 K).2.1 u w l h (by omega) (by omega)
theorem aRs {K:Nat} {u:cK} {w:dS} {e:cM} (hK:40100000<K) (he:e.sz≤6004) (h:Sm u):cQ (aFL K u w e) (fun _=>True):=(ex7 K).1 u w e h (by omega) (by omega)
end Go.Proofs.YtdbfbedholdjaaaGreat
