/- No conditions. -/
import Derived.Test.YtdbfbedholdjaaaGreatPUA
import Derived.Test.YtdbfbedholdjaaaGreatPLA
import Derived.Test.YtdbfbedholdjaaaGreatPLd
set_option linter.unusedVariables false
set_option linter.unusedSimpArgs false
set_option linter.unusedSectionVars false
namespace Go.Proofs.YtdbfbedholdjaaaGreat
open Go Go.Dl
variable [dW]
set_option maxRecDepth 100000
set_option maxHeartbeats 8000000
theorem bI.jV {α R:Type} {m:Option (R ⊕ R)} {f:R→Option α} {Q:α→Prop} {z:R} (h:dA m (fun v=>v=z)) (hf:bI (f z) Q):bI ((bT m).bind f) Q:=bI.call h fun _ e=>e ▸ hf
theorem bI.aJF {α R:Type} {b:Bool} {d:R} {m:Option (R ⊕ R)} {f:R→Option α} {Q:α→Prop} {z:R} (hb:b=true) (h:dA m (fun v=>v=z)) (hf:bI (f z) Q):bI ((cH b (bT m) d).bind f) Q:=bI.cX hb h fun _ e=>e ▸ hf
theorem bR {i:Int} {n:Nat} (h:0≤i∧i<n):cS i n=true:=by simp only[cS,aC,aB];omega
structure Sm (u:cZ):Prop where
 b:dsz u.bK≤6004
theorem aLA:∀ {l:List jG} {d:jG},d∈l→d.sz≤dsz l
 | x::r,d,h=>by
   rw[dsz]
   rcases aZ.1 h with rfl | h
   ·omega
   ·have:=aLA h;omega
theorem aLB:∀ {l:List hU} {d:hU},d∈l→d.sz≤zM l
 | x::r,d,h=>by
   rw[zM]
   rcases aZ.1 h with rfl | h
   ·omega
   ·have:=aLB h;omega
abbrev dc (u:cZ) (d:Int):jG:=u.bK.getD d.toNat default
theorem dQ {α:Type} {l:List α} {i:Nat} {d:α} (h:i<l.length):l.getD i d∈l:=by
 rw[List.getD,aD h];exact List.getElem_mem h
theorem aEo {α:Type} {l:List α} {i:Nat} {d:α} (h:¬ i<l.length):l.getD i d=d:=by
 rw[List.getD,aW (by omega)];rfl
theorem Sm.len {u:cZ} (h:Sm u):u.bK.length≤6004:=aV (aLv _) h.b
theorem Sm.sz {u:cZ} (h:Sm u) (d:Int):(dc u d).sz≤6004:=by
 by_cases hd:d.toNat<u.bK.length
 ·exact aV (aLA (dQ hd)) h.b
 ·rw[dc,aEo hd];decide
theorem Sm.vars {u:cZ} (h:Sm u) (d:Int):(dc u d).cU.length≤6004:=by have:=h.sz d;unfold jG.sz at this;omega
theorem Sm.vA {u:cZ} (h:Sm u) (d:Int):(dc u d).eB.length≤6004:=by have:=h.sz d;unfold jG.sz at this;omega
theorem Sm.zM {u:cZ} (h:Sm u) (d:Int):zM (dc u d).bM≤6004:=by have:=h.sz d;unfold jG.sz at this;omega
theorem Sm.aB6 {u:cZ} (h:Sm u) (d:Int):(dc u d).bM.length≤6004:=aV (aLu _) (h.zM d)
theorem Sm.body {u:cZ} (h:Sm u) (d:Int):cJ.jC (dc u d).uW≤6004:=by have:=h.sz d;unfold jG.sz at this;omega
theorem Sm.m {u:cZ} (h:Sm u) (d:Int) (m:Nat):((dc u d).bM.getD m default).sz≤6004:=by
 by_cases hm:m<(dc u d).bM.length
 ·exact aV (aLB (dQ hm)) (h.zM d)
 ·rw[aEo hm];decide
theorem hU.bounds {m:hU} (h:m.sz≤6004):m.cV.length≤6004∧m.cU.length≤6004∧cJ.jC m.uW≤6004:=by
 unfold hU.sz at h;exact ⟨by omega,by omega,by omega⟩
def ix {α:Type} (p:α→Bool) (l:List α):Int:=if l.findIdx p<l.length then (l.findIdx p:Int) else -1
theorem aH0 {α:Type} {p:α→Bool} {l:List α} {z:α} {t:Nat} (h:t<l.length) (hb:∀ j,j<t→p (l.getD j z)=false) (hp:p (l.getD t z)=true):ix p l=t:=by
 have e:l.findIdx p=t:=by
  rw[List.getD,aD h] at hp
  refine (List.findIdx_eq h).2 ⟨hp,fun j hj=>?_⟩
  have:=hb j hj
  rw[List.getD,aD (by omega)] at this
  exact this
 unfold ix;rw[e,aH h]
theorem aH1 {α:Type} {p:α→Bool} {l:List α} {z:α} (hb:∀ j,j<l.length→p (l.getD j z)=false):ix p l = -1:=by
 unfold ix
 rw[aG]
 intro h
 have h1:=hb _ h
 rw[List.getD,aD h] at h1
 have:=List.findIdx_getElem (w:=h)
 rw[Option.getD_some] at h1
 rw[h1] at this;cases this
theorem aYL {α:Type} (p:α→Bool) (l:List α) : -1≤ix p l∧ix p l<l.length:=by
 unfold ix;split <;> omega
theorem aQi {α:Type} {p:α→Bool} {l:List α} (z:α) (h:0≤ix p l):(ix p l).toNat<l.length∧p (l.getD (ix p l).toNat z)=true:=by
 unfold ix at h ⊢
 split at h
 ·rename_i hl
  rw[aH hl]
  rw[Int.toNat_natCast]
  refine ⟨hl,?_⟩
  rw[List.getD,aD hl]
  exact List.findIdx_getElem (w:=hl)
 ·omega
theorem aEi {α:Type} {p:α→Bool} {l:List α} {x:α} (h:x∈l) (hp:p x=true):0≤ix p l:=by
 unfold ix
 rw[aH (List.findIdx_lt_length_of_exists ⟨x,h,hp⟩)];omega
def fnd (u:cZ) (s:Bytes):Int:=ix (fun d:jG=>d.cC == s) u.bK
def kd (u:cZ) (d:Int):Int:=if d<0∨d ≥ u.bK.length then 0 else (dc u d).bP
theorem gT {u:cZ} {d k:Int} (h:kd u d=k) (hk:k≠0):0≤d∧d<u.bK.length:=by
 unfold kd at h
 split at h
 ·omega
 ·omega
theorem lR {K:Nat} {u:cZ} {s:Bytes} (hK:100000<K) (h:Sm u):dA (F61 K u s) (fun v=>v=fnd u s):=by
 have hl:=h.len
 refine dA.of ?_
 unfold F61
 refine bI.bL (bI.bJ (bI.dK ?_))
 refine bI.loop (fun t:Int=>0≤t∧t≤u.bK.length∧∀ j:Nat,(j:Int)<t→((u.bK.getD j default).cC == s)=false) (fun t=>(u.bK.length - t).toNat) ⟨by simp,by simp,fun j hj=>by omega⟩ (by simp;omega) (fun t ⟨h1,h2,h3⟩=>?_)
 obtain ⟨n,rfl⟩:=aJ h1
 simp (disch:=omega) only[wr,Int.ofNat_eq_natCast]
 refine bI.bN (bI.ite (fun _=>bI.bL (bI.bJ (bI.bW (bR (by simp only[aB,Int.ofNat_eq_natCast] at *;omega)) (bI.cD (bI.bN (bI.ite (fun _=>bI.ret (sE.l (sE.r (sE.r ?_)))) (fun _=>bI.ret (sE.r (bI.ret (sE.r ?_)))))))))) (fun _=>bI.ret (sE.l (sE.l (bI.ret (sE.l ?_))))))
 ·rename_i e2 e
  simp only[aB] at e2
  exact (aH0 (z:=default) (by omega) (fun j hj=>h3 j (by omega)) e).symm
 ·rename_i e2 e
  rw[Int.toNat_natCast] at e
  simp only[aB] at e2
  refine ⟨⟨by omega,by omega,fun j hj=>?_⟩,by omega⟩
  by_cases hjn:j=n
  ·subst hjn;simpa using e
  ·exact h3 j (by omega)
 ·rename_i e
  simp only[aB] at e
  exact (aH1 (z:=default) fun j hj=>h3 j (by omega)).symm
theorem lS {K:Nat} {u:cZ} {d:Int}:dA (F68 K u d) (fun v=>v=kd u d):=by
 refine dA.of ?_
 unfold F68 kd
 refine bI.bN (bI.ite (fun _=>bI.ret (sE.l ?_)) (fun _=>bI.bW (by simp only[aB,aC,aM,Int.ofNat_eq_natCast,cS,room,cW,Int.toNat_natCast] at *;omega) (bI.cD (bI.bN (bI.ret (sE.l ?_))))))
 ·rename_i e
  simp only[aM,aB,Int.ofNat_eq_natCast] at e
  rw[aH e]
 ·rename_i e
  simp only[aM,aB,Int.ofNat_eq_natCast] at e
  rw[aG e]
theorem aAU {K:Nat} {l:List Int} {x:Int} (hK:100000<K) (h:l.length≤20000):dA (aG0 K l x) (fun v=>v=l.contains x):=by
 refine dA.of ?_
 unfold aG0
 refine bI.bL (bI.bJ (bI.dK ?_))
 refine bI.loop (fun t:Int=>0≤t∧t≤l.length∧∀ j:Nat,(j:Int)<t→l.getD j default≠x) (fun t=>(l.length - t).toNat) ⟨by simp,by simp,fun j hj=>by omega⟩ (by simp;omega) (fun t ⟨h1,h2,h3⟩=>?_)
 obtain ⟨n,rfl⟩:=aJ h1
 simp (disch:=omega) only[wr,Int.ofNat_eq_natCast]
 refine bI.bN (bI.ite (fun _=>bI.bL (bI.bJ (bI.bW (bR (by simp only[aB,Int.ofNat_eq_natCast] at *;omega)) (bI.cD (bI.bN (bI.ite (fun _=>bI.ret (sE.l (sE.r (sE.r ?_)))) (fun _=>bI.ret (sE.r (bI.ret (sE.r ?_)))))))))) (fun _=>bI.ret (sE.l (sE.l (bI.ret (sE.l ?_))))))
 ·rename_i e2 e
  rw[Int.toNat_natCast] at e
  simp only[aB] at e2
  simp only[beq_iff_eq] at e
  exact (List.contains_iff_mem.2 (e ▸ dQ (by omega))).symm
 ·rename_i e2 e
  rw[Int.toNat_natCast] at e
  simp only[aB] at e2
  simp only[beq_iff_eq] at e
  refine ⟨⟨by omega,by omega,fun j hj=>?_⟩,by omega⟩
  by_cases hjn:j=n
  ·subst hjn;exact e
  ·exact h3 j (by omega)
 ·rename_i e
  simp only[aB] at e
  symm
  rw[← Bool.not_eq_true]
  intro hc
  obtain ⟨i,hi,rfl⟩:=List.getElem_of_mem (List.contains_iff_mem.1 hc)
  refine h3 i (by omega) ?_
  rw[List.getD,aD hi];rfl
def own (d:jG) (s:Bytes):Int:=ix (fun m:hU=>m.cC == s) d.bM
theorem aQj {K:Nat} {d:jG} {s:Bytes} (hK:100000<K) (h:d.bM.length≤6004):dA (aNP K d s) (fun v=>v=own d s):=by
 refine dA.of ?_
 unfold aNP
 refine bI.bL (bI.bJ (bI.dK ?_))
 refine bI.loop (fun t:Int=>0≤t∧t≤d.bM.length∧∀ j:Nat,(j:Int)<t→((d.bM.getD j default).cC == s)=false) (fun t=>(d.bM.length - t).toNat) ⟨by simp,by simp,fun j hj=>by omega⟩ (by simp;omega) (fun t ⟨h1,h2,h3⟩=>?_)
 obtain ⟨n,rfl⟩:=aJ h1
 simp (disch:=omega) only[wr,Int.ofNat_eq_natCast]
 refine bI.bN (bI.ite (fun _=>bI.bL (bI.bJ (bI.bW (bR (by simp only[aB,Int.ofNat_eq_natCast] at *;omega)) (bI.cD (bI.bN (bI.ite (fun _=>bI.ret (sE.l (sE.r (sE.r ?_)))) (fun _=>bI.ret (sE.r (bI.ret (sE.r ?_)))))))))) (fun _=>bI.ret (sE.l (sE.l (bI.ret (sE.l ?_))))))
 ·rename_i e2 e
  simp only[aB] at e2
  exact (aH0 (z:=default) (by omega) (fun j hj=>h3 j (by omega)) e).symm
 ·rename_i e2 e
  rw[Int.toNat_natCast] at e
  simp only[aB] at e2
  refine ⟨⟨by omega,by omega,fun j hj=>?_⟩,by omega⟩
  by_cases hjn:j=n
  ·subst hjn;simpa using e
  ·exact h3 j (by omega)
 ·rename_i e
  simp only[aB] at e
  exact (aH1 (z:=default) fun j hj=>h3 j (by omega)).symm
def unv:Nat→List Int→Nat
 | 0,_=>0
 | n+1,out=>unv n out+if out.contains (n:Int) then 0 else 1
theorem aLC:∀ (n:Nat) (out:List Int) (d:Int),(n:Int)≤d→unv n (out++[d])=unv n out
 | 0,_,_,_=>rfl
 | n+1,out,d,h=>by
   rw[unv,unv,aLC n out d (by omega)]
   have:(out++[d]).contains (n:Int)=out.contains (n:Int):=by
    rw[Bool.eq_iff_iff];simp <;> omega
   rw[this]
theorem w6:∀ (n:Nat) (out:List Int) (d:Int),0≤d→d<n→out.contains d=false→unv n (out++[d])+1=unv n out
 | 0,_,d,h0,h,_=>by omega
 | n+1,out,d,h0,h,hc=>by
   rw[unv,unv]
   by_cases e:d=n
   ·subst e
    rw[aLC n out _ (by omega),aH (by simp),aG (by rw[hc];exact Bool.false_ne_true)]
   ·have:=w6 n out d h0 (by omega) hc
    have h2:(out++[d]).contains (n:Int)=out.contains (n:Int):=by
     rw[Bool.eq_iff_iff];simp <;> omega
    rw[h2];omega
theorem p8:∀ n,unv n []=n
 | 0=>rfl
 | n+1=>by rw[unv,p8 n];simp
def chF (u:cZ):Nat→List Int→Int→List Int
 | 0,out,_=>out
 | n+1,out,d=>if kd u d=2∧out.contains d=false then chF u n (out++[d]) (fnd u (dc u d).j6) else out
def chain (u:cZ) (d:Int):List Int:=chF u (u.bK.length+1) [] d
theorem aCT {u:cZ} (P:List Int→Prop) (hp:∀ out d,P out→kd u d=2→out.contains d=false→P (out++[d])):∀ (n:Nat) (out:List Int) (d:Int),P out→P (chF u n out d)
 | 0,_,_,h=>h
 | n+1,out,d,h=>by
   rw[chF]
   split
   ·rename_i e;exact aCT P hp n _ _ (hp _ _ h e.1 e.2)
   ·exact h
theorem aMR {u:cZ} {d x:Int} (h:x∈chain u d):kd u x=2 :=
 aCT (fun out=>∀ x∈out,kd u x=2) (fun out d h1 h2 _ x hx=>by
  rcases aY.1 hx with hx | hx
  ·exact h1 x hx
  ·rw[aO.1 hx];exact h2) _ [] d (fun x hx=>by cases hx) x h
theorem oM {u:cZ} {d x:Int} (h:x∈chain u d):0≤x∧x<u.bK.length:=gT (aMR h) (by decide)
theorem nZ (u:cZ) (d:Int):(chain u d).length≤u.bK.length:=by
 have h:=aCT (u:=u) (fun out=>out.length+unv u.bK.length out=u.bK.length) (fun out d h1 h2 h3=>by
  have hd:=gT h2 (by decide)
  have:=w6 u.bK.length out d hd.1 hd.2 h3
  rw[aE,List.length_singleton];omega) (u.bK.length+1) [] d (by rw[p8];simp)
 unfold chain;omega
theorem rD {K:Nat} {u:cZ} {d:Int} (hK:100000<K) (h:Sm u):dA (aDx K u d) (fun v=>v=chain u d):=by
 have hl:=h.len
 refine dA.of ?_
 unfold aDx
 refine bI.bL (bI.bJ (bI.dK ?_))
 refine bI.loop (fun t:Int × List Int=>t.2.length+unv u.bK.length t.2=u.bK.length∧∃ n,unv u.bK.length t.2<n∧chF u n t.2 t.1=chain u d) (fun t=>unv u.bK.length t.2) ⟨by rw[p8];simp,u.bK.length+1,by rw[p8];simp,rfl⟩ (by show unv _ []<K;rw[p8];omega) ?_
 rintro ⟨e,out⟩ ⟨h1,n,h2,h3⟩
 dsimp only at h1 h2 h3 ⊢
 obtain ⟨n,rfl⟩:∃ m,n=m+1:=⟨n - 1,by omega⟩
 rw[chF] at h3
 refine bI.jV (lS) ?_
 refine bI.cG (fun _=>aAU (by omega) (by omega)) (fun v hv=>?_)
 refine bI.ite (fun c=>?_) (fun c=>?_)
 ·simp only[aC,beq_iff_eq,aP] at c
  have hv':=hv (by simp [c.1])
  have hc:out.contains e=false:=by rw[← hv'];exact c.2
  rw[aH ⟨c.1,hc⟩] at h3
  have hd:=gT c.1 (by decide)
  have hu:=w6 u.bK.length out e hd.1 hd.2 hc
  refine bI.bL (bI.bJ ?_)
  refine bI.bW (by simp [room];omega) (bI.cD (bI.bW (by simp [cS];omega) (bI.cD (bI.bN ?_))))
  refine bI.cX (by decide) (lR (by omega) h) ?_
  rintro _ rfl
  refine bI.ret (sE.r (bI.ret (sE.r ?_)))
  exact ⟨⟨by simp;omega,n,by dsimp only;omega,h3⟩,by dsimp only;omega⟩
 ·have hc:¬ (kd u e=2∧out.contains e=false):=fun ⟨c1,c2⟩=>by
   have hv':=hv (by simp [c1])
   rw[c2] at hv'
   exact c (by simp [c1,hv'])
  rw[aG hc] at h3
  refine bI.ret (sE.l (sE.l (bI.ret (sE.l ?_))))
  exact h3
end Go.Proofs.YtdbfbedholdjaaaGreat

namespace Go.Proofs.YtdbfbedholdjaaaGreat
open Go Go.Dl
variable [dW]
set_option maxRecDepth 100000
set_option maxHeartbeats 8000000
theorem qH {α:Type} {l:List α} {n:Nat} (z:α) (h:n<l.length):l.drop n=l.getD n z::l.drop (n+1):=by
 rw[List.getD,aD h,Option.getD_some];exact List.drop_eq_getElem_cons h
def vH (u:cZ) (s:Bytes):List Int→dR × Bool
 | []=>(⟨0,0⟩,false)
 | c::r=>if 0≤own (dc u c) s then (⟨c,own (dc u c) s⟩,true) else vH u s r
def line (u:cZ) (d:Int):List Int:=if kd u d=1 then [d] else chain u d
def u7 (u:cZ) (d:Int) (s:Bytes):dR × Bool:=vH u s (line u d)
theorem aGl {u:cZ} {d x:Int} (h:x∈line u d):0≤x∧x<u.bK.length:=by
 unfold line at h
 split at h
 ·rename_i e;rw[aO.1 h];exact gT e (by decide)
 ·exact oM h
theorem aH3 {u:cZ} (h:Sm u) (d:Int):(line u d).length≤6005:=by
 unfold line
 split
 ·simp
 ·have:=nZ u d;have:=h.len;omega
theorem wZ {K:Nat} {u:cZ} {d:Int} {s:Bytes} (hK:100000<K) (h:Sm u):dA (aEN K u d s) (fun v=>v=u7 u d s):=by
 have hl:=h.len
 refine dA.of ?_
 unfold aEN
 refine bI.jV (rD (by omega) (by assumption)) ?_
 refine bI.jV (lS) ?_
 refine bI.cP (fun l=>l=line u d) ?_ ?_
 ·unfold line
  refine bI.ite (fun e=>?_) (fun e=>?_)
  ·refine bI.ret (sE.r ?_)
   rw[aH (by simpa using e)]
  ·refine bI.ret (sE.r ?_)
   rw[aG (by simpa using e)]
 rintro _ rfl
 have h2:=aH3 h d
 refine bI.bL (bI.bJ (bI.dK ?_))
 refine bI.loop (fun t:Int=>0≤t∧t≤(line u d).length∧vH u s ((line u d).drop t.toNat)=u7 u d s) (fun t=>((line u d).length - t).toNat) ⟨by simp,by simp,rfl⟩ (by simp;omega) (fun t ⟨g1,g2,g3⟩=>?_)
 obtain ⟨n,rfl⟩:=aJ g1
 rw[Int.toNat_natCast] at g3
 simp (disch:=omega) only[wr,Int.ofNat_eq_natCast]
 refine bI.bN (bI.ite (fun e=>?_) (fun e=>?_))
 ·simp only[aB] at e
  have hn:n<(line u d).length:=by omega
  rw[qH default hn,vH] at g3
  have hx:=aGl (dQ (d:=default) hn)
  refine bI.bL (bI.bJ ?_)
  rw[Int.toNat_natCast]
  refine bI.bW (bR (by omega)) (bI.cD (bI.bW (bR hx) (bI.cD ?_)))
  refine bI.cX (by decide) (aQj (by omega) (h.aB6 _)) ?_
  rintro _ rfl
  refine bI.ite (fun c=>?_) (fun c=>?_)
  ·simp only[aB] at c
   rw[aH c] at g3
   refine bI.bW (bR (by omega)) (bI.cD ?_)
   refine bI.ret (sE.l (sE.r (sE.r ?_)))
   exact g3
  ·simp only[aB] at c
   rw[aG c] at g3
   refine bI.ret (sE.r (bI.ret (sE.r ?_)))
   exact ⟨⟨by omega,by omega,by rw[show ((n:Int)+1).toNat=n+1 by omega];exact g3⟩,by omega⟩
 ·simp only[aB] at e
  rw[List.drop_eq_nil_of_le (by omega),vH] at g3
  refine bI.ret (sE.l (sE.l (bI.ret (sE.l ?_))))
  exact g3
def xZ (u:cZ) (out:List Int) (s:Bytes):List Int:=if kd u (fnd u s)=1∧out.contains (fnd u s)=false then out++[fnd u s] else out
def vA (u:cZ) (d:Int):List Int:=(chain u d).foldl (fun out c=>(dc u c).eB.foldl (xZ u) out) []
def Dis (u:cZ) (out:List Int):Prop:=out.length+unv u.bK.length out=u.bK.length
theorem Dis.nil (u:cZ):Dis u []:=by unfold Dis;rw[p8];simp
theorem aIc {u:cZ} {out:List Int} (s:Bytes) (h:Dis u out):Dis u (xZ u out s):=by
 unfold xZ
 split
 ·rename_i e
  have hd:=gT e.1 (by decide)
  have:=w6 u.bK.length out _ hd.1 hd.2 e.2
  unfold Dis at *
  rw[aE,List.length_singleton];omega
 ·exact h
theorem aFl {u:cZ}:∀ (l:List Bytes) {out:List Int},Dis u out→Dis u (l.foldl (xZ u) out)
 | [],_,h=>h
 | s::l,_,h=>aFl l (aIc s h)
theorem Dis.len {u:cZ} {out:List Int} (h:Dis u out):out.length≤u.bK.length:=by unfold Dis at h;omega
theorem aMS (u:cZ) (d:Int):Dis u (vA u d):=by
 have:∀ (l:List Int) (out:List Int),Dis u out→Dis u (l.foldl (fun out c=>(dc u c).eB.foldl (xZ u) out) out):=by
  intro l
  induction l with
  | nil=>exact fun _ h=>h
  | cons x l ih=>exact fun out h=>ih _ (aFl _ h)
 exact this _ _ (Dis.nil u)
theorem aFh (u:cZ) (d:Int):(vA u d).length≤u.bK.length:=(aMS u d).len
theorem aHV {K:Nat} {u:cZ} {d:Int} (hK:100000<K) (h:Sm u):dA (aL8 K u d) (fun v=>v=vA u d):=by
 have hl:=h.len
 refine dA.of ?_
 unfold aL8
 refine bI.jV (rD (by omega) (by assumption)) ?_
 have hc:=nZ u d
 refine bI.bL (bI.bJ (bI.dK ?_))
 refine bI.loop (fun t:List Int × Int=>0≤t.2∧t.2≤(chain u d).length∧Dis u t.1∧((chain u d).drop t.2.toNat).foldl (fun out c=>(dc u c).eB.foldl (xZ u) out) t.1=vA u d) (fun t=>((chain u d).length - t.2).toNat) ⟨by simp,by simp,Dis.nil u,rfl⟩ (by simp;omega) ?_
 rintro ⟨out,t⟩ ⟨g1,g2,g3,g4⟩
 dsimp only at g1 g2 g3 g4 ⊢
 obtain ⟨n,rfl⟩:=aJ g1
 rw[Int.toNat_natCast] at g4
 simp (disch:=omega) only[wr,Int.ofNat_eq_natCast]
 refine bI.bN (bI.ite (fun e=>?_) (fun e=>?_))
 ·simp only[aB] at e
  have hn:n<(chain u d).length:=by omega
  rw[qH default hn,List.foldl_cons] at g4
  have hx:=oM (dQ (d:=default) hn)
  have hfs:=h.vA ((chain u d).getD n default)
  rw[Int.toNat_natCast]
  refine bI.bL (bI.bJ (bI.bW (bR (by omega)) (bI.cD (bI.bW (bR hx) (bI.cD (bI.bN ?_))))))
  refine bI.cP (fun o=>Dis u o∧((chain u d).drop (n+1)).foldl (fun out c=>(dc u c).eB.foldl (xZ u) out) o=vA u d) ?_ ?_
  ·refine bI.bJ (bI.dK ?_)
   generalize hfl:(u.bK.getD ((chain u d).getD n default).toNat default).eB=fl at g4 hfs
   refine bI.loop (fun t:List Int × Int=>0≤t.2∧t.2≤fl.length∧Dis u t.1∧((chain u d).drop (n+1)).foldl (fun out c=>(dc u c).eB.foldl (xZ u) out) ((fl.drop t.2.toNat).foldl (xZ u) t.1)=vA u d) (fun t=>(fl.length - t.2).toNat) ⟨by simp,by simp,g3,g4⟩ (by simp;omega) ?_
   rintro ⟨o2,t2⟩ ⟨k1,k2,k3,k4⟩
   dsimp only at k1 k2 k3 k4 ⊢
   obtain ⟨m,rfl⟩:=aJ k1
   rw[Int.toNat_natCast] at k4
   have k5:=k3.len
   simp (disch:=omega) only[wr,Int.ofNat_eq_natCast]
   refine bI.bN (bI.ite (fun e=>?_) (fun e=>?_))
   ·simp only[aB] at e
    have hm:m<fl.length:=by omega
    rw[qH default hm,List.foldl_cons] at k4
    have k6:=aIc (fl.getD m default) k3
    have k7:=k6.len
    refine bI.bL (bI.bJ ?_)
    rw[Int.toNat_natCast]
    refine bI.bW (bR (by omega)) (bI.cD ?_)
    refine bI.aJF rfl (lR (by omega) (by assumption)) ?_
    refine bI.jV (lS) ?_
    refine bI.cG (fun _=>aAU (by omega) (by omega)) (fun v hv=>?_)
    refine bI.ite (fun c=>?_) (fun c=>?_)
    ·simp only[aC,beq_iff_eq,aP] at c
     have hv':=hv (beq_iff_eq.2 c.1)
     have he:xZ u o2 (fl.getD m default)=o2++[fnd u (fl.getD m default)]:=by
      unfold xZ;rw[aH ⟨c.1,by rw[← hv'];exact c.2⟩]
     rw[he] at k4 k6
     refine bI.bW (by simp [room];omega) (bI.cD ?_)
     refine bI.ret (sE.r (bI.ret (sE.r ?_)))
     exact ⟨⟨by dsimp only;omega,by dsimp only;omega,k6,by dsimp only;rw[show ((m:Int)+1).toNat=m+1 by omega];exact k4⟩,by dsimp only;omega⟩
    ·have he:xZ u o2 (fl.getD m default)=o2:=by
      unfold xZ
      rw[aG]
      rintro ⟨c1,c2⟩
      have hv':=hv (beq_iff_eq.2 c1)
      rw[c2] at hv'
      exact c (by rw[c1,hv'];rfl)
     rw[he] at k4
     refine bI.ret (sE.r (bI.ret (sE.r ?_)))
     exact ⟨⟨by dsimp only;omega,by dsimp only;omega,k3,by dsimp only;rw[show ((m:Int)+1).toNat=m+1 by omega];exact k4⟩,by dsimp only;omega⟩
   ·simp only[aB] at e
    rw[List.drop_eq_nil_of_le (by omega),List.foldl_nil] at k4
    refine bI.ret (sE.l (sE.l ?_))
    exact ⟨k3,k4⟩
  rintro o ⟨k1,k2⟩
  refine bI.ret (sE.r (bI.ret (sE.r ?_)))
  exact ⟨⟨by dsimp only;omega,by dsimp only;omega,k1,by dsimp only;rw[show ((n:Int)+1).toNat=n+1 by omega];exact k2⟩,by dsimp only;omega⟩
 ·simp only[aB] at e
  rw[List.drop_eq_nil_of_le (by omega),List.foldl_nil] at g4
  refine bI.ret (sE.l (sE.l (bI.ret (sE.l ?_))))
  exact g4
def varsOf (u:cZ) (l:List Int):List fE:=l.flatMap fun x=>(dc u x).cU
def s9 (u:cZ) (d:Int):List fE:=if kd u d=3 then (dc u d).cU else varsOf u (chain u d).reverse
theorem zJ {u:cZ} (h:Sm u):∀ l:List Int,(varsOf u l).length≤l.length * 6004
 | []=>by simp [varsOf]
 | x::l=>by
   have:=zJ h l
   have:=h.vars x
   unfold varsOf at *
   rw[List.flatMap_cons,aE,List.length_cons,Nat.succ_mul];omega
theorem aEk {u:cZ} (h:Sm u) (d:Int):(s9 u d).length≤36100000:=by
 unfold s9
 split
 ·have:=h.vars d;omega
 ·have:=zJ h (chain u d).reverse
  have h1:=nZ u d
  have h2:=h.len
  have h3:(chain u d).length * 6004≤6004 * 6004:=aR _ (by omega)
  rw[List.length_reverse] at this
  omega
theorem aLe {K:Nat} {u:cZ} {d:Int} (hK:100000<K) (h:Sm u):dA (F70 K u d) (fun v=>v=s9 u d):=by
 have hl:=h.len
 have hf:=aEk h d
 refine dA.of ?_
 unfold F70
 refine bI.jV (lS) ?_
 refine bI.ite (fun e=>?_) (fun e=>?_)
 ·have e:=beq_iff_eq.1 e
  have hd:=gT e (by decide)
  have hv:=h.vars d
  refine bI.bW (bR hd) (bI.cD (bI.bN (bI.bW (show room ((dc u d).cU.length * 80)=true by simp only[room,aB];omega) (bI.cD ?_))))
  refine bI.ret (sE.l ?_)
  unfold s9;rw[aH e]
 ·have e:kd u d≠3:=fun c=>e (beq_iff_eq.2 c)
  have hs:s9 u d=varsOf u (chain u d).reverse:=by unfold s9;rw[aG e]
  refine bI.jV (rD (by omega) (by assumption)) ?_
  have hc:=nZ u d
  refine bI.bN (bI.bL (bI.bJ (bI.dK ?_)))
  simp (disch:=omega) only[wr,Int.ofNat_eq_natCast]
  refine bI.loop (fun t:List fE × Int=>-1≤t.2∧t.2<(chain u d).length∧t.1=varsOf u ((chain u d).drop (t.2+1).toNat).reverse) (fun t=>(t.2+1).toNat) ⟨by dsimp only;omega,by dsimp only;omega,by dsimp only;rw[show ((chain u d).length - 1+1:Int).toNat=(chain u d).length by omega,List.drop_length];rfl⟩ (by dsimp only;omega) ?_
  rintro ⟨acc,t⟩ ⟨g1,g2,g3⟩
  dsimp only at g1 g2 g3 ⊢
  refine bI.ite (fun e=>?_) (fun e=>?_)
  ·simp only[aB] at e
   obtain ⟨n,rfl⟩:=aJ e
   rw[show ((n:Int)+1).toNat=n+1 by omega] at g3
   have hn:n<(chain u d).length:=by omega
   have hx:=oM (dQ (d:=default) hn)
   have hd:varsOf u ((chain u d).drop n).reverse=acc++(dc u ((chain u d).getD n default)).cU:=by
    rw[qH default hn,List.reverse_cons,g3];simp [varsOf]
   have h1:=zJ h ((chain u d).drop n).reverse
   rw[hd,aE,List.length_reverse,bH] at h1
   have h3:((chain u d).length - n) * 6004≤6004 * 6004:=aR _ (by omega)
   refine bI.bL (bI.bJ ?_)
   rw[Int.toNat_natCast]
   refine bI.bW (bR (by omega)) (bI.cD (bI.bW (bR hx) (bI.cD (bI.bN (bI.bW ?_ (bI.cD ?_))))))
   ·show room ((acc.length+(dc u ((chain u d).getD n default)).cU.length) * 80)=true
    simp only[room,aB];omega
   simp (disch:=omega) only[wr,Int.ofNat_eq_natCast]
   refine bI.ret (sE.r (bI.ret (sE.r ?_)))
   exact ⟨⟨by dsimp only;omega,by dsimp only;omega,by dsimp only;rw[show ((n:Int) - 1+1).toNat=n by omega];exact hd.symm⟩,by dsimp only;omega⟩
  ·simp only[aB] at e
   rw[show (t+1).toNat=0 by omega,List.drop_zero] at g3
   refine bI.ret (sE.l (sE.l (bI.ret (sE.l ?_))))
   rw[hs];exact g3
theorem aTG {a b:fL} (h:((a.bP == b.bP) && ((a.fLo == b.fLo) && ((a.fHi == b.fHi) && ((a.cC == b.cC) && true))))=true):a=b:=by
 simp only[aC,beq_iff_eq] at h
 obtain ⟨h1,h2,h3,h4,_⟩:=h
 cases a;cases b;simp_all
theorem aHU {K:Nat} {a b:hU} (hK:100000<K) (ha:a.cV.length≤6004):dA (aG1 K a b) (fun v=>v=true→a.cV.length=b.cV.length∧a.fG=b.fG∧∀ i:Nat,(i:Int)<a.cV.length→(a.cV.getD i default).cQ=(b.cV.getD i default).cQ):=by
 refine dA.of ?_
 unfold aG1
 refine bI.bN (bI.ite (fun e=>?_) (fun e=>?_))
 ·refine bI.ret (sE.l ?_)
  intro h;cases h
 ·have e:¬ (a.cV.length≠b.cV.length)∧a.fG=b.fG:=by
   simp only[aM,not_or,aP,Bool.not_eq_false,bne_iff_ne,ne_eq,Int.ofNat_eq_natCast,Int.natCast_inj] at e
   exact ⟨e.1,aTG e.2⟩
  have hl:a.cV.length=b.cV.length:=by omega
  refine bI.bL (bI.bJ (bI.dK ?_))
  refine bI.loop (fun t:Int=>0≤t∧t≤a.cV.length∧∀ i:Nat,(i:Int)<t→(a.cV.getD i default).cQ=(b.cV.getD i default).cQ) (fun t=>(a.cV.length - t).toNat) ⟨by simp,by simp,fun j hj=>by omega⟩ (by simp;omega) (fun t ⟨h1,h2,h3⟩=>?_)
  obtain ⟨n,rfl⟩:=aJ h1
  simp (disch:=omega) only[wr,Int.ofNat_eq_natCast]
  refine bI.bN (bI.ite (fun e1=>?_) (fun e1=>?_))
  ·simp only[aB] at e1
   refine bI.bL (bI.bJ (bI.bW (bR (by omega)) (bI.bW (bR (by omega)) (bI.cD (bI.bN (bI.ite (fun e2=>?_) (fun e2=>?_)))))))
   ·refine bI.ret (sE.l (sE.r (sE.r ?_)))
    intro h;cases h
   ·simp only[aP,Bool.not_eq_false] at e2
    have e2:=aTG e2
    rw[Int.toNat_natCast] at e2
    refine bI.ret (sE.r (bI.ret (sE.r ?_)))
    refine ⟨⟨by omega,by omega,fun j hj=>?_⟩,by omega⟩
    by_cases hjn:j=n
    ·subst hjn;exact e2
    ·exact h3 j (by omega)
  ·simp only[aB] at e1
   refine bI.ret (sE.l (sE.l (bI.ret (sE.l ?_))))
   exact fun _=>⟨hl,e.2,fun j hj=>h3 j (by omega)⟩
def mof (u:cZ) (w:dR):hU:=(dc u w.c8).bM.getD w.dD.toNat default
def Vw (u:cZ) (w:dR):Prop:=(0≤w.c8∧w.c8<u.bK.length)∧0≤w.dD∧w.dD<(dc u w.c8).bM.length
theorem aAP {K:Nat} {u:cZ} {w:dR} (h:Vw u w):dA (F63 K u w) (fun v=>v=mof u w):=by
 refine dA.of ?_
 unfold F63
 refine bI.bW (bR h.1) (bI.bW (bR h.2) (bI.cD ?_))
 refine bI.ret (sE.l ?_)
 rfl
theorem aLD {u:cZ} {s:Bytes}:∀ {l:List Int},(∀ x∈l,0≤x∧x<u.bK.length)→(vH u s l).2=true→Vw u (vH u s l).1∧(vH u s l).1.c8∈l∧(mof u (vH u s l).1).cC=s
 | c::r,hl,h=>by
   rw[vH] at h ⊢
   split at h
   ·rename_i e
    rw[aH e]
    obtain ⟨h1,h2⟩:=aQi (default:hU) e
    refine ⟨⟨hl c (List.mem_cons_self ..),e,(aYL _ _).2⟩,List.mem_cons_self ..,?_⟩
    exact eq_of_beq h2
   ·rename_i e
    rw[aG e]
    obtain ⟨h1,h2,h3⟩:=aLD (fun x hx=>hl x (aX _ hx)) h
    exact ⟨h1,aX _ h2,h3⟩
theorem aBr {u:cZ} {d:Int} {s:Bytes} (h:(u7 u d s).2=true):Vw u (u7 u d s).1∧(u7 u d s).1.c8∈line u d∧(mof u (u7 u d s).1).cC=s:=aLD (fun x hx=>aGl hx) h
theorem aAO {u:cZ} {s:Bytes}:∀ {l:List Int} {c:Int},c∈l→0≤own (dc u c) s→(vH u s l).2=true
 | x::l,c,h,h2=>by
   rw[vH]
   split
   ·rfl
   ·rename_i e
    rcases aZ.1 h with rfl | h
    ·exact absurd h2 e
    ·exact aAO h h2
end Go.Proofs.YtdbfbedholdjaaaGreat

namespace Go.Proofs.YtdbfbedholdjaaaGreat
open Go Go.Dl
variable [dW]
set_option maxRecDepth 100000
set_option maxHeartbeats 8000000
theorem aEs {K:Nat} {u:cZ} {w:dR}:dA (aIV K u w) (fun v=>v=true→kd u w.c8=2∧Vw u w):=by
 refine dA.of ?_
 unfold aIV
 refine bI.cX (by decide) lS ?_
 rintro _ rfl
 refine bI.bW ?_ (bI.cD (bI.bN ?_))
 ·by_cases e:kd u w.c8=2
  ·rw[bR (gT e (by decide))];simp
  ·rw[beq_eq_false_iff_ne.2 e];rfl
 ·refine bI.ret (sE.l ?_)
  intro h
  simp only[aC,beq_iff_eq,aB] at h
  exact ⟨h.1.1,gT h.1.1 (by decide),h.1.2,h.2⟩
def Plc (u:cZ) (w:dR):Prop:=(kd u w.c8=2∧Vw u w)∨(kd u w.c8=3∧w.dD = -1)
theorem aAM {K:Nat} {u:cZ} {w:dR}:dA (aG2 K u w) (fun v=>v=true→Plc u w):=by
 refine dA.of ?_
 unfold aG2
 refine bI.call aEs (fun v hv=>?_)
 refine bI.cG (fun _=>lS) (fun v2 hv2=>?_)
 refine bI.bN (bI.ret (sE.l ?_))
 intro h
 cases v with
 | true=>exact .inl (hv rfl)
 | false =>
   simp only[Bool.false_or,aC,beq_iff_eq] at h
   have:=hv2 (by rfl)
   exact .inr ⟨by rw[← this];exact h.1,h.2⟩
theorem Plc.in {u:cZ} {w:dR} (h:Plc u w):0≤w.c8∧w.c8<u.bK.length:=by
 rcases h with h | h
 ·exact gT h.1 (by decide)
 ·exact gT h.1 (by decide)
theorem dX {n:Nat} (h:n≤140737488355328):room n=true:=by simp only[room,aB];exact h
theorem aHW {K:Nat} {u:cZ} {w:dR} (hK:100000<K) (h:Sm u):dA (aL9 K u w) (fun v=>v.length≤36200000):=by
 refine dA.of ?_
 unfold aL9
 refine bI.call aAM (fun v hv=>?_)
 refine bI.ite (fun e=>?_) (fun e=>?_)
 ·refine bI.ret (sE.l ?_)
  simp
 ·have hp:=hv (by simpa using e)
  have hd:=hp.in
  have h1:=h.vars w.c8
  refine bI.ite (fun e2=>?_) (fun e2=>?_)
  ·refine bI.bW (bR hd) (bI.cD (bI.bN (bI.bW (dX ?_) (bI.cD ?_))))
   ·show (dc u w.c8).cU.length * 80≤_
    omega
   ·refine bI.ret (sE.l ?_)
    show (dc u w.c8).cU.length≤_
    omega
  ·simp only[aB] at e2
   have hw:Vw u w:=by
    rcases hp with hp | hp
    ·exact hp.2
    ·omega
   have hm:(mof u w).sz≤6004:=h.m w.c8 w.dD.toNat
   have hb:=hU.bounds hm
   have hf:=aEk h w.c8
   refine bI.bW (bR hd) (bI.bW (bR hw.2) (bI.cD (bI.bN (bI.bW (dX ?_) (bI.cD (bI.bN (bI.bW (dX ?_) (bI.cD ?_))))))))
   ·show (mof u w).cV.length * 80≤_
    omega
   ·show ((mof u w).cV.length+(mof u w).cU.length) * 80≤_
    omega
   ·refine bI.call (aLe (by omega) h) ?_
    rintro _ rfl
    refine bI.bW (dX ?_) (bI.cD ?_)
    ·show (((mof u w).cV++(mof u w).cU).length+(s9 u w.c8).length) * 80≤_
     rw[aE];omega
    ·refine bI.ret (sE.l ?_)
     show (((mof u w).cV++(mof u w).cU)++(s9 u w.c8)).length≤_
     rw[aE,aE];omega
theorem aEg {K:Nat} {u:cZ} {w:dR} {s:Bytes} (hK:40000000<K) (h:Sm u):dA (aIX K u w s) (fun _=>True):=by
 refine dA.of ?_
 unfold aIX
 refine bI.call (aHW (by omega) h) (fun l hl=>?_)
 refine bI.bL (bI.bJ (bI.dK ?_))
 refine bI.loop (fun t:Int=>0≤t∧t≤l.length) (fun t=>(l.length - t).toNat) ⟨by simp,by simp⟩ (by simp;omega) (fun t ⟨h1,h2⟩=>?_)
 simp (disch:=omega) only[wr,Int.ofNat_eq_natCast]
 refine bI.bN (bI.ite (fun _=>bI.bL (bI.bJ (bI.bW (bR (by simp only[aB,Int.ofNat_eq_natCast] at *;omega)) (bI.cD (bI.bN (bI.ite (fun _=>bI.bW (bR (by simp only[aB,Int.ofNat_eq_natCast] at *;omega)) (bI.cD (bI.ret (sE.l (sE.r (sE.r ?_)))))) (fun _=>bI.ret (sE.r (bI.ret (sE.r ?_)))))))))) (fun _=>bI.ret (sE.l (sE.l (bI.ret (sE.l ?_))))))
 all_goals (try (first | trivial | (intro h;cases h;done) | omega | (simp only[aB] at *;omega)))
theorem aId {K:Nat} {u:cZ} {s:Bytes} (hK:100000<K) (h:Sm u):dA (aIZ K u s) (fun v=>v=true→kd u (fnd u s)≠0):=by
 refine dA.of ?_
 unfold aIZ
 refine bI.cX (by decide) (lR (by omega) h) ?_
 rintro _ rfl
 refine bI.cX (by decide) lS ?_
 rintro _ rfl
 refine bI.ret (sE.l ?_)
 intro e
 simp only[aM,beq_iff_eq] at e
 omega
theorem aHZ {K:Nat} {u:cZ} {a b:Bytes} (hK:100000<K) (h:Sm u):dA (aMb K u a b) (fun _=>True):=by
 refine dA.of ?_
 unfold aMb
 refine bI.jV (lR (by omega) (by assumption)) ?_
 refine bI.jV (lS) ?_
 refine bI.ite (fun e=>?_) (fun e=>?_)
 ·refine bI.ret (sE.l ?_);trivial
 ·refine bI.jV (lR (by omega) (by assumption)) ?_
  have hc:=nZ u (fnd u a)
  have hl:=h.len
  refine bI.cG (fun _=>rD (by omega) h) (fun v1 hv1=>?_)
  refine bI.cG (fun e2=>aAU (by omega) (by rw[hv1 e2];omega)) (fun v2 hv2=>?_)
  refine bI.cG (fun _=>aHV (by omega) h) (fun v3 hv3=>?_)
  refine bI.cG (fun e2=>aAU (by omega) (by rw[hv3 e2];exact aV (aFh u _) (by omega))) (fun v4 hv4=>?_)
  refine bI.ret (sE.l ?_);trivial
theorem aEe {K:Nat} {u:cZ} {a b:fL} (hK:100000<K) (h:Sm u):dA (aFX K u a b) (fun _=>True):=by
 refine dA.of ?_
 unfold aFX
 refine bI.bL (bI.bJ (bI.bL (bI.ite (fun _=>bI.ret (sE.r (bI.ite (fun _=>bI.ret (sE.l (sE.r ?_))) (fun _=>bI.ite (fun _=>bI.ret (sE.l (sE.r ?_))) (fun _=>bI.ite (fun _=>?_) (fun _=>bI.ret (sE.r (bI.ret (sE.l ?_))))))))) (fun _=>bI.ret (sE.r (bI.ite (fun _=>bI.ret (sE.l (sE.r ?_))) (fun _=>bI.ite (fun _=>bI.ret (sE.l (sE.r ?_))) (fun _=>bI.ite (fun _=>?_) (fun _=>bI.ret (sE.r (bI.ret (sE.l ?_))))))))))))
 all_goals first
  | trivial
  | (refine bI.cG (fun _=>aHZ (by omega) h) (fun v1 hv1=>?_);refine bI.bN (bI.ret (sE.l (sE.r ?_)));trivial)
def ar (k:Int):Int:=if k<1∨k ≥ 15 then -1 else ([(-1),0,0,0,0,0,1,1,1,2,0,0,0,0,1]:List Int).getD k.toNat default
theorem aQk {K:Nat} {k:Int}:dA (aNV K k) (fun v=>v=ar k):=by
 refine dA.of ?_
 unfold aNV ar
 refine bI.bN (bI.ite (fun e=>?_) (fun e=>?_))
 ·simp only[List.length_cons,List.length_nil,aM,aB,ge_iff_le,Int.ofNat_eq_natCast] at e
  refine bI.ret (sE.l ?_)
  rw[aH (by omega)]
 ·simp only[List.length_cons,List.length_nil,aM,aB,not_or,ge_iff_le,Int.not_le,Int.not_lt,Int.ofNat_eq_natCast] at e
  refine bI.bW (bR (by simp only[List.length_cons,List.length_nil];omega)) ?_
  refine bI.cD (bI.bN (bI.ret (sE.l ?_)))
  rw[aG (by omega)]
theorem aQl {K:Nat} {o:Int} {a b:fL}:dA (aMa K o a b) (fun _=>True):=by
 refine dA.of ?_
 unfold aMa
 refine bI.bN (bI.bL (bI.bJ (bI.bN (bI.ite (fun _=>bI.ret (sE.l (sE.r ?_))) (fun _=>bI.bN (bI.ite (fun _=>bI.ret (sE.l (sE.r ?_))) (fun _=>bI.bN (bI.ite (fun _=>bI.ret (sE.l (sE.r ?_))) (fun _=>bI.bN (bI.ite (fun _=>bI.ret (sE.l (sE.r ?_))) (fun _=>bI.ret (sE.r (bI.ret (sE.l ?_))))))))))))))
 all_goals trivial
theorem aHY {K:Nat} {u:cZ} {w:dR} {e:cL} (hK:40000000<K) (h:Sm u):dA (aMi K u w e) (fun v=>v.2=0→0≤v.1∧v.1<u.bK.length):=by
 refine dA.of ?_
 unfold aMi
 refine bI.jV (rD (by omega) (by assumption)) ?_
 refine bI.dS (bI.bJ ?_) (fun _=>?_)
 ·refine bI.ite (fun e1=>?_) (fun e1=>?_)
  ·refine bI.call (aEg (by omega) h) (fun r1 _=>?_)
   refine bI.ite (fun e2=>?_) (fun e2=>bI.bN (bI.ite (fun e3=>?_) (fun e3=>?_)))
   ·refine bI.ret (sE.l (sE.r ?_));intro h;cases h
   ·refine bI.ret (sE.l (sE.r ?_));intro h;cases h
   ·refine bI.call (aId (by omega) h) (fun v hv=>?_)
    refine bI.ite (fun e4=>?_) (fun e4=>?_)
    ·refine bI.ret (sE.l (sE.r ?_));intro h;cases h
    ·refine bI.jV (lR (by omega) (by assumption)) ?_
     refine bI.ret (sE.l (sE.r ?_))
     intro _
     exact gT (k:=kd u (fnd u r1.1.cQ.cC)) rfl (hv (by simpa using e4))
  ·refine bI.ite (fun e1=>?_) (fun e1=>?_)
   ·refine bI.call aEs (fun v hv=>?_)
    refine bI.ite (fun e4=>?_) (fun e4=>?_)
    ·refine bI.ret (sE.l (sE.r ?_));intro h;cases h
    ·refine bI.ret (sE.l (sE.r ?_))
     intro _
     exact (hv (by simpa using e4)).2.1
   ·refine bI.ite (fun e1=>?_) (fun e1=>?_)
    ·refine bI.call aEs (fun v hv=>?_)
     refine bI.bN (bI.ite (fun e4=>?_) (fun e4=>?_))
     ·refine bI.ret (sE.l (sE.r ?_));intro h;cases h
     ·simp only[aM,not_or,aB,Int.ofNat_eq_natCast] at e4
      refine bI.bW (bR (by omega)) ?_
      refine bI.cD (bI.ret (sE.l (sE.r ?_)))
      intro _
      exact oM (dQ (by omega))
    ·refine bI.ret (sE.r ?_)
     trivial
 ·refine bI.ret (sE.l ?_);intro h;cases h
theorem cL.szq (e:cL):e.sz=1+cL.jC e.fY:=by cases e;rw[cL.sz]
theorem p7:∀ {l:List cL} {x:cL},x∈l→x.sz≤cL.jC l
 | y::r,x,h=>by
   rw[cL.jC]
   rcases aZ.1 h with rfl | h
   ·omega
   ·have:=p7 h;omega
theorem aLd:∀ (l:List cL) (a b:Nat),cL.jC ((l.drop a).take b)≤cL.jC l:=by
 intro l a b
 have h1:=oD (l.take a) (l.drop a)
 rw[List.take_append_drop] at h1
 have h2:=oD ((l.drop a).take b) ((l.drop a).drop b)
 rw[List.take_append_drop] at h2
 omega
theorem T0 {p:Prop} (h:p:=by (repeat' (first | with_reducible refine bI.bN ?_ | with_reducible refine bI.bL ?_ | with_reducible refine bI.bJ ?_ | with_reducible refine bI.dK ?_ | with_reducible refine bI.ite (fun _=>?_) (fun _=>?_) | with_reducible refine bI.cD ?_ | with_reducible refine bI.bW rfl ?_ | with_reducible refine bI.ret ?_ | with_reducible refine sE.l ?_ | with_reducible refine sE.r ?_ | with_reducible refine bI.jV (lR (by omega) (by assumption)) ?_ | with_reducible refine bI.jV lS ?_)) <;> first | trivial | (intro h;cases h;done)):p:=h
theorem ex7:∀ k:Nat,(∀ (u:cZ) (w:dR) (e:cL),Sm u→e.sz≤7000→3 * e.sz+40000000<k→dA (aF2 k u w e) (fun _=>True)) ∧
 (∀ (u:cZ) (w:dR) (l:List cL),Sm u→cL.jC l≤7000→3 * cL.jC l+40000002<k→dA (aEP k u w l) (fun v=>v.2=0→v.1.length=l.length)) ∧
 (∀ (u:cZ) (w:dR) (e:cL),Sm u→e.sz≤7000→3 * e.sz+40000001<k→dA (aCh k u w e) (fun _=>True)) ∧
 (∀ (u:cZ) (w:dR) (e:cL) (x:fE),Sm u→e.sz≤7000→3 * e.sz+40000000<k→(e.bP=6→1≤e.fY.length)→dA (aI1 k u w e x) (fun _=>True))
 | 0=>⟨fun _ _ _ _ _ h=>by omega,fun _ _ _ _ _ h=>by omega,fun _ _ _ _ _ h=>by omega,fun _ _ _ _ _ _ h=>by omega⟩
 | k+1=>by
   obtain ⟨ih1,ih2,ih3,ih4⟩:=ex7 k
   refine ⟨fun u w e h hz hk=>?_,fun u w l h hz hk=>?_,fun u w e h hz hk=>?_,fun u w e x h hz hk hx=>?_⟩
   ·refine dA.of ?_
    rw[aF2]
    have hs:=e.szq
    refine bI.call (aHY (by omega) h) (fun r1 hr1=>?_)
    refine bI.ite (fun e1=>?_) (fun e1=>?_)
    ·exact T0
    refine bI.jV (wZ (by omega) (by assumption)) ?_
    refine bI.ite (fun e2=>?_) (fun e2=>?_)
    ·exact T0
    have hw:=(aBr (u:=u) (d:=r1.1) (s:=e.wF) (by simpa using e2)).1
    refine bI.call (aAP hw) ?_
    rintro _ rfl
    refine bI.ite (fun e3=>?_) (fun e3=>?_)
    ·exact T0
    refine bI.call (ih2 u w e.fY h (by omega) (by omega)) (fun r4 hr4=>?_)
    refine bI.ite (fun e4=>?_) (fun e4=>bI.bN (bI.ite (fun e5=>?_) (fun e5=>?_)))
    ·exact T0
    ·exact T0
    have hl:=oC e.fY
    have h4:=hr4 (by simpa using e4)
    have h5:r4.1.length=(mof u (u7 u r1.1 e.wF).1).cV.length:=by
     simp only[bne_iff_ne,ne_eq,Decidable.not_not,Int.ofNat_eq_natCast] at e5;omega
    refine bI.dS (bI.bJ (bI.dK ?_)) (fun _=>by exact T0)
    refine bI.loop (fun t:Int=>0≤t∧t≤r4.1.length) (fun t=>(r4.1.length - t).toNat) ⟨by simp,by simp⟩ (by simp;omega) (fun t ⟨h1,h2⟩=>?_)
    simp (disch:=omega) only[wr,Int.ofNat_eq_natCast]
    refine bI.bN (bI.ite (fun e6=>?_) (fun e6=>?_))
    ·simp only[aB] at e6
     refine bI.dS (bI.bJ (bI.bW (bR (by omega)) (bI.bW (bR (by omega)) (bI.cD ?_)))) (fun _=>?_)
     ·refine bI.cX (by decide) (aEe (by omega) h) (fun _ _=>?_)
      exact T0
     ·refine bI.ret (sE.r ?_)
      exact ⟨⟨by omega,by omega⟩,by omega⟩
    ·exact T0
   ·refine dA.of ?_
    rw[aEP]
    have hl:=oC l
    refine bI.cP (fun o=>o.length=l.length) (bI.bJ (bI.dK ?_)) ?_
    ·refine bI.loop (fun t:List fL × Int=>0≤t.2∧t.2≤l.length∧(t.1.length:Int)=t.2) (fun t=>(l.length - t.2).toNat) ⟨by simp,by simp,by simp⟩ (by simp;omega) ?_
     rintro ⟨o,t⟩ ⟨g1,g2,g3⟩
     dsimp only at g1 g2 g3 ⊢
     simp (disch:=omega) only[wr,Int.ofNat_eq_natCast]
     refine bI.bN (bI.ite (fun e6=>?_) (fun e6=>?_))
     ·simp only[aB] at e6
      have hm:=p7 (dQ (d:=default) (show t.toNat<l.length by omega))
      refine bI.cP (fun o2=>(o2.length:Int)=t+1) (bI.bJ (bI.bW (bR (by omega)) (bI.cD ?_))) ?_
      ·refine bI.call (ih3 u w _ h (by omega) (by omega)) (fun r _=>?_)
       refine bI.ite (fun e7=>?_) (fun e7=>?_)
       ·refine bI.ret (sE.l (sE.r (sE.r ?_)))
        intro h
        exact absurd h (by simpa using e7)
       ·refine bI.bW (dX ?_) (bI.cD ?_)
        ·show (o.length+1) * 40≤_
         omega
        ·refine bI.ret (sE.r ?_)
         show ((o++[r.1]).length:Int)=t+1
         rw[aE,List.length_singleton];omega
      ·intro o2 h2
       refine bI.ret (sE.r ?_)
       exact ⟨⟨by dsimp only;omega,by dsimp only;omega,h2⟩,by dsimp only;omega⟩
     ·simp only[aB] at e6
      refine bI.ret (sE.l (sE.l ?_))
      show o.length=l.length
      omega
    ·intro o ho
     refine bI.ret (sE.l ?_)
     exact fun _=>ho
   ·refine dA.of ?_
    rw[aCh]
    have hs:=e.szq
    refine bI.call aAM (fun _ _=>?_)
    refine bI.ite (fun e1=>?_) (fun e1=>?_)
    ·exact T0
    refine bI.ite (fun e2=>?_) (fun e2=>?_)
    ·refine bI.call (ih1 u w e h (by omega) (by omega)) (fun _ _=>?_)
     exact T0
    refine bI.call aQk ?_
    rintro _ rfl
    refine bI.bN (bI.ite (fun e3=>?_) (fun e3=>?_))
    ·exact T0
    simp only[aM,not_or,aB,bne_iff_ne,ne_eq,Decidable.not_not,Int.ofNat_eq_natCast,Int.not_lt] at e3
    refine bI.call (aEg (by omega) h) (fun r6 _=>?_)
    refine bI.dS (bI.bJ ?_) (fun _=>?_)
    ·have a0E:dA (aI1 k u w e r6.1) (fun _=>True):=ih4 u w e r6.1 h (by omega) (by omega) (fun e6=>by
      have:ar e.bP=1:=by rw[e6];decide
      omega)
     have a0F:dA (aIZ k u e.cC) (fun v=>v=true→kd u (fnd u e.cC)≠0):=aId (by omega) h
     refine bI.ite (fun _=>bI.ret (sE.l (sE.r ?_))) (fun _=>bI.bL (bI.ite (fun _=>bI.ret (sE.r (bI.ite (fun _=>bI.ret (sE.l (sE.r ?_))) (fun _=>bI.ite (fun _=>bI.ret (sE.l (sE.r ?_))) (fun _=>bI.bL (bI.ite (fun _=>bI.ret (sE.r (bI.ite (fun _=>bI.ite (fun _=>bI.ret (sE.l (sE.r ?_))) (fun _=>?_)) (fun _=>bI.ite (fun _=>?_) (fun _=>bI.ret (sE.r ?_)))))) (fun _=>bI.ite (fun _=>bI.ret (sE.r (bI.ite (fun _=>bI.ite (fun _=>bI.ret (sE.l (sE.r ?_))) (fun _=>?_)) (fun _=>bI.ite (fun _=>?_) (fun _=>bI.ret (sE.r ?_)))))) (fun _=>bI.ite (fun _=>bI.ret (sE.r (bI.ite (fun _=>bI.ite (fun _=>bI.ret (sE.l (sE.r ?_))) (fun _=>?_)) (fun _=>bI.ite (fun _=>?_) (fun _=>bI.ret (sE.r ?_)))))) (fun _=>bI.ite (fun _=>bI.ret (sE.r (bI.ite (fun _=>bI.ite (fun _=>bI.ret (sE.l (sE.r ?_))) (fun _=>?_)) (fun _=>bI.ite (fun _=>?_) (fun _=>bI.ret (sE.r ?_)))))) (fun _=>bI.ret (sE.r (bI.ite (fun _=>bI.ite (fun _=>bI.ret (sE.l (sE.r ?_))) (fun _=>?_)) (fun _=>bI.ite (fun _=>?_) (fun _=>bI.ret (sE.r ?_))))))))))))))) (fun _=>bI.ret (sE.r (bI.ite (fun _=>bI.ret (sE.l (sE.r ?_))) (fun _=>bI.ite (fun _=>bI.ret (sE.l (sE.r ?_))) (fun _=>bI.bL (bI.ite (fun _=>bI.ret (sE.r (bI.ite (fun _=>bI.ite (fun _=>bI.ret (sE.l (sE.r ?_))) (fun _=>?_)) (fun _=>bI.ite (fun _=>?_) (fun _=>bI.ret (sE.r ?_)))))) (fun _=>bI.ite (fun _=>bI.ret (sE.r (bI.ite (fun _=>bI.ite (fun _=>bI.ret (sE.l (sE.r ?_))) (fun _=>?_)) (fun _=>bI.ite (fun _=>?_) (fun _=>bI.ret (sE.r ?_)))))) (fun _=>bI.ite (fun _=>bI.ret (sE.r (bI.ite (fun _=>bI.ite (fun _=>bI.ret (sE.l (sE.r ?_))) (fun _=>?_)) (fun _=>bI.ite (fun _=>?_) (fun _=>bI.ret (sE.r ?_)))))) (fun _=>bI.ite (fun _=>bI.ret (sE.r (bI.ite (fun _=>bI.ite (fun _=>bI.ret (sE.l (sE.r ?_))) (fun _=>?_)) (fun _=>bI.ite (fun _=>?_) (fun _=>bI.ret (sE.r ?_)))))) (fun _=>bI.ret (sE.r (bI.ite (fun _=>bI.ite (fun _=>bI.ret (sE.l (sE.r ?_))) (fun _=>?_)) (fun _=>bI.ite (fun _=>?_) (fun _=>bI.ret (sE.r ?_)))))))))))))))))
     all_goals first
      | trivial
      | (refine bI.call a0E (fun _ _=>?_);exact T0)
      | (refine bI.call a0F (fun _ _=>?_);exact T0)
    refine bI.bW ?_ (bI.cD ?_)
    ·simp only[cW,aC,aB];omega
    have hsub:=aLd e.fY (0:Int).toNat ((ar e.bP).toNat - (0:Int).toNat)
    refine bI.call (ih2 u w _ h (by omega) (by omega)) (fun mI hr=>?_)
    refine bI.ite (fun e4=>?_) (fun e4=>?_)
    ·exact T0
    have hr':=hr (by simpa using e4)
    have hl:(mI.1.length:Int)=ar e.bP:=by
     rw[hr',aU,bH];omega
    have k7:e.bP=7→(mI.1.length:Int)=1:=fun q=>by rw[hl,q];decide
    have k8:e.bP=8→(mI.1.length:Int)=1:=fun q=>by rw[hl,q];decide
    have k9:e.bP=9→(mI.1.length:Int)=2:=fun q=>by rw[hl,q];decide
    have k14:e.bP=14→(mI.1.length:Int)=1:=fun q=>by rw[hl,q];decide
    refine bI.dS (bI.bJ ?_) (fun _=>by exact T0)
    refine bI.bW ?_ (bI.bW ?_ (bI.cD (bI.bN (bI.ite (fun e5=>?_) (fun e5=>?_)))))
    ·by_cases q:e.bP=7
     ·rw[bR (by have:=k7 q;omega)];simp
     ·rw[beq_eq_false_iff_ne.2 q];rfl
    ·by_cases q:e.bP=8
     ·rw[bR (by have:=k8 q;omega)];simp
     ·rw[beq_eq_false_iff_ne.2 q];rfl
    ·simp only[aM,aC,beq_iff_eq] at e5
     refine bI.bW (bR ?_) (by exact T0)
     rcases e5 with q | q
     ·have:=k7 q.1;omega
     ·have:=k8 q.1;omega
    ·refine bI.ite (fun e6=>?_) (fun e6=>?_)
     ·have:=k9 (beq_iff_eq.1 e6)
      refine bI.bW (bR (by omega)) (bI.bW (bR (by omega)) (bI.cD ?_))
      refine bI.call aQl (fun _ _=>?_)
      exact T0
     ·refine bI.bW ?_ (by exact T0)
      by_cases q:e.bP=14
      ·rw[bR (by have:=k14 q;omega)];simp
      ·rw[beq_eq_false_iff_ne.2 q];rfl
   ·refine dA.of ?_
    rw[aI1]
    have hs:=e.szq
    refine bI.dS (bI.bJ ?_) (fun _=>by exact T0)
    refine bI.ite (fun e1=>?_) (fun e1=>?_)
    ·exact T0
    refine bI.ite (fun e1=>?_) (fun e1=>?_)
    ·have h1:=hx (beq_iff_eq.1 e1)
     refine bI.ite (fun e2=>?_) (fun e2=>?_)
     ·exact T0
     ·have hm:=p7 (dQ (d:=default) (show (0:Int).toNat<e.fY.length by simp;omega))
      refine bI.bW (bR (by omega)) (bI.cD ?_)
      refine bI.call (ih3 u w _ h (by omega) (by omega)) (fun _ _=>?_)
      exact T0
    ·exact T0
theorem aEd {K:Nat} {u:cZ} {w:dR} {e:cL} (hK:40100000<K) (he:e.sz≤6004) (h:Sm u):dA (aCh K u w e) (fun _=>True):=(ex7 K).2.2.1 u w e h (by omega) (by omega)
theorem aPG {K:Nat} {u:cZ} {w:dR} {l:List cL} (hK:40100000<K) (he:cL.jC l≤6004) (h:Sm u):dA (aEP K u w l) (fun v=>v.2=0→v.1.length=l.length):=(ex7 K).2.1 u w l h (by omega) (by omega)
theorem aPF {K:Nat} {u:cZ} {w:dR} {e:cL} (hK:40100000<K) (he:e.sz≤6004) (h:Sm u):dA (aF2 K u w e) (fun _=>True):=(ex7 K).1 u w e h (by omega) (by omega)
end Go.Proofs.YtdbfbedholdjaaaGreat
