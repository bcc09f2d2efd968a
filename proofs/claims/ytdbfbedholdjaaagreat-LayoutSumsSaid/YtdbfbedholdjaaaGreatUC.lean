/- No conditions. -/
import Derived.Test.YtdbfbedholdjaaaGreatUA
import Derived.Test.YtdbfbedholdjaaaGreatLA
import Derived.Test.YtdbfbedholdjaaaGreatLd
set_option linter.unusedVariables false
set_option linter.unusedSimpArgs false
set_option linter.unusedSectionVars false
namespace Go.Proofs.YtdbfbedholdjaaaGreat
open Go Go.Dl
variable [eC]
set_option maxRecDepth 100000
set_option maxHeartbeats 8000000
theorem bJ.jV {α R:Type} {m:Option (R ⊕ R)} {f:R→Option α} {Q:α→Prop} {z:R} (h:dG m (fun v=>v=z)) (hf:bJ (f z) Q):bJ ((bU m).bind f) Q:=bJ.call h fun _ e=>e ▸ hf
theorem bJ.aJv {α R:Type} {b:Bool} {d:R} {m:Option (R ⊕ R)} {f:R→Option α} {Q:α→Prop} {z:R} (hb:b=true) (h:dG m (fun v=>v=z)) (hf:bJ (f z) Q):bJ ((cK b (bU m) d).bind f) Q:=bJ.dB hb h fun _ e=>e ▸ hf
theorem bV {i:Int} {n:Nat} (h:0≤i∧i<n):cS i n=true:=by simp only[cS,aC,aB];omega
structure Sm (u:dD):Prop where
 b:dsz u.bK≤6004
theorem aLm:∀ {l:List jX} {d:jX},d∈l→d.sz≤dsz l
 | x::r,d,h=>by
   rw[dsz]
   rcases bE.1 h with rfl | h
   ·omega
   ·have:=aLm h;omega
theorem aLn:∀ {l:List iI} {d:iI},d∈l→d.sz≤zH l
 | x::r,d,h=>by
   rw[zH]
   rcases bE.1 h with rfl | h
   ·omega
   ·have:=aLn h;omega
abbrev dc (u:dD) (d:Int):jX:=u.bK.getD d.toNat default
theorem eA {α:Type} {l:List α} {i:Nat} {d:α} (h:i<l.length):l.getD i d∈l:=by
 rw[List.getD,aD h];exact List.getElem_mem h
theorem aEe {α:Type} {l:List α} {i:Nat} {d:α} (h:¬ i<l.length):l.getD i d=d:=by
 rw[List.getD,aW (by omega)];rfl
theorem Sm.len {u:dD} (h:Sm u):u.bK.length≤6004:=aV (aLh _) h.b
theorem Sm.sz {u:dD} (h:Sm u) (d:Int):(dc u d).sz≤6004:=by
 by_cases hd:d.toNat<u.bK.length
 ·exact aV (aLm (eA hd)) h.b
 ·rw[dc,aEe hd];decide
theorem Sm.vars {u:dD} (h:Sm u) (d:Int):(dc u d).cU.length≤6004:=by have:=h.sz d;unfold jX.sz at this;omega
theorem Sm.u7 {u:dD} (h:Sm u) (d:Int):(dc u d).dZ.length≤6004:=by have:=h.sz d;unfold jX.sz at this;omega
theorem Sm.zH {u:dD} (h:Sm u) (d:Int):zH (dc u d).bN≤6004:=by have:=h.sz d;unfold jX.sz at this;omega
theorem Sm.aB2 {u:dD} (h:Sm u) (d:Int):(dc u d).bN.length≤6004:=aV (aLg _) (h.zH d)
theorem Sm.body {u:dD} (h:Sm u) (d:Int):cJ.jF (dc u d).uV≤6004:=by have:=h.sz d;unfold jX.sz at this;omega
theorem Sm.m {u:dD} (h:Sm u) (d:Int) (m:Nat):((dc u d).bN.getD m default).sz≤6004:=by
 by_cases hm:m<(dc u d).bN.length
 ·exact aV (aLn (eA hm)) (h.zH d)
 ·rw[aEe hm];decide
theorem iI.bounds {m:iI} (h:m.sz≤6004):m.cV.length≤6004∧m.cU.length≤6004∧cJ.jF m.uV≤6004:=by
 unfold iI.sz at h;exact ⟨by omega,by omega,by omega⟩
def ix {α:Type} (p:α→Bool) (l:List α):Int:=if l.findIdx p<l.length then (l.findIdx p:Int) else -1
theorem aK2 {α:Type} {p:α→Bool} {l:List α} {z:α} {t:Nat} (h:t<l.length) (hb:∀ j,j<t→p (l.getD j z)=false) (hp:p (l.getD t z)=true):ix p l=t:=by
 have e:l.findIdx p=t:=by
  rw[List.getD,aD h] at hp
  refine (List.findIdx_eq h).2 ⟨hp,fun j hj=>?_⟩
  have:=hb j hj
  rw[List.getD,aD (by omega)] at this
  exact this
 unfold ix;rw[e,aH h]
theorem aK3 {α:Type} {p:α→Bool} {l:List α} {z:α} (hb:∀ j,j<l.length→p (l.getD j z)=false):ix p l = -1:=by
 unfold ix
 rw[aG]
 intro h
 have h1:=hb _ h
 rw[List.getD,aD h] at h1
 have:=List.findIdx_getElem (w:=h)
 rw[Option.getD_some] at h1
 rw[h1] at this;cases this
theorem aYq {α:Type} (p:α→Bool) (l:List α) : -1≤ix p l∧ix p l<l.length:=by
 unfold ix;split <;> omega
theorem aYr {α:Type} {p:α→Bool} {l:List α} (z:α) (h:0≤ix p l):(ix p l).toNat<l.length∧p (l.getD (ix p l).toNat z)=true:=by
 unfold ix at h ⊢
 split at h
 ·rename_i hl
  rw[aH hl]
  rw[Int.toNat_natCast]
  refine ⟨hl,?_⟩
  rw[List.getD,aD hl]
  exact List.findIdx_getElem (w:=hl)
 ·omega
theorem aJw {α:Type} {p:α→Bool} {l:List α} {x:α} (h:x∈l) (hp:p x=true):0≤ix p l:=by
 unfold ix
 rw[aH (List.findIdx_lt_length_of_exists ⟨x,h,hp⟩)];omega
def fnd (u:dD) (s:Bytes):Int:=ix (fun d:jX=>d.cG == s) u.bK
def kd (u:dD) (d:Int):Int:=if d<0∨d ≥ u.bK.length then 0 else (dc u d).bP
theorem lH {u:dD} {d k:Int} (h:kd u d=k) (hk:k≠0):0≤d∧d<u.bK.length:=by
 unfold kd at h
 split at h
 ·omega
 ·omega
theorem lT {K:Nat} {u:dD} {s:Bytes} (hK:100000<K) (h:Sm u):dG (F61 K u s) (fun v=>v=fnd u s):=by
 have hl:=h.len
 refine dG.of ?_
 unfold F61
 refine bJ.bM (bJ.bL (bJ.dN ?_))
 refine bJ.loop (fun t:Int=>0≤t∧t≤u.bK.length∧∀ j:Nat,(j:Int)<t→((u.bK.getD j default).cG == s)=false) (fun t=>(u.bK.length - t).toNat) ⟨by simp,by simp,fun j hj=>by omega⟩ (by simp;omega) (fun t ⟨h1,h2,h3⟩=>?_)
 obtain ⟨n,rfl⟩:=aJ h1
 simp (disch:=omega) only[wr,Int.ofNat_eq_natCast]
 refine bJ.bO (bJ.ite (fun _=>bJ.bM (bJ.bL (bJ.bW (bV (by simp only[aB,Int.ofNat_eq_natCast] at *;omega)) (bJ.cC (bJ.bO (bJ.ite (fun _=>bJ.ret (sE.l (sE.r (sE.r ?_)))) (fun _=>bJ.ret (sE.r (bJ.ret (sE.r ?_)))))))))) (fun _=>bJ.ret (sE.l (sE.l (bJ.ret (sE.l ?_))))))
 ·rename_i e2 e
  simp only[aB] at e2
  exact (aK2 (z:=default) (by omega) (fun j hj=>h3 j (by omega)) e).symm
 ·rename_i e2 e
  rw[Int.toNat_natCast] at e
  simp only[aB] at e2
  refine ⟨⟨by omega,by omega,fun j hj=>?_⟩,by omega⟩
  by_cases hjn:j=n
  ·subst hjn;simpa using e
  ·exact h3 j (by omega)
 ·rename_i e
  simp only[aB] at e
  exact (aK3 (z:=default) fun j hj=>h3 j (by omega)).symm
theorem lU {K:Nat} {u:dD} {d:Int}:dG (F68 K u d) (fun v=>v=kd u d):=by
 refine dG.of ?_
 unfold F68 kd
 refine bJ.bO (bJ.ite (fun _=>bJ.ret (sE.l ?_)) (fun _=>bJ.bW (by simp only[aB,aC,aM,Int.ofNat_eq_natCast,cS,room,c9,Int.toNat_natCast] at *;omega) (bJ.cC (bJ.bO (bJ.ret (sE.l ?_))))))
 ·rename_i e
  simp only[aM,aB,Int.ofNat_eq_natCast] at e
  rw[aH e]
 ·rename_i e
  simp only[aM,aB,Int.ofNat_eq_natCast] at e
  rw[aG e]
theorem aAR {K:Nat} {l:List Int} {x:Int} (hK:100000<K) (h:l.length≤20000):dG (aGR K l x) (fun v=>v=l.contains x):=by
 refine dG.of ?_
 unfold aGR
 refine bJ.bM (bJ.bL (bJ.dN ?_))
 refine bJ.loop (fun t:Int=>0≤t∧t≤l.length∧∀ j:Nat,(j:Int)<t→l.getD j default≠x) (fun t=>(l.length - t).toNat) ⟨by simp,by simp,fun j hj=>by omega⟩ (by simp;omega) (fun t ⟨h1,h2,h3⟩=>?_)
 obtain ⟨n,rfl⟩:=aJ h1
 simp (disch:=omega) only[wr,Int.ofNat_eq_natCast]
 refine bJ.bO (bJ.ite (fun _=>bJ.bM (bJ.bL (bJ.bW (bV (by simp only[aB,Int.ofNat_eq_natCast] at *;omega)) (bJ.cC (bJ.bO (bJ.ite (fun _=>bJ.ret (sE.l (sE.r (sE.r ?_)))) (fun _=>bJ.ret (sE.r (bJ.ret (sE.r ?_)))))))))) (fun _=>bJ.ret (sE.l (sE.l (bJ.ret (sE.l ?_))))))
 ·rename_i e2 e
  rw[Int.toNat_natCast] at e
  simp only[aB] at e2
  simp only[beq_iff_eq] at e
  exact (List.contains_iff_mem.2 (e ▸ eA (by omega))).symm
 ·rename_i e2 e
  rw[Int.toNat_natCast] at e
  simp only[aB] at e2
  simp only[beq_iff_eq] at e
  refine ⟨⟨by omega,by omega,fun j hj=>?_⟩,by omega⟩
  by_cases hjn:j=n
  ·subst hjn;exact e
  ·exact h3 j (by omega)
 ·rename_i e
  simp only[aB] at e
  symm
  rw[← Bool.not_eq_true]
  intro hc
  obtain ⟨i,hi,rfl⟩:=List.getElem_of_mem (List.contains_iff_mem.1 hc)
  refine h3 i (by omega) ?_
  rw[List.getD,aD hi];rfl
def own (d:jX) (s:Bytes):Int:=ix (fun m:iI=>m.cG == s) d.bN
theorem aP0 {K:Nat} {d:jX} {s:Bytes} (hK:100000<K) (h:d.bN.length≤6004):dG (aNz K d s) (fun v=>v=own d s):=by
 refine dG.of ?_
 unfold aNz
 refine bJ.bM (bJ.bL (bJ.dN ?_))
 refine bJ.loop (fun t:Int=>0≤t∧t≤d.bN.length∧∀ j:Nat,(j:Int)<t→((d.bN.getD j default).cG == s)=false) (fun t=>(d.bN.length - t).toNat) ⟨by simp,by simp,fun j hj=>by omega⟩ (by simp;omega) (fun t ⟨h1,h2,h3⟩=>?_)
 obtain ⟨n,rfl⟩:=aJ h1
 simp (disch:=omega) only[wr,Int.ofNat_eq_natCast]
 refine bJ.bO (bJ.ite (fun _=>bJ.bM (bJ.bL (bJ.bW (bV (by simp only[aB,Int.ofNat_eq_natCast] at *;omega)) (bJ.cC (bJ.bO (bJ.ite (fun _=>bJ.ret (sE.l (sE.r (sE.r ?_)))) (fun _=>bJ.ret (sE.r (bJ.ret (sE.r ?_)))))))))) (fun _=>bJ.ret (sE.l (sE.l (bJ.ret (sE.l ?_))))))
 ·rename_i e2 e
  simp only[aB] at e2
  exact (aK2 (z:=default) (by omega) (fun j hj=>h3 j (by omega)) e).symm
 ·rename_i e2 e
  rw[Int.toNat_natCast] at e
  simp only[aB] at e2
  refine ⟨⟨by omega,by omega,fun j hj=>?_⟩,by omega⟩
  by_cases hjn:j=n
  ·subst hjn;simpa using e
  ·exact h3 j (by omega)
 ·rename_i e
  simp only[aB] at e
  exact (aK3 (z:=default) fun j hj=>h3 j (by omega)).symm
def unv:Nat→List Int→Nat
 | 0,_=>0
 | n+1,out=>unv n out+if out.contains (n:Int) then 0 else 1
theorem aLo:∀ (n:Nat) (out:List Int) (d:Int),(n:Int)≤d→unv n (out++[d])=unv n out
 | 0,_,_,_=>rfl
 | n+1,out,d,h=>by
   rw[unv,unv,aLo n out d (by omega)]
   have:(out++[d]).contains (n:Int)=out.contains (n:Int):=by
    rw[Bool.eq_iff_iff];simp <;> omega
   rw[this]
theorem w5:∀ (n:Nat) (out:List Int) (d:Int),0≤d→d<n→out.contains d=false→unv n (out++[d])+1=unv n out
 | 0,_,d,h0,h,_=>by omega
 | n+1,out,d,h0,h,hc=>by
   rw[unv,unv]
   by_cases e:d=n
   ·subst e
    rw[aLo n out _ (by omega),aH (by simp),aG (by rw[hc];exact Bool.false_ne_true)]
   ·have:=w5 n out d h0 (by omega) hc
    have h2:(out++[d]).contains (n:Int)=out.contains (n:Int):=by
     rw[Bool.eq_iff_iff];simp <;> omega
    rw[h2];omega
theorem p8:∀ n,unv n []=n
 | 0=>rfl
 | n+1=>by rw[unv,p8 n];simp
def chF (u:dD):Nat→List Int→Int→List Int
 | 0,out,_=>out
 | n+1,out,d=>if kd u d=2∧out.contains d=false then chF u n (out++[d]) (fnd u (dc u d).lE) else out
def chain (u:dD) (d:Int):List Int:=chF u (u.bK.length+1) [] d
theorem aGk {u:dD} (P:List Int→Prop) (hp:∀ out d,P out→kd u d=2→out.contains d=false→P (out++[d])):∀ (n:Nat) (out:List Int) (d:Int),P out→P (chF u n out d)
 | 0,_,_,h=>h
 | n+1,out,d,h=>by
   rw[chF]
   split
   ·rename_i e;exact aGk P hp n _ _ (hp _ _ h e.1 e.2)
   ·exact h
theorem aME {u:dD} {d x:Int} (h:x∈chain u d):kd u x=2 :=
 aGk (fun out=>∀ x∈out,kd u x=2) (fun out d h1 h2 _ x hx=>by
  rcases bG.1 hx with hx | hx
  ·exact h1 x hx
  ·rw[aQ.1 hx];exact h2) _ [] d (fun x hx=>by cases hx) x h
theorem oM {u:dD} {d x:Int} (h:x∈chain u d):0≤x∧x<u.bK.length:=lH (aME h) (by decide)
theorem n7 (u:dD) (d:Int):(chain u d).length≤u.bK.length:=by
 have h:=aGk (u:=u) (fun out=>out.length+unv u.bK.length out=u.bK.length) (fun out d h1 h2 h3=>by
  have hd:=lH h2 (by decide)
  have:=w5 u.bK.length out d hd.1 hd.2 h3
  rw[aE,List.length_singleton];omega) (u.bK.length+1) [] d (by rw[p8];simp)
 unfold chain;omega
theorem rA {K:Nat} {u:dD} {d:Int} (hK:100000<K) (h:Sm u):dG (aDo K u d) (fun v=>v=chain u d):=by
 have hl:=h.len
 refine dG.of ?_
 unfold aDo
 refine bJ.bM (bJ.bL (bJ.dN ?_))
 refine bJ.loop (fun t:Int × List Int=>t.2.length+unv u.bK.length t.2=u.bK.length∧∃ n,unv u.bK.length t.2<n∧chF u n t.2 t.1=chain u d) (fun t=>unv u.bK.length t.2) ⟨by rw[p8];simp,u.bK.length+1,by rw[p8];simp,rfl⟩ (by show unv _ []<K;rw[p8];omega) ?_
 rintro ⟨e,out⟩ ⟨h1,n,h2,h3⟩
 dsimp only at h1 h2 h3 ⊢
 obtain ⟨n,rfl⟩:∃ m,n=m+1:=⟨n - 1,by omega⟩
 rw[chF] at h3
 refine bJ.jV (lU) ?_
 refine bJ.cF (fun _=>aAR (by omega) (by omega)) (fun v hv=>?_)
 refine bJ.ite (fun c=>?_) (fun c=>?_)
 ·simp only[aC,beq_iff_eq,aP] at c
  have hv':=hv (by simp [c.1])
  have hc:out.contains e=false:=by rw[← hv'];exact c.2
  rw[aH ⟨c.1,hc⟩] at h3
  have hd:=lH c.1 (by decide)
  have hu:=w5 u.bK.length out e hd.1 hd.2 hc
  refine bJ.bM (bJ.bL ?_)
  refine bJ.bW (by simp [room];omega) (bJ.cC (bJ.bW (by simp [cS];omega) (bJ.cC (bJ.bO ?_))))
  refine bJ.dB (by decide) (lT (by omega) h) ?_
  rintro _ rfl
  refine bJ.ret (sE.r (bJ.ret (sE.r ?_)))
  exact ⟨⟨by simp;omega,n,by dsimp only;omega,h3⟩,by dsimp only;omega⟩
 ·have hc:¬ (kd u e=2∧out.contains e=false):=fun ⟨c1,c2⟩=>by
   have hv':=hv (by simp [c1])
   rw[c2] at hv'
   exact c (by simp [c1,hv'])
  rw[aG hc] at h3
  refine bJ.ret (sE.l (sE.l (bJ.ret (sE.l ?_))))
  exact h3
end Go.Proofs.YtdbfbedholdjaaaGreat

namespace Go.Proofs.YtdbfbedholdjaaaGreat
open Go Go.Dl
variable [eC]
set_option maxRecDepth 100000
set_option maxHeartbeats 8000000
theorem qF {α:Type} {l:List α} {n:Nat} (z:α) (h:n<l.length):l.drop n=l.getD n z::l.drop (n+1):=by
 rw[List.getD,aD h,Option.getD_some];exact List.drop_eq_getElem_cons h
def zA (u:dD) (s:Bytes):List Int→dX × Bool
 | []=>(⟨0,0⟩,false)
 | c::r=>if 0≤own (dc u c) s then (⟨c,own (dc u c) s⟩,true) else zA u s r
def line (u:dD) (d:Int):List Int:=if kd u d=1 then [d] else chain u d
def mth (u:dD) (d:Int) (s:Bytes):dX × Bool:=zA u s (line u d)
theorem aGd {u:dD} {d x:Int} (h:x∈line u d):0≤x∧x<u.bK.length:=by
 unfold line at h
 split at h
 ·rename_i e;rw[aQ.1 h];exact lH e (by decide)
 ·exact oM h
theorem aHS {u:dD} (h:Sm u) (d:Int):(line u d).length≤6005:=by
 unfold line
 split
 ·simp
 ·have:=n7 u d;have:=h.len;omega
theorem wY {K:Nat} {u:dD} {d:Int} {s:Bytes} (hK:100000<K) (h:Sm u):dG (aEF K u d s) (fun v=>v=mth u d s):=by
 have hl:=h.len
 refine dG.of ?_
 unfold aEF
 refine bJ.jV (rA (by omega) (by assumption)) ?_
 refine bJ.jV (lU) ?_
 refine bJ.cN (fun l=>l=line u d) ?_ ?_
 ·unfold line
  refine bJ.ite (fun e=>?_) (fun e=>?_)
  ·refine bJ.ret (sE.r ?_)
   rw[aH (by simpa using e)]
  ·refine bJ.ret (sE.r ?_)
   rw[aG (by simpa using e)]
 rintro _ rfl
 have h2:=aHS h d
 refine bJ.bM (bJ.bL (bJ.dN ?_))
 refine bJ.loop (fun t:Int=>0≤t∧t≤(line u d).length∧zA u s ((line u d).drop t.toNat)=mth u d s) (fun t=>((line u d).length - t).toNat) ⟨by simp,by simp,rfl⟩ (by simp;omega) (fun t ⟨g1,g2,g3⟩=>?_)
 obtain ⟨n,rfl⟩:=aJ g1
 rw[Int.toNat_natCast] at g3
 simp (disch:=omega) only[wr,Int.ofNat_eq_natCast]
 refine bJ.bO (bJ.ite (fun e=>?_) (fun e=>?_))
 ·simp only[aB] at e
  have hn:n<(line u d).length:=by omega
  rw[qF default hn,zA] at g3
  have hx:=aGd (eA (d:=default) hn)
  refine bJ.bM (bJ.bL ?_)
  rw[Int.toNat_natCast]
  refine bJ.bW (bV (by omega)) (bJ.cC (bJ.bW (bV hx) (bJ.cC ?_)))
  refine bJ.dB (by decide) (aP0 (by omega) (h.aB2 _)) ?_
  rintro _ rfl
  refine bJ.ite (fun c=>?_) (fun c=>?_)
  ·simp only[aB] at c
   rw[aH c] at g3
   refine bJ.bW (bV (by omega)) (bJ.cC ?_)
   refine bJ.ret (sE.l (sE.r (sE.r ?_)))
   exact g3
  ·simp only[aB] at c
   rw[aG c] at g3
   refine bJ.ret (sE.r (bJ.ret (sE.r ?_)))
   exact ⟨⟨by omega,by omega,by rw[show ((n:Int)+1).toNat=n+1 by omega];exact g3⟩,by omega⟩
 ·simp only[aB] at e
  rw[List.drop_eq_nil_of_le (by omega),zA] at g3
  refine bJ.ret (sE.l (sE.l (bJ.ret (sE.l ?_))))
  exact g3
def xU (u:dD) (out:List Int) (s:Bytes):List Int:=if kd u (fnd u s)=1∧out.contains (fnd u s)=false then out++[fnd u s] else out
def u7 (u:dD) (d:Int):List Int:=(chain u d).foldl (fun out c=>(dc u c).dZ.foldl (xU u) out) []
def Dis (u:dD) (out:List Int):Prop:=out.length+unv u.bK.length out=u.bK.length
theorem Dis.nil (u:dD):Dis u []:=by unfold Dis;rw[p8];simp
theorem aH3 {u:dD} {out:List Int} (s:Bytes) (h:Dis u out):Dis u (xU u out s):=by
 unfold xU
 split
 ·rename_i e
  have hd:=lH e.1 (by decide)
  have:=w5 u.bK.length out _ hd.1 hd.2 e.2
  unfold Dis at *
  rw[aE,List.length_singleton];omega
 ·exact h
theorem aFg {u:dD}:∀ (l:List Bytes) {out:List Int},Dis u out→Dis u (l.foldl (xU u) out)
 | [],_,h=>h
 | s::l,_,h=>aFg l (aH3 s h)
theorem Dis.len {u:dD} {out:List Int} (h:Dis u out):out.length≤u.bK.length:=by unfold Dis at h;omega
theorem aMF (u:dD) (d:Int):Dis u (u7 u d):=by
 have:∀ (l:List Int) (out:List Int),Dis u out→Dis u (l.foldl (fun out c=>(dc u c).dZ.foldl (xU u) out) out):=by
  intro l
  induction l with
  | nil=>exact fun _ h=>h
  | cons x l ih=>exact fun out h=>ih _ (aFg _ h)
 exact this _ _ (Dis.nil u)
theorem aE9 (u:dD) (d:Int):(u7 u d).length≤u.bK.length:=(aMF u d).len
theorem aHN {K:Nat} {u:dD} {d:Int} (hK:100000<K) (h:Sm u):dG (aLT K u d) (fun v=>v=u7 u d):=by
 have hl:=h.len
 refine dG.of ?_
 unfold aLT
 refine bJ.jV (rA (by omega) (by assumption)) ?_
 have hc:=n7 u d
 refine bJ.bM (bJ.bL (bJ.dN ?_))
 refine bJ.loop (fun t:List Int × Int=>0≤t.2∧t.2≤(chain u d).length∧Dis u t.1∧((chain u d).drop t.2.toNat).foldl (fun out c=>(dc u c).dZ.foldl (xU u) out) t.1=u7 u d) (fun t=>((chain u d).length - t.2).toNat) ⟨by simp,by simp,Dis.nil u,rfl⟩ (by simp;omega) ?_
 rintro ⟨out,t⟩ ⟨g1,g2,g3,g4⟩
 dsimp only at g1 g2 g3 g4 ⊢
 obtain ⟨n,rfl⟩:=aJ g1
 rw[Int.toNat_natCast] at g4
 simp (disch:=omega) only[wr,Int.ofNat_eq_natCast]
 refine bJ.bO (bJ.ite (fun e=>?_) (fun e=>?_))
 ·simp only[aB] at e
  have hn:n<(chain u d).length:=by omega
  rw[qF default hn,List.foldl_cons] at g4
  have hx:=oM (eA (d:=default) hn)
  have hfs:=h.u7 ((chain u d).getD n default)
  rw[Int.toNat_natCast]
  refine bJ.bM (bJ.bL (bJ.bW (bV (by omega)) (bJ.cC (bJ.bW (bV hx) (bJ.cC (bJ.bO ?_))))))
  refine bJ.cN (fun o=>Dis u o∧((chain u d).drop (n+1)).foldl (fun out c=>(dc u c).dZ.foldl (xU u) out) o=u7 u d) ?_ ?_
  ·refine bJ.bL (bJ.dN ?_)
   generalize hfl:(u.bK.getD ((chain u d).getD n default).toNat default).dZ=fl at g4 hfs
   refine bJ.loop (fun t:List Int × Int=>0≤t.2∧t.2≤fl.length∧Dis u t.1∧((chain u d).drop (n+1)).foldl (fun out c=>(dc u c).dZ.foldl (xU u) out) ((fl.drop t.2.toNat).foldl (xU u) t.1)=u7 u d) (fun t=>(fl.length - t.2).toNat) ⟨by simp,by simp,g3,g4⟩ (by simp;omega) ?_
   rintro ⟨o2,t2⟩ ⟨k1,k2,k3,k4⟩
   dsimp only at k1 k2 k3 k4 ⊢
   obtain ⟨m,rfl⟩:=aJ k1
   rw[Int.toNat_natCast] at k4
   have k5:=k3.len
   simp (disch:=omega) only[wr,Int.ofNat_eq_natCast]
   refine bJ.bO (bJ.ite (fun e=>?_) (fun e=>?_))
   ·simp only[aB] at e
    have hm:m<fl.length:=by omega
    rw[qF default hm,List.foldl_cons] at k4
    have k6:=aH3 (fl.getD m default) k3
    have k7:=k6.len
    refine bJ.bM (bJ.bL ?_)
    rw[Int.toNat_natCast]
    refine bJ.bW (bV (by omega)) (bJ.cC ?_)
    refine bJ.aJv rfl (lT (by omega) (by assumption)) ?_
    refine bJ.jV (lU) ?_
    refine bJ.cF (fun _=>aAR (by omega) (by omega)) (fun v hv=>?_)
    refine bJ.ite (fun c=>?_) (fun c=>?_)
    ·simp only[aC,beq_iff_eq,aP] at c
     have hv':=hv (beq_iff_eq.2 c.1)
     have he:xU u o2 (fl.getD m default)=o2++[fnd u (fl.getD m default)]:=by
      unfold xU;rw[aH ⟨c.1,by rw[← hv'];exact c.2⟩]
     rw[he] at k4 k6
     refine bJ.bW (by simp [room];omega) (bJ.cC ?_)
     refine bJ.ret (sE.r (bJ.ret (sE.r ?_)))
     exact ⟨⟨by dsimp only;omega,by dsimp only;omega,k6,by dsimp only;rw[show ((m:Int)+1).toNat=m+1 by omega];exact k4⟩,by dsimp only;omega⟩
    ·have he:xU u o2 (fl.getD m default)=o2:=by
      unfold xU
      rw[aG]
      rintro ⟨c1,c2⟩
      have hv':=hv (beq_iff_eq.2 c1)
      rw[c2] at hv'
      exact c (by rw[c1,hv'];rfl)
     rw[he] at k4
     refine bJ.ret (sE.r (bJ.ret (sE.r ?_)))
     exact ⟨⟨by dsimp only;omega,by dsimp only;omega,k3,by dsimp only;rw[show ((m:Int)+1).toNat=m+1 by omega];exact k4⟩,by dsimp only;omega⟩
   ·simp only[aB] at e
    rw[List.drop_eq_nil_of_le (by omega),List.foldl_nil] at k4
    refine bJ.ret (sE.l (sE.l ?_))
    exact ⟨k3,k4⟩
  rintro o ⟨k1,k2⟩
  refine bJ.ret (sE.r (bJ.ret (sE.r ?_)))
  exact ⟨⟨by dsimp only;omega,by dsimp only;omega,k1,by dsimp only;rw[show ((n:Int)+1).toNat=n+1 by omega];exact k2⟩,by dsimp only;omega⟩
 ·simp only[aB] at e
  rw[List.drop_eq_nil_of_le (by omega),List.foldl_nil] at g4
  refine bJ.ret (sE.l (sE.l (bJ.ret (sE.l ?_))))
  exact g4
def varsOf (u:dD) (l:List Int):List fG:=l.flatMap fun x=>(dc u x).cU
def aEh (u:dD) (d:Int):List fG:=if kd u d=3 then (dc u d).cU else varsOf u (chain u d).reverse
theorem zD {u:dD} (h:Sm u):∀ l:List Int,(varsOf u l).length≤l.length * 6004
 | []=>by simp [varsOf]
 | x::l=>by
   have:=zD h l
   have:=h.vars x
   unfold varsOf at *
   rw[List.flatMap_cons,aE,List.length_cons,Nat.succ_mul];omega
theorem aEa {u:dD} (h:Sm u) (d:Int):(aEh u d).length≤36100000:=by
 unfold aEh
 split
 ·have:=h.vars d;omega
 ·have:=zD h (chain u d).reverse
  have h1:=n7 u d
  have h2:=h.len
  have h3:(chain u d).length * 6004≤6004 * 6004:=aS _ (by omega)
  rw[List.length_reverse] at this
  omega
theorem aK1 {K:Nat} {u:dD} {d:Int} (hK:100000<K) (h:Sm u):dG (F70 K u d) (fun v=>v=aEh u d):=by
 have hl:=h.len
 have hf:=aEa h d
 refine dG.of ?_
 unfold F70
 refine bJ.jV (lU) ?_
 refine bJ.ite (fun e=>?_) (fun e=>?_)
 ·have e:=beq_iff_eq.1 e
  have hd:=lH e (by decide)
  have hv:=h.vars d
  refine bJ.bW (bV hd) (bJ.cC (bJ.bO (bJ.bW (show room ((dc u d).cU.length * 80)=true by simp only[room,aB];omega) (bJ.cC ?_))))
  refine bJ.ret (sE.l ?_)
  unfold aEh;rw[aH e]
 ·have e:kd u d≠3:=fun c=>e (beq_iff_eq.2 c)
  have hs:aEh u d=varsOf u (chain u d).reverse:=by unfold aEh;rw[aG e]
  refine bJ.jV (rA (by omega) (by assumption)) ?_
  have hc:=n7 u d
  refine bJ.bO (bJ.bM (bJ.bL (bJ.dN ?_)))
  simp (disch:=omega) only[wr,Int.ofNat_eq_natCast]
  refine bJ.loop (fun t:List fG × Int=>-1≤t.2∧t.2<(chain u d).length∧t.1=varsOf u ((chain u d).drop (t.2+1).toNat).reverse) (fun t=>(t.2+1).toNat) ⟨by dsimp only;omega,by dsimp only;omega,by dsimp only;rw[show ((chain u d).length - 1+1:Int).toNat=(chain u d).length by omega,List.drop_length];rfl⟩ (by dsimp only;omega) ?_
  rintro ⟨acc,t⟩ ⟨g1,g2,g3⟩
  dsimp only at g1 g2 g3 ⊢
  refine bJ.ite (fun e=>?_) (fun e=>?_)
  ·simp only[aB] at e
   obtain ⟨n,rfl⟩:=aJ e
   rw[show ((n:Int)+1).toNat=n+1 by omega] at g3
   have hn:n<(chain u d).length:=by omega
   have hx:=oM (eA (d:=default) hn)
   have hd:varsOf u ((chain u d).drop n).reverse=acc++(dc u ((chain u d).getD n default)).cU:=by
    rw[qF default hn,List.reverse_cons,g3];simp [varsOf]
   have h1:=zD h ((chain u d).drop n).reverse
   rw[hd,aE,List.length_reverse,bI] at h1
   have h3:((chain u d).length - n) * 6004≤6004 * 6004:=aS _ (by omega)
   refine bJ.bM (bJ.bL ?_)
   rw[Int.toNat_natCast]
   refine bJ.bW (bV (by omega)) (bJ.cC (bJ.bW (bV hx) (bJ.cC (bJ.bO (bJ.bW ?_ (bJ.cC ?_))))))
   ·show room ((acc.length+(dc u ((chain u d).getD n default)).cU.length) * 80)=true
    simp only[room,aB];omega
   simp (disch:=omega) only[wr,Int.ofNat_eq_natCast]
   refine bJ.ret (sE.r (bJ.ret (sE.r ?_)))
   exact ⟨⟨by dsimp only;omega,by dsimp only;omega,by dsimp only;rw[show ((n:Int) - 1+1).toNat=n by omega];exact hd.symm⟩,by dsimp only;omega⟩
  ·simp only[aB] at e
   rw[show (t+1).toNat=0 by omega,List.drop_zero] at g3
   refine bJ.ret (sE.l (sE.l (bJ.ret (sE.l ?_))))
   rw[hs];exact g3
theorem aTo {a b:fP} (h:((a.bP == b.bP) && ((a.fLo == b.fLo) && ((a.vG == b.vG) && ((a.cG == b.cG) && true))))=true):a=b:=by
 simp only[aC,beq_iff_eq] at h
 obtain ⟨h1,h2,h3,h4,_⟩:=h
 cases a;cases b;simp_all
theorem aHM {K:Nat} {a b:iI} (hK:100000<K) (ha:a.cV.length≤6004):dG (aGS K a b) (fun v=>v=true→a.cV.length=b.cV.length∧a.fH=b.fH∧∀ i:Nat,(i:Int)<a.cV.length→(a.cV.getD i default).cI=(b.cV.getD i default).cI):=by
 refine dG.of ?_
 unfold aGS
 refine bJ.bO (bJ.ite (fun e=>?_) (fun e=>?_))
 ·refine bJ.ret (sE.l ?_)
  intro h;cases h
 ·have e:¬ (a.cV.length≠b.cV.length)∧a.fH=b.fH:=by
   simp only[aM,not_or,aP,Bool.not_eq_false,bne_iff_ne,ne_eq,Int.ofNat_eq_natCast,Int.natCast_inj] at e
   exact ⟨e.1,aTo e.2⟩
  have hl:a.cV.length=b.cV.length:=by omega
  refine bJ.bM (bJ.bL (bJ.dN ?_))
  refine bJ.loop (fun t:Int=>0≤t∧t≤a.cV.length∧∀ i:Nat,(i:Int)<t→(a.cV.getD i default).cI=(b.cV.getD i default).cI) (fun t=>(a.cV.length - t).toNat) ⟨by simp,by simp,fun j hj=>by omega⟩ (by simp;omega) (fun t ⟨h1,h2,h3⟩=>?_)
  obtain ⟨n,rfl⟩:=aJ h1
  simp (disch:=omega) only[wr,Int.ofNat_eq_natCast]
  refine bJ.bO (bJ.ite (fun e1=>?_) (fun e1=>?_))
  ·simp only[aB] at e1
   refine bJ.bM (bJ.bL (bJ.bW (bV (by omega)) (bJ.bW (bV (by omega)) (bJ.cC (bJ.bO (bJ.ite (fun e2=>?_) (fun e2=>?_)))))))
   ·refine bJ.ret (sE.l (sE.r (sE.r ?_)))
    intro h;cases h
   ·simp only[aP,Bool.not_eq_false] at e2
    have e2:=aTo e2
    rw[Int.toNat_natCast] at e2
    refine bJ.ret (sE.r (bJ.ret (sE.r ?_)))
    refine ⟨⟨by omega,by omega,fun j hj=>?_⟩,by omega⟩
    by_cases hjn:j=n
    ·subst hjn;exact e2
    ·exact h3 j (by omega)
  ·simp only[aB] at e1
   refine bJ.ret (sE.l (sE.l (bJ.ret (sE.l ?_))))
   exact fun _=>⟨hl,e.2,fun j hj=>h3 j (by omega)⟩
def mof (u:dD) (w:dX):iI:=(dc u w.dA).bN.getD w.dH.toNat default
def Vw (u:dD) (w:dX):Prop:=(0≤w.dA∧w.dA<u.bK.length)∧0≤w.dH∧w.dH<(dc u w.dA).bN.length
theorem aAL {K:Nat} {u:dD} {w:dX} (h:Vw u w):dG (F63 K u w) (fun v=>v=mof u w):=by
 refine dG.of ?_
 unfold F63
 refine bJ.bW (bV h.1) (bJ.bW (bV h.2) (bJ.cC ?_))
 refine bJ.ret (sE.l ?_)
 rfl
theorem aLp {u:dD} {s:Bytes}:∀ {l:List Int},(∀ x∈l,0≤x∧x<u.bK.length)→(zA u s l).2=true→Vw u (zA u s l).1∧(zA u s l).1.dA∈l∧(mof u (zA u s l).1).cG=s
 | c::r,hl,h=>by
   rw[zA] at h ⊢
   split at h
   ·rename_i e
    rw[aH e]
    obtain ⟨h1,h2⟩:=aYr (default:iI) e
    refine ⟨⟨hl c (List.mem_cons_self ..),e,(aYq _ _).2⟩,List.mem_cons_self ..,?_⟩
    exact eq_of_beq h2
   ·rename_i e
    rw[aG e]
    obtain ⟨h1,h2,h3⟩:=aLp (fun x hx=>hl x (aX _ hx)) h
    exact ⟨h1,aX _ h2,h3⟩
theorem aBq {u:dD} {d:Int} {s:Bytes} (h:(mth u d s).2=true):Vw u (mth u d s).1∧(mth u d s).1.dA∈line u d∧(mof u (mth u d s).1).cG=s:=aLp (fun x hx=>aGd hx) h
theorem aD8 {u:dD} {s:Bytes}:∀ {l:List Int} {c:Int},c∈l→0≤own (dc u c) s→(zA u s l).2=true
 | x::l,c,h,h2=>by
   rw[zA]
   split
   ·rfl
   ·rename_i e
    rcases bE.1 h with rfl | h
    ·exact absurd h2 e
    ·exact aD8 h h2
end Go.Proofs.YtdbfbedholdjaaaGreat

namespace Go.Proofs.YtdbfbedholdjaaaGreat
open Go Go.Dl
variable [eC]
set_option maxRecDepth 100000
set_option maxHeartbeats 8000000
theorem aEl {K:Nat} {u:dD} {w:dX}:dG (aIL K u w) (fun v=>v=true→kd u w.dA=2∧Vw u w):=by
 refine dG.of ?_
 unfold aIL
 refine bJ.dB (by decide) lU ?_
 rintro _ rfl
 refine bJ.bW ?_ (bJ.cC (bJ.bO ?_))
 ·by_cases e:kd u w.dA=2
  ·rw[bV (lH e (by decide))];simp
  ·rw[beq_eq_false_iff_ne.2 e];rfl
 ·refine bJ.ret (sE.l ?_)
  intro h
  simp only[aC,beq_iff_eq,aB] at h
  exact ⟨h.1.1,lH h.1.1 (by decide),h.1.2,h.2⟩
def Plc (u:dD) (w:dX):Prop:=(kd u w.dA=2∧Vw u w)∨(kd u w.dA=3∧w.dH = -1)
theorem aAJ {K:Nat} {u:dD} {w:dX}:dG (aGT K u w) (fun v=>v=true→Plc u w):=by
 refine dG.of ?_
 unfold aGT
 refine bJ.call aEl (fun v hv=>?_)
 refine bJ.cF (fun _=>lU) (fun v2 hv2=>?_)
 refine bJ.bO (bJ.ret (sE.l ?_))
 intro h
 cases v with
 | true=>exact .inl (hv rfl)
 | false =>
   simp only[Bool.false_or,aC,beq_iff_eq] at h
   have:=hv2 (by rfl)
   exact .inr ⟨by rw[← this];exact h.1,h.2⟩
theorem Plc.in {u:dD} {w:dX} (h:Plc u w):0≤w.dA∧w.dA<u.bK.length:=by
 rcases h with h | h
 ·exact lH h.1 (by decide)
 ·exact lH h.1 (by decide)
theorem eB {n:Nat} (h:n≤140737488355328):room n=true:=by simp only[room,aB];exact h
theorem aHO {K:Nat} {u:dD} {w:dX} (hK:100000<K) (h:Sm u):dG (aLU K u w) (fun v=>v.length≤36200000):=by
 refine dG.of ?_
 unfold aLU
 refine bJ.call aAJ (fun v hv=>?_)
 refine bJ.ite (fun e=>?_) (fun e=>?_)
 ·refine bJ.ret (sE.l ?_)
  simp
 ·have hp:=hv (by simpa using e)
  have hd:=hp.in
  have h1:=h.vars w.dA
  refine bJ.ite (fun e2=>?_) (fun e2=>?_)
  ·refine bJ.bW (bV hd) (bJ.cC (bJ.bO (bJ.bW (eB ?_) (bJ.cC ?_))))
   ·show (dc u w.dA).cU.length * 80≤_
    omega
   ·refine bJ.ret (sE.l ?_)
    show (dc u w.dA).cU.length≤_
    omega
  ·simp only[aB] at e2
   have hw:Vw u w:=by
    rcases hp with hp | hp
    ·exact hp.2
    ·omega
   have hm:(mof u w).sz≤6004:=h.m w.dA w.dH.toNat
   have hb:=iI.bounds hm
   have hf:=aEa h w.dA
   refine bJ.bW (bV hd) (bJ.bW (bV hw.2) (bJ.cC (bJ.bO (bJ.bW (eB ?_) (bJ.cC (bJ.bO (bJ.bW (eB ?_) (bJ.cC ?_))))))))
   ·show (mof u w).cV.length * 80≤_
    omega
   ·show ((mof u w).cV.length+(mof u w).cU.length) * 80≤_
    omega
   ·refine bJ.call (aK1 (by omega) h) ?_
    rintro _ rfl
    refine bJ.bW (eB ?_) (bJ.cC ?_)
    ·show (((mof u w).cV++(mof u w).cU).length+(aEh u w.dA).length) * 80≤_
     rw[aE];omega
    ·refine bJ.ret (sE.l ?_)
     show (((mof u w).cV++(mof u w).cU)++(aEh u w.dA)).length≤_
     rw[aE,aE];omega
theorem aD6 {K:Nat} {u:dD} {w:dX} {s:Bytes} (hK:40000000<K) (h:Sm u):dG (aIN K u w s) (fun _=>True):=by
 refine dG.of ?_
 unfold aIN
 refine bJ.call (aHO (by omega) h) (fun l hl=>?_)
 refine bJ.bM (bJ.bL (bJ.dN ?_))
 refine bJ.loop (fun t:Int=>0≤t∧t≤l.length) (fun t=>(l.length - t).toNat) ⟨by simp,by simp⟩ (by simp;omega) (fun t ⟨h1,h2⟩=>?_)
 simp (disch:=omega) only[wr,Int.ofNat_eq_natCast]
 refine bJ.bO (bJ.ite (fun _=>bJ.bM (bJ.bL (bJ.bW (bV (by simp only[aB,Int.ofNat_eq_natCast] at *;omega)) (bJ.cC (bJ.bO (bJ.ite (fun _=>bJ.bW (bV (by simp only[aB,Int.ofNat_eq_natCast] at *;omega)) (bJ.cC (bJ.ret (sE.l (sE.r (sE.r ?_)))))) (fun _=>bJ.ret (sE.r (bJ.ret (sE.r ?_)))))))))) (fun _=>bJ.ret (sE.l (sE.l (bJ.ret (sE.l ?_))))))
 all_goals (try (first | trivial | (intro h;cases h;done) | omega | (simp only[aB] at *;omega)))
theorem aH4 {K:Nat} {u:dD} {s:Bytes} (hK:100000<K) (h:Sm u):dG (aIP K u s) (fun v=>v=true→kd u (fnd u s)≠0):=by
 refine dG.of ?_
 unfold aIP
 refine bJ.dB (by decide) (lT (by omega) h) ?_
 rintro _ rfl
 refine bJ.dB (by decide) lU ?_
 rintro _ rfl
 refine bJ.ret (sE.l ?_)
 intro e
 simp only[aM,beq_iff_eq] at e
 omega
theorem aHR {K:Nat} {u:dD} {a b:Bytes} (hK:100000<K) (h:Sm u):dG (aLW K u a b) (fun _=>True):=by
 refine dG.of ?_
 unfold aLW
 refine bJ.jV (lT (by omega) (by assumption)) ?_
 refine bJ.jV (lU) ?_
 refine bJ.ite (fun e=>?_) (fun e=>?_)
 ·refine bJ.ret (sE.l ?_);trivial
 ·refine bJ.jV (lT (by omega) (by assumption)) ?_
  have hc:=n7 u (fnd u a)
  have hl:=h.len
  refine bJ.cF (fun _=>rA (by omega) h) (fun v1 hv1=>?_)
  refine bJ.cF (fun e2=>aAR (by omega) (by rw[hv1 e2];omega)) (fun v2 hv2=>?_)
  refine bJ.cF (fun _=>aHN (by omega) h) (fun v3 hv3=>?_)
  refine bJ.cF (fun e2=>aAR (by omega) (by rw[hv3 e2];exact aV (aE9 u _) (by omega))) (fun v4 hv4=>?_)
  refine bJ.ret (sE.l ?_);trivial
theorem aD4 {K:Nat} {u:dD} {a b:fP} (hK:100000<K) (h:Sm u):dG (aFQ K u a b) (fun _=>True):=by
 refine dG.of ?_
 unfold aFQ
 refine bJ.bM (bJ.bL (bJ.bM (bJ.ite (fun _=>bJ.ret (sE.r (bJ.ite (fun _=>bJ.ret (sE.l (sE.r ?_))) (fun _=>bJ.ite (fun _=>bJ.ret (sE.l (sE.r ?_))) (fun _=>bJ.ite (fun _=>?_) (fun _=>bJ.ret (sE.r (bJ.ret (sE.l ?_))))))))) (fun _=>bJ.ret (sE.r (bJ.ite (fun _=>bJ.ret (sE.l (sE.r ?_))) (fun _=>bJ.ite (fun _=>bJ.ret (sE.l (sE.r ?_))) (fun _=>bJ.ite (fun _=>?_) (fun _=>bJ.ret (sE.r (bJ.ret (sE.l ?_))))))))))))
 all_goals first
  | trivial
  | (refine bJ.cF (fun _=>aHR (by omega) h) (fun v1 hv1=>?_);refine bJ.bO (bJ.ret (sE.l (sE.r ?_)));trivial)
def ar (k:Int):Int:=if k<1∨k ≥ 15 then -1 else ([(-1),0,0,0,0,0,1,1,1,2,0,0,0,0,1]:List Int).getD k.toNat default
theorem aP1 {K:Nat} {k:Int}:dG (aNG K k) (fun v=>v=ar k):=by
 refine dG.of ?_
 unfold aNG ar
 refine bJ.bO (bJ.ite (fun e=>?_) (fun e=>?_))
 ·simp only[List.length_cons,List.length_nil,aM,aB,ge_iff_le,Int.ofNat_eq_natCast] at e
  refine bJ.ret (sE.l ?_)
  rw[aH (by omega)]
 ·simp only[List.length_cons,List.length_nil,aM,aB,not_or,ge_iff_le,Int.not_le,Int.not_lt,Int.ofNat_eq_natCast] at e
  refine bJ.bW (bV (by simp only[List.length_cons,List.length_nil];omega)) ?_
  refine bJ.cC (bJ.bO (bJ.ret (sE.l ?_)))
  rw[aG (by omega)]
theorem aP2 {K:Nat} {o:Int} {a b:fP}:dG (aLV K o a b) (fun _=>True):=by
 refine dG.of ?_
 unfold aLV
 refine bJ.bO (bJ.bM (bJ.bL (bJ.bO (bJ.ite (fun _=>bJ.ret (sE.l (sE.r ?_))) (fun _=>bJ.bO (bJ.ite (fun _=>bJ.ret (sE.l (sE.r ?_))) (fun _=>bJ.bO (bJ.ite (fun _=>bJ.ret (sE.l (sE.r ?_))) (fun _=>bJ.bO (bJ.ite (fun _=>bJ.ret (sE.l (sE.r ?_))) (fun _=>bJ.ret (sE.r (bJ.ret (sE.l ?_))))))))))))))
 all_goals trivial
theorem aHQ {K:Nat} {u:dD} {w:dX} {e:cM} (hK:40000000<K) (h:Sm u):dG (aL3 K u w e) (fun v=>v.2=0→0≤v.1∧v.1<u.bK.length):=by
 refine dG.of ?_
 unfold aL3
 refine bJ.jV (rA (by omega) (by assumption)) ?_
 refine bJ.eE (bJ.bL ?_) (fun _=>?_)
 ·refine bJ.ite (fun e1=>?_) (fun e1=>?_)
  ·refine bJ.call (aD6 (by omega) h) (fun r1 _=>?_)
   refine bJ.ite (fun e2=>?_) (fun e2=>bJ.bO (bJ.ite (fun e3=>?_) (fun e3=>?_)))
   ·refine bJ.ret (sE.l (sE.r ?_));intro h;cases h
   ·refine bJ.ret (sE.l (sE.r ?_));intro h;cases h
   ·refine bJ.call (aH4 (by omega) h) (fun v hv=>?_)
    refine bJ.ite (fun e4=>?_) (fun e4=>?_)
    ·refine bJ.ret (sE.l (sE.r ?_));intro h;cases h
    ·refine bJ.jV (lT (by omega) (by assumption)) ?_
     refine bJ.ret (sE.l (sE.r ?_))
     intro _
     exact lH (k:=kd u (fnd u r1.1.cI.cG)) rfl (hv (by simpa using e4))
  ·refine bJ.ite (fun e1=>?_) (fun e1=>?_)
   ·refine bJ.call aEl (fun v hv=>?_)
    refine bJ.ite (fun e4=>?_) (fun e4=>?_)
    ·refine bJ.ret (sE.l (sE.r ?_));intro h;cases h
    ·refine bJ.ret (sE.l (sE.r ?_))
     intro _
     exact (hv (by simpa using e4)).2.1
   ·refine bJ.ite (fun e1=>?_) (fun e1=>?_)
    ·refine bJ.call aEl (fun v hv=>?_)
     refine bJ.bO (bJ.ite (fun e4=>?_) (fun e4=>?_))
     ·refine bJ.ret (sE.l (sE.r ?_));intro h;cases h
     ·simp only[aM,not_or,aB,Int.ofNat_eq_natCast] at e4
      refine bJ.bW (bV (by omega)) ?_
      refine bJ.cC (bJ.ret (sE.l (sE.r ?_)))
      intro _
      exact oM (eA (by omega))
    ·refine bJ.ret (sE.r ?_)
     trivial
 ·refine bJ.ret (sE.l ?_);intro h;cases h
theorem cM.szq (e:cM):e.sz=1+cM.jF e.gD:=by cases e;rw[cM.sz]
theorem p7:∀ {l:List cM} {x:cM},x∈l→x.sz≤cM.jF l
 | y::r,x,h=>by
   rw[cM.jF]
   rcases bE.1 h with rfl | h
   ·omega
   ·have:=p7 h;omega
theorem aK0:∀ (l:List cM) (a b:Nat),cM.jF ((l.drop a).take b)≤cM.jF l:=by
 intro l a b
 have h1:=oF (l.take a) (l.drop a)
 rw[List.take_append_drop] at h1
 have h2:=oF ((l.drop a).take b) ((l.drop a).drop b)
 rw[List.take_append_drop] at h2
 omega
theorem T0 {p:Prop} (h:p:=by (repeat' (first | with_reducible refine bJ.bO ?_ | with_reducible refine bJ.bM ?_ | with_reducible refine bJ.bL ?_ | with_reducible refine bJ.dN ?_ | with_reducible refine bJ.ite (fun _=>?_) (fun _=>?_) | with_reducible refine bJ.cC ?_ | with_reducible refine bJ.bW rfl ?_ | with_reducible refine bJ.ret ?_ | with_reducible refine sE.l ?_ | with_reducible refine sE.r ?_ | with_reducible refine bJ.jV (lT (by omega) (by assumption)) ?_ | with_reducible refine bJ.jV lU ?_)) <;> first | trivial | (intro h;cases h;done)):p:=h
theorem ex7:∀ k:Nat,(∀ (u:dD) (w:dX) (e:cM),Sm u→e.sz≤7000→3 * e.sz+40000000<k→dG (aFV k u w e) (fun _=>True)) ∧
 (∀ (u:dD) (w:dX) (l:List cM),Sm u→cM.jF l≤7000→3 * cM.jF l+40000002<k→dG (aEH k u w l) (fun v=>v.2=0→v.1.length=l.length)) ∧
 (∀ (u:dD) (w:dX) (e:cM),Sm u→e.sz≤7000→3 * e.sz+40000001<k→dG (aCb k u w e) (fun _=>True)) ∧
 (∀ (u:dD) (w:dX) (e:cM) (x:fG),Sm u→e.sz≤7000→3 * e.sz+40000000<k→(e.bP=6→1≤e.gD.length)→dG (aIR k u w e x) (fun _=>True))
 | 0=>⟨fun _ _ _ _ _ h=>by omega,fun _ _ _ _ _ h=>by omega,fun _ _ _ _ _ h=>by omega,fun _ _ _ _ _ _ h=>by omega⟩
 | k+1=>by
   obtain ⟨ih1,ih2,ih3,ih4⟩:=ex7 k
   refine ⟨fun u w e h hz hk=>?_,fun u w l h hz hk=>?_,fun u w e h hz hk=>?_,fun u w e x h hz hk hx=>?_⟩
   ·refine dG.of ?_
    rw[aFV]
    have hs:=e.szq
    refine bJ.call (aHQ (by omega) h) (fun r1 hr1=>?_)
    refine bJ.ite (fun e1=>?_) (fun e1=>?_)
    ·exact T0
    refine bJ.jV (wY (by omega) (by assumption)) ?_
    refine bJ.ite (fun e2=>?_) (fun e2=>?_)
    ·exact T0
    have hw:=(aBq (u:=u) (d:=r1.1) (s:=e.wE) (by simpa using e2)).1
    refine bJ.call (aAL hw) ?_
    rintro _ rfl
    refine bJ.ite (fun e3=>?_) (fun e3=>?_)
    ·exact T0
    refine bJ.call (ih2 u w e.gD h (by omega) (by omega)) (fun r4 hr4=>?_)
    refine bJ.ite (fun e4=>?_) (fun e4=>bJ.bO (bJ.ite (fun e5=>?_) (fun e5=>?_)))
    ·exact T0
    ·exact T0
    have hl:=oE e.gD
    have h4:=hr4 (by simpa using e4)
    have h5:r4.1.length=(mof u (mth u r1.1 e.wE).1).cV.length:=by
     simp only[bne_iff_ne,ne_eq,Decidable.not_not,Int.ofNat_eq_natCast] at e5;omega
    refine bJ.eE (bJ.bL (bJ.dN ?_)) (fun _=>by exact T0)
    refine bJ.loop (fun t:Int=>0≤t∧t≤r4.1.length) (fun t=>(r4.1.length - t).toNat) ⟨by simp,by simp⟩ (by simp;omega) (fun t ⟨h1,h2⟩=>?_)
    simp (disch:=omega) only[wr,Int.ofNat_eq_natCast]
    refine bJ.bO (bJ.ite (fun e6=>?_) (fun e6=>?_))
    ·simp only[aB] at e6
     refine bJ.eE (bJ.bL (bJ.bW (bV (by omega)) (bJ.bW (bV (by omega)) (bJ.cC ?_)))) (fun _=>?_)
     ·refine bJ.dB (by decide) (aD4 (by omega) h) (fun _ _=>?_)
      exact T0
     ·refine bJ.ret (sE.r ?_)
      exact ⟨⟨by omega,by omega⟩,by omega⟩
    ·exact T0
   ·refine dG.of ?_
    rw[aEH]
    have hl:=oE l
    refine bJ.cN (fun o=>o.length=l.length) (bJ.bL (bJ.dN ?_)) ?_
    ·refine bJ.loop (fun t:List fP × Int=>0≤t.2∧t.2≤l.length∧(t.1.length:Int)=t.2) (fun t=>(l.length - t.2).toNat) ⟨by simp,by simp,by simp⟩ (by simp;omega) ?_
     rintro ⟨o,t⟩ ⟨g1,g2,g3⟩
     dsimp only at g1 g2 g3 ⊢
     simp (disch:=omega) only[wr,Int.ofNat_eq_natCast]
     refine bJ.bO (bJ.ite (fun e6=>?_) (fun e6=>?_))
     ·simp only[aB] at e6
      have hm:=p7 (eA (d:=default) (show t.toNat<l.length by omega))
      refine bJ.cN (fun o2=>(o2.length:Int)=t+1) (bJ.bL (bJ.bW (bV (by omega)) (bJ.cC ?_))) ?_
      ·refine bJ.call (ih3 u w _ h (by omega) (by omega)) (fun r _=>?_)
       refine bJ.ite (fun e7=>?_) (fun e7=>?_)
       ·refine bJ.ret (sE.l (sE.r (sE.r ?_)))
        intro h
        exact absurd h (by simpa using e7)
       ·refine bJ.bW (eB ?_) (bJ.cC ?_)
        ·show (o.length+1) * 40≤_
         omega
        ·refine bJ.ret (sE.r ?_)
         show ((o++[r.1]).length:Int)=t+1
         rw[aE,List.length_singleton];omega
      ·intro o2 h2
       refine bJ.ret (sE.r ?_)
       exact ⟨⟨by dsimp only;omega,by dsimp only;omega,h2⟩,by dsimp only;omega⟩
     ·simp only[aB] at e6
      refine bJ.ret (sE.l (sE.l ?_))
      show o.length=l.length
      omega
    ·intro o ho
     refine bJ.ret (sE.l ?_)
     exact fun _=>ho
   ·refine dG.of ?_
    rw[aCb]
    have hs:=e.szq
    refine bJ.call aAJ (fun _ _=>?_)
    refine bJ.ite (fun e1=>?_) (fun e1=>?_)
    ·exact T0
    refine bJ.ite (fun e2=>?_) (fun e2=>?_)
    ·refine bJ.call (ih1 u w e h (by omega) (by omega)) (fun _ _=>?_)
     exact T0
    refine bJ.call aP1 ?_
    rintro _ rfl
    refine bJ.bO (bJ.ite (fun e3=>?_) (fun e3=>?_))
    ·exact T0
    simp only[aM,not_or,aB,bne_iff_ne,ne_eq,Decidable.not_not,Int.ofNat_eq_natCast,Int.not_lt] at e3
    refine bJ.call (aD6 (by omega) h) (fun r6 _=>?_)
    refine bJ.eE (bJ.bL ?_) (fun _=>?_)
    ·have a0j:dG (aIR k u w e r6.1) (fun _=>True):=ih4 u w e r6.1 h (by omega) (by omega) (fun e6=>by
      have:ar e.bP=1:=by rw[e6];decide
      omega)
     have a0k:dG (aIP k u e.cG) (fun v=>v=true→kd u (fnd u e.cG)≠0):=aH4 (by omega) h
     refine bJ.ite (fun _=>bJ.ret (sE.l (sE.r ?_))) (fun _=>bJ.bM (bJ.ite (fun _=>bJ.ret (sE.r (bJ.ite (fun _=>bJ.ret (sE.l (sE.r ?_))) (fun _=>bJ.ite (fun _=>bJ.ret (sE.l (sE.r ?_))) (fun _=>bJ.bM (bJ.ite (fun _=>bJ.ret (sE.r (bJ.ite (fun _=>bJ.ite (fun _=>bJ.ret (sE.l (sE.r ?_))) (fun _=>?_)) (fun _=>bJ.ite (fun _=>?_) (fun _=>bJ.ret (sE.r ?_)))))) (fun _=>bJ.ite (fun _=>bJ.ret (sE.r (bJ.ite (fun _=>bJ.ite (fun _=>bJ.ret (sE.l (sE.r ?_))) (fun _=>?_)) (fun _=>bJ.ite (fun _=>?_) (fun _=>bJ.ret (sE.r ?_)))))) (fun _=>bJ.ite (fun _=>bJ.ret (sE.r (bJ.ite (fun _=>bJ.ite (fun _=>bJ.ret (sE.l (sE.r ?_))) (fun _=>?_)) (fun _=>bJ.ite (fun _=>?_) (fun _=>bJ.ret (sE.r ?_)))))) (fun _=>bJ.ite (fun _=>bJ.ret (sE.r (bJ.ite (fun _=>bJ.ite (fun _=>bJ.ret (sE.l (sE.r ?_))) (fun _=>?_)) (fun _=>bJ.ite (fun _=>?_) (fun _=>bJ.ret (sE.r ?_)))))) (fun _=>bJ.ret (sE.r (bJ.ite (fun _=>bJ.ite (fun _=>bJ.ret (sE.l (sE.r ?_))) (fun _=>?_)) (fun _=>bJ.ite (fun _=>?_) (fun _=>bJ.ret (sE.r ?_))))))))))))))) (fun _=>bJ.ret (sE.r (bJ.ite (fun _=>bJ.ret (sE.l (sE.r ?_))) (fun _=>bJ.ite (fun _=>bJ.ret (sE.l (sE.r ?_))) (fun _=>bJ.bM (bJ.ite (fun _=>bJ.ret (sE.r (bJ.ite (fun _=>bJ.ite (fun _=>bJ.ret (sE.l (sE.r ?_))) (fun _=>?_)) (fun _=>bJ.ite (fun _=>?_) (fun _=>bJ.ret (sE.r ?_)))))) (fun _=>bJ.ite (fun _=>bJ.ret (sE.r (bJ.ite (fun _=>bJ.ite (fun _=>bJ.ret (sE.l (sE.r ?_))) (fun _=>?_)) (fun _=>bJ.ite (fun _=>?_) (fun _=>bJ.ret (sE.r ?_)))))) (fun _=>bJ.ite (fun _=>bJ.ret (sE.r (bJ.ite (fun _=>bJ.ite (fun _=>bJ.ret (sE.l (sE.r ?_))) (fun _=>?_)) (fun _=>bJ.ite (fun _=>?_) (fun _=>bJ.ret (sE.r ?_)))))) (fun _=>bJ.ite (fun _=>bJ.ret (sE.r (bJ.ite (fun _=>bJ.ite (fun _=>bJ.ret (sE.l (sE.r ?_))) (fun _=>?_)) (fun _=>bJ.ite (fun _=>?_) (fun _=>bJ.ret (sE.r ?_)))))) (fun _=>bJ.ret (sE.r (bJ.ite (fun _=>bJ.ite (fun _=>bJ.ret (sE.l (sE.r ?_))) (fun _=>?_)) (fun _=>bJ.ite (fun _=>?_) (fun _=>bJ.ret (sE.r ?_)))))))))))))))))
     all_goals first
      | trivial
      | (refine bJ.call a0j (fun _ _=>?_);exact T0)
      | (refine bJ.call a0k (fun _ _=>?_);exact T0)
    refine bJ.bW ?_ (bJ.cC ?_)
    ·simp only[c9,aC,aB];omega
    have hsub:=aK0 e.gD (0:Int).toNat ((ar e.bP).toNat - (0:Int).toNat)
    refine bJ.call (ih2 u w _ h (by omega) (by omega)) (fun mN hr=>?_)
    refine bJ.ite (fun e4=>?_) (fun e4=>?_)
    ·exact T0
    have hr':=hr (by simpa using e4)
    have hl:(mN.1.length:Int)=ar e.bP:=by
     rw[hr',aR,bI];omega
    have k7:e.bP=7→(mN.1.length:Int)=1:=fun q=>by rw[hl,q];decide
    have k8:e.bP=8→(mN.1.length:Int)=1:=fun q=>by rw[hl,q];decide
    have k9:e.bP=9→(mN.1.length:Int)=2:=fun q=>by rw[hl,q];decide
    have k14:e.bP=14→(mN.1.length:Int)=1:=fun q=>by rw[hl,q];decide
    refine bJ.eE (bJ.bL ?_) (fun _=>by exact T0)
    refine bJ.bW ?_ (bJ.bW ?_ (bJ.cC (bJ.bO (bJ.ite (fun e5=>?_) (fun e5=>?_)))))
    ·by_cases q:e.bP=7
     ·rw[bV (by have:=k7 q;omega)];simp
     ·rw[beq_eq_false_iff_ne.2 q];rfl
    ·by_cases q:e.bP=8
     ·rw[bV (by have:=k8 q;omega)];simp
     ·rw[beq_eq_false_iff_ne.2 q];rfl
    ·simp only[aM,aC,beq_iff_eq] at e5
     refine bJ.bW (bV ?_) (by exact T0)
     rcases e5 with q | q
     ·have:=k7 q.1;omega
     ·have:=k8 q.1;omega
    ·refine bJ.ite (fun e6=>?_) (fun e6=>?_)
     ·have:=k9 (beq_iff_eq.1 e6)
      refine bJ.bW (bV (by omega)) (bJ.bW (bV (by omega)) (bJ.cC ?_))
      refine bJ.call aP2 (fun _ _=>?_)
      exact T0
     ·refine bJ.bW ?_ (by exact T0)
      by_cases q:e.bP=14
      ·rw[bV (by have:=k14 q;omega)];simp
      ·rw[beq_eq_false_iff_ne.2 q];rfl
   ·refine dG.of ?_
    rw[aIR]
    have hs:=e.szq
    refine bJ.eE (bJ.bL ?_) (fun _=>by exact T0)
    refine bJ.ite (fun e1=>?_) (fun e1=>?_)
    ·exact T0
    refine bJ.ite (fun e1=>?_) (fun e1=>?_)
    ·have h1:=hx (beq_iff_eq.1 e1)
     refine bJ.ite (fun e2=>?_) (fun e2=>?_)
     ·exact T0
     ·have hm:=p7 (eA (d:=default) (show (0:Int).toNat<e.gD.length by simp;omega))
      refine bJ.bW (bV (by omega)) (bJ.cC ?_)
      refine bJ.call (ih3 u w _ h (by omega) (by omega)) (fun _ _=>?_)
      exact T0
    ·exact T0
theorem aD3 {K:Nat} {u:dD} {w:dX} {e:cM} (hK:40100000<K) (he:e.sz≤6004) (h:Sm u):dG (aCb K u w e) (fun _=>True):=(ex7 K).2.2.1 u w e h (by omega) (by omega)
theorem aPn {K:Nat} {u:dD} {w:dX} {l:List cM} (hK:40100000<K) (he:cM.jF l≤6004) (h:Sm u):dG (aEH K u w l) (fun v=>v.2=0→v.1.length=l.length):=(ex7 K).2.1 u w l h (by omega) (by omega)
theorem aPm {K:Nat} {u:dD} {w:dX} {e:cM} (hK:40100000<K) (he:e.sz≤6004) (h:Sm u):dG (aFV K u w e) (fun _=>True):=(ex7 K).1 u w e h (by omega) (by omega)
end Go.Proofs.YtdbfbedholdjaaaGreat
