/- No conditions. -/
import Derived.Test.YtdbfbedholdjaaaGreatGUG
set_option linter.unusedVariables false
set_option linter.unusedSimpArgs false
set_option linter.unusedSectionVars false
namespace Go.Proofs.YtdbfbedholdjaaaGreat
open Go Go.Dl
variable [dK]
set_option maxRecDepth 100000
set_option maxHeartbeats 8000000
theorem tl {A T:Type} {p:A→Prop} {q:T→Prop} {a:A} (h:p a):bL (some (Sum.inl a)) (sE p q):=bL.ret h
theorem tr {A T:Type} {p:A→Prop} {q:T→Prop} {a:T} (h:q a):bL (some (Sum.inr a)) (sE p q):=bL.ret h
theorem bL.upN {A T:Type} {K:Nat} {f:T→Option (A ⊕ T)} {t0:T} {p:A→Prop} (n:Nat) (I:Nat→T→Prop) (h0:I 0 t0) (hK:n<K) (hs:∀ i,i<n→∀ t,I i t→bL (f t) (sE p (fun t'=>I (i+1) t'))) (he:∀ t,I n t→bL (f t) (sE p (fun _=>False))):bL (iter K f t0) p:=by
 have key:∀ (k K i:Nat) (t:T),k<K→i+k=n→I i t→bL (iter K f t) p:=by
  intro k
  induction k with
  | zero =>
    intro K i t hK e hi
    obtain ⟨K,rfl⟩:∃ m,K=m+1:=⟨K - 1,by omega⟩
    have e:i=n:=by omega
    subst e
    obtain ⟨z,hz,hq⟩:=he t hi
    rw[iter,hz]
    cases z with
    | inl a=>exact ⟨a,rfl,hq⟩
    | inr t=>exact hq.elim
  | succ k ih =>
    intro K i t hK e hi
    obtain ⟨K,rfl⟩:∃ m,K=m+1:=⟨K - 1,by omega⟩
    obtain ⟨z,hz,hq⟩:=hs i (by omega) t hi
    rw[iter,hz]
    cases z with
    | inl a=>exact ⟨a,rfl,hq⟩
    | inr t'=>exact ih K (i+1) t' (by omega) (by omega) hq
 exact key n K 0 t0 hK (by omega) h0
def ini (x:fE):Int:=if x.cO.bR=4∨x.cO.bR=5 then 0 else x.dU
def inits (l:List fE):List Int:=l.flatMap fun x=>List.replicate (rn x.cO) (ini x)
theorem aD3 (a b:List fE):inits (a++b)=inits a++inits b:=by unfold inits;rw[List.flatMap_append]
theorem qD:∀ l:List fE,(inits l).length=jT l
 | []=>rfl
 | x::r=>by
   have:=qD r
   unfold inits at *
   rw[List.flatMap_cons,aD,List.length_replicate,this,jT]
theorem aM1 {K:Nat} {l:List fE} (hK:100000<K) (hl:l.length≤1000):cR (F38 K l) (fun v=>v=inits l):=by
 refine cR.of ?_
 unfold F38
 refine bL.bZ (fun v:List Int=>v=inits l) (bL.bN (bL.c7 ?_)) (fun v hv=>tl hv)
 refine bL.upN l.length (fun i (t:List Int × Int)=>t=(inits (l.take i),(i:Int))) rfl (by omega) ?_ ?_
 ·rintro i hi _ rfl
  have hrs:=mL (l.take i)
  have hil:=qD (l.take i)
  rw[aS] at hrs
  dsimp only
  refine bL.bO (bL.dV (by simpa using hi) ?_)
  have kU:inits (l.take (i+1))=inits (l.take i)++List.replicate (rn (l.getD i default).cO) (ini (l.getD i default)):=by
   rw[eP default hi,aD3];simp [inits]
  rw[Int.toNat_natCast]
  generalize l.getD i default=x at kU
  have hr:=aCb x.cO
  refine bL.bZ (fun v:List Int=>v=inits (l.take (i+1))) (bL.bN (bL.bW (bT (by omega)) (bL.bX (bL.call aBf ?_)))) (fun v hv=>by rw[wr (by omega) (by omega),hv];exact tr rfl)
  rintro _ rfl
  rw[aJA]
  refine bL.bZ (fun v:List Int=>v=inits (l.take (i+1))) (bL.bN (bL.c7 ?_)) (fun v hv=>tr hv)
  refine bL.upN (rn x.cO) (fun j (t:List Int × Int)=>t=(inits (l.take i)++List.replicate j (ini x),(j:Int))) (by simp) (by omega) ?_ ?_
  ·rintro j hj _ rfl
   dsimp only
   refine bL.bO (bL.dV (by simpa using hj) ?_)
   refine bL.bZ (fun v:List Int=>v=inits (l.take i)++List.replicate (j+1) (ini x)) (bL.bN (bL.bO (bL.bZ (fun z:Int=>z=ini x) ?_ (fun z hz=>bL.bW (cP ?_) (bL.bX ?_))))) (fun v hv=>by rw[wr (by omega) (by omega),hv];exact tr rfl)
   ·unfold ini
    refine bL.ite (fun e=>?_) (fun e=>?_)
    ·simp only[aO,beq_iff_eq] at e
     rw[aH e];exact tr rfl
    ·simp only[aO,beq_iff_eq] at e
     rw[aF e];exact tr rfl
   ·rw[aD,List.length_replicate,List.length_singleton];omega
   ·rw[hz,List.replicate_succ',List.append_assoc];exact tr rfl
  ·rintro _ rfl
   refine bL.bO (bL.dN (by simp) (tl ?_))
   exact kU.symm
 ·rintro _ rfl
  refine bL.bO (bL.dN (by simp) (tl ?_))
  show inits (l.take l.length)=inits l
  rw[List.take_length]
theorem aRi {K:Nat} {l:List fE} (hK:100000<K) (hl:l.length≤1000):cR (aM2 K l) (fun v=>v=inits l):=aM1 hK hl
def mws (D:gX) (d:Nat):List dR:=if D.bR=2 then ((List.range D.bQ.length).filter fun m=>!(D.bQ.getD m default).eQ).map fun m:Nat=>(⟨(d:Int),(m:Int)⟩:dR) else []
def pws (D:gX) (d:Nat):List dR:=if D.bR=3 then [⟨(d:Int),-1⟩] else []
def mcs (u:cM) (n:Nat):List dR:=(List.range n).flatMap fun d=>mws (u.bM.getD d default) d
def pcs (u:cM) (n:Nat):List dR:=(List.range n).flatMap fun d=>pws (u.bM.getD d default) d
def iW (u:cM):List dR:=mcs u u.bM.length++pcs u u.bM.length
theorem s9 (u:cM) (n:Nat):mcs u (n+1)=mcs u n++mws (u.bM.getD n default) n:=by
 unfold mcs;rw[List.range_succ,List.flatMap_append];simp
theorem tA (u:cM) (n:Nat):pcs u (n+1)=pcs u n++pws (u.bM.getD n default) n:=by
 unfold pcs;rw[List.range_succ,List.flatMap_append];simp
theorem aRj (D:gX) (d:Nat):(mws D d).length≤D.bQ.length:=by
 unfold mws
 split
 ·rw[aW]
  exact aR (List.length_filter_le ..) (by rw[List.length_range];exact aJ _)
 ·simp
theorem aBg {u:cM} (hw:Wf u):∀ n:Nat,(mcs u n).length≤6 * n
 | 0=>by simp [mcs]
 | n+1=>by
   have:=aBg hw n
   have h2:=aRj (u.bM.getD n default) n
   have h3:=(hw.sz (n:Int)).m
   rw[dc,Int.toNat_natCast] at h3
   rw[s9,aD];omega
theorem aBh (u:cM):∀ n:Nat,(pcs u n).length≤n
 | 0=>by simp [pcs]
 | n+1=>by
   have:=aBh u n
   have h2:(pws (u.bM.getD n default) n).length≤1:=by unfold pws;split <;> simp
   rw[tA,aD];omega
theorem uB {u:cM} (hw:Wf u):(iW u).length≤84:=by
 have h1:=aBg hw u.bM.length
 have h2:=aBh u u.bM.length
 have h3:=hw.len'
 unfold iW;rw[aD];omega
theorem aM4 {K:Nat} {u:cM} (hK:100000<K) (hw:Wf u):cR (F43 K u) (fun v=>v=iW u):=by
 have hl:=hw.len'
 refine cR.of ?_
 unfold F43
 refine bL.bZ (fun v:List dR × List dR=>v=(mcs u u.bM.length,pcs u u.bM.length)) (bL.bN (bL.c7 ?_)) ?_
 ·refine bL.upN u.bM.length (fun i (t:List dR × List dR × Int)=>t=(mcs u i,pcs u i,(i:Int))) rfl (by omega) ?_ ?_
  ·rintro i hi _ rfl
   have h1:=aBg hw i
   have h2:=aBh u i
   have hm:=(hw.sz (i:Int)).m
   rw[dc,Int.toNat_natCast] at hm
   have hs:=s9 u i
   have hp:=tA u i
   dsimp only
   refine bL.bO (bL.dV (by simpa using hi) ?_)
   rw[Int.toNat_natCast]
   generalize u.bM.getD i default=D at hm hs hp
   refine bL.bZ (fun v:List dR × List dR=>v=(mcs u (i+1),pcs u (i+1))) (bL.bN (bL.bW (bT (by omega)) (bL.bX (bL.bO ?_)))) (fun v hv=>by rw[wr (by omega) (by omega),hv];exact tr rfl)
   refine bL.bZ (fun v:List dR × List dR=>v=(mcs u (i+1),pcs u (i+1))) (bL.bN ?_) (fun v hv=>tr hv)
   refine bL.ite (fun e=>?_) (fun e=>bL.ite (fun e2=>?_) (fun e2=>?_))
   ·have e:=beq_iff_eq.1 e
    have hp0:pws D i=[]:=by unfold pws;rw[aF (by omega)]
    refine bL.bO (bL.bO ?_)
    refine bL.bZ (fun v:List dR=>v=mcs u (i+1)) (bL.bN (bL.c7 ?_)) (fun v hv=>tr (by rw[hv,hp,hp0,List.append_nil]))
    refine bL.upN D.bQ.length (fun j (t:List dR × Int)=>t=(mcs u i++((List.range j).filter fun m=>!(D.bQ.getD m default).eQ).map fun m:Nat=>(⟨(i:Int),(m:Int)⟩:dR),(j:Int))) (by simp) (by omega) ?_ ?_
    ·rintro j hj _ rfl
     have hfl:((List.range j).filter fun m=>!(D.bQ.getD m default).eQ).length≤j:=aR (List.length_filter_le ..) (by rw[List.length_range];exact aJ _)
     dsimp only
     refine bL.dV (by simpa using hj) ?_
     refine bL.bZ (fun v:List dR=>v=mcs u i++((List.range (j+1)).filter fun m=>!(D.bQ.getD m default).eQ).map fun m:Nat=>(⟨(i:Int),(m:Int)⟩:dR)) (bL.bN (bL.bW (bT (by omega)) (bL.bX (bL.bO ?_)))) (fun v hv=>by rw[wr (by omega) (by omega),hv];exact tr rfl)
     rw[List.range_succ,List.filter_append,List.map_append,Int.toNat_natCast]
     refine bL.ite (fun e2=>?_) (fun e2=>?_)
     ·refine bL.bW (cP (by rw[aD,aW,List.length_singleton];omega)) (bL.bX (tr ?_))
      rw[List.append_assoc]
      simp only[List.filter_cons,e2,if_true,List.filter_nil,List.map_cons,List.map_nil]
     ·refine tr ?_
      simp only[List.filter_cons,e2,List.filter_nil,List.map_nil,List.append_nil,aQ,if_false]
    ·rintro _ rfl
     refine bL.dN (by simp) (tl ?_)
     show _=_
     rw[hs,mws,aH e]
   ·have e2:=beq_iff_eq.1 e2
    refine bL.bW (cP (by rw[List.length_singleton];omega)) (bL.bX (tr ?_))
    rw[hs,hp,mws,pws,aF (by omega),aH e2,List.append_nil]
   ·simp only[beq_iff_eq] at e e2
    refine tr ?_
    rw[hs,hp,mws,pws,aF e,aF e2,List.append_nil,List.append_nil]
  ·rintro _ rfl
   exact bL.bO (bL.dN (by simp) (tl rfl))
 ·rintro _ rfl
  have h1:=aBg hw u.bM.length
  have h2:=aBh u u.bM.length
  exact bL.bW (cP (by dsimp only;omega)) (bL.bX (tl rfl))
def isW (w x:dR):Bool:=((w.c6:Int) == x.c6) && ((w.dJ == x.dJ) && true)
def vU (u:cM) (w:dR):Int:=ix (isW w) (iW u)
theorem aU4 {K:Nat} {l:List dR} {w:dR} (hK:100000<K) (hl:l.length≤1000):cR (F57 K l w) (fun v=>v=ix (isW w) l):=by
 refine cR.of ?_
 unfold F57
 refine bL.bZ (fun _=>ix (isW w) l = -1) (bL.bN (bL.c7 ?_)) (fun _ h=>tl h.symm)
 refine bL.upI l.length (fun i=>isW w (l.getD i default)=false) (by omega) (fun i hi hb=>?_) (fun hb=>?_)
 ·refine bL.bO (bL.dV (by simpa using hi) ?_)
  refine bL.bZ (fun _=>isW w (l.getD i default)=false) (bL.bN (bL.bW (bT (by omega)) (bL.bX (bL.bO ?_)))) (fun _ h=>by rw[wr (by omega) (by omega)];exact tr ⟨rfl,h⟩)
  rw[Int.toNat_natCast]
  refine bL.ite (fun e=>?_) (fun e=>?_)
  ·exact tl (aD4 (z:=default) hi hb e).symm
  ·exact tr (Bool.eq_false_iff.2 e)
 ·exact bL.bO (bL.dN (by simp) (tl (aGo (z:=default) hb)))
theorem aET {K:Nat} {u:cM} {w:dR} (hK:100000<K) (hw:Wf u):cR (F19 K u w) (fun v=>v=vU u w):=by
 have hl:=uB hw
 refine cR.of ?_
 unfold F19
 refine bL.call (aM4 hK hw) ?_
 rintro _ rfl
 refine bL.cJ (by decide) (aU4 hK (by omega)) ?_
 rintro _ rfl
 exact tl rfl
end Go.Proofs.YtdbfbedholdjaaaGreat

namespace Go.Proofs.YtdbfbedholdjaaaGreat
open Go Go.Dl
variable [dK]
set_option maxRecDepth 100000
set_option maxHeartbeats 8000000
def prs (u:cM) (n:Nat):List Int:=(List.range n).flatMap fun d=>if (u.bM.getD d default).bR=3 then [(d:Int)] else []
theorem oE (u:cM) (n:Nat):prs u (n+1)=prs u n++(if (u.bM.getD n default).bR=3 then [(n:Int)] else []):=by
 unfold prs;rw[List.range_succ,List.flatMap_append];simp
theorem aBi (u:cM):∀ n:Nat,(prs u n).length≤n
 | 0=>by simp [prs]
 | n+1=>by
   have:=aBi u n
   rw[oE,aD]
   split
   ·simp only[List.length_singleton];omega
   ·simp only[List.length_nil];omega
theorem tB {u:cM}:∀ (n:Nat) {x:Int},x∈prs u n→0≤x∧x<n
 | 0,x,h=>by cases h
 | n+1,x,h=>by
   rw[oE] at h
   rcases aX.1 h with h | h
   ·have:=tB n h;omega
   ·split at h
    ·rw[aL.1 h];omega
    ·cases h
theorem aM5 {K:Nat} {u:cM} (hK:100000<K) (hw:Wf u):cR (F55 K u) (fun v=>v=prs u u.bM.length):=by
 have hl:=hw.len'
 refine cR.of ?_
 unfold F55
 refine bL.bZ (fun v:List Int=>v=prs u u.bM.length) (bL.bN (bL.c7 ?_)) (fun v hv=>tl hv)
 refine bL.upN u.bM.length (fun i (t:List Int × Int)=>t=(prs u i,(i:Int))) rfl (by omega) ?_ ?_
 ·rintro i hi _ rfl
  have h1:=aBi u i
  have hs:=oE u i
  have hkd:=aCe (u:=u) (d:=i) ⟨by omega,by omega⟩
  rw[dc,Int.toNat_natCast] at hkd
  dsimp only
  refine bL.bO (bL.dV (by simpa using hi) ?_)
  refine bL.bZ (fun v:List Int=>v=prs u (i+1)) (bL.bN (bL.call (uC (by decide)) ?_)) (fun v hv=>by rw[wr (by omega) (by omega),hv];exact tr rfl)
  rintro _ rfl
  rw[hs]
  refine bL.ite (fun e=>?_) (fun e=>?_)
  ·simp only[beq_iff_eq] at e
   rw[aH (by omega)]
   exact bL.bW (cP (by rw[List.length_singleton];omega)) (bL.bX (tr rfl))
  ·simp only[beq_iff_eq] at e
   rw[aF (by omega),List.append_nil]
   exact tr rfl
 ·rintro _ rfl
  exact bL.bO (bL.dN (by simp) (tl rfl))
def kN (u:cM) (d:Int):List Int→Nat
 | []=>0
 | x::r=>(if x<d then jT (dc u x).cH else 0)+kN u d r
theorem xO (u:cM) (d:Int):∀ a b:List Int,kN u d (a++b)=kN u d a+kN u d b
 | [],b=>by simp [kN]
 | x::a,b=>by rw[List.cons_append,kN,kN,xO u d a b];omega
theorem aJF {u:cM} (hw:Wf u) (d:Int):∀ l:List Int,kN u d l≤80000 * l.length
 | []=>by simp [kN]
 | x::r=>by
   have h1:=aJF hw d r
   have h2:=mL (dc u x).cH
   have h3:=(hw.sz x).v
   rw[kN,List.length_cons]
   split <;> omega
def glb (u:cM) (d:Int) (s:Bytes):Int :=
 if kd u d=3∧0≤plc (dc u d).cH s 0 then plc (dc u d).cH s 0+kN u d (prs u u.bM.length) else -1
theorem aNc {s:Bytes}:∀ (l:List fE) (a:Int),0≤a→plc l s a≤a+10000 * l.length
 | [],a,h=>by simp [plc];omega
 | x::r,a,h=>by
   have:=aCb x.cO
   have h2:=aNc (s:=s) r (a+rn x.cO) (by omega)
   rw[plc,List.length_cons]
   split <;> omega
theorem aIg {K:Nat} {u:cM} {d:Int} {s:Bytes} (hK:100000<K) (h:Sm u) (hw:Wf u):cR (F17 K u d s) (fun v=>v=glb u d s):=by
 refine cR.of ?_
 unfold F17
 refine bL.call (uC (by decide)) ?_
 rintro _ rfl
 refine bL.ite (fun e=>tl ?_) (fun e=>?_)
 ·simp only[aP,beq_eq_false_iff_ne,ne_eq] at e
  rw[glb,aF (fun q=>e q.1)]
 simp only[aP,Bool.not_eq_false,beq_iff_eq] at e
 have hd:=gA e (by decide)
 have hv:=(hw.sz d).v
 have hl:=hw.len'
 refine bL.bW (bT hd) (bL.bX (bL.bO ?_))
 refine bL.call (aJG hK (show (dc u d).cH.length≤_ by omega)) ?_
 rintro _ rfl
 have hpl:=aNc (s:=s) (dc u d).cH 0 (by omega)
 change bL (if decide (plc (dc u d).cH s 0<0)=true then _ else _) _
 refine bL.ite (fun e2=>tl ?_) (fun e2=>?_)
 ·simp only[aB] at e2
  rw[glb,aF (fun q=>by omega)]
 simp only[aB] at e2
 rw[show glb u d s=plc (dc u d).cH s 0+kN u d (prs u u.bM.length) from by rw[glb,aH ⟨e,by omega⟩]]
 change bL ((bV (F55 K u)).bind _) _
 refine bL.call (aM5 hK hw) ?_
 rintro _ rfl
 have hpi:∀ x∈prs u u.bM.length,0≤x∧x<u.bM.length:=fun x hx=>tB _ hx
 have hpn:=aBi u u.bM.length
 generalize prs u u.bM.length=r at hpi hpn
 change bL (bP (bN ((iter K _ (plc (dc u d).cH s 0,0)).map .inl)) _) _
 generalize plc (dc u d).cH s 0=p at hpl e2
 refine bL.bZ (fun v:Int=>v=p+kN u d r) (bL.bN (bL.c7 ?_)) (fun v hv=>tl hv)
 refine bL.upN r.length (fun i (t:Int × Int)=>t=(p+kN u d (r.take i),(i:Int))) (by simp [kN]) (by omega) ?_ ?_
 ·rintro i hi _ rfl
  have hgs:=aJF hw d (r.take i)
  rw[aS] at hgs
  have kU:kN u d (r.take (i+1))=kN u d (r.take i)+(if r.getD i default<d then jT (dc u (r.getD i default)).cH else 0):=by
   rw[eP default hi,xO];simp [kN]
  have hx:=hpi _ (c9 (d:=default) hi)
  dsimp only
  refine bL.bO (bL.dV (by simpa using hi) ?_)
  rw[Int.toNat_natCast]
  generalize r.getD i default=x at kU hx
  have hxv:=(hw.sz x).v
  have hrs:=mL (dc u x).cH
  refine bL.bZ (fun v:Int=>v=p+kN u d (r.take (i+1))) (bL.bN (bL.bW (bT (by omega)) (bL.bX (bL.bO ?_)))) (fun v hv=>by rw[wr (by omega) (by omega),hv];exact tr rfl)
  refine bL.ite (fun e3=>?_) (fun e3=>?_)
  ·simp only[aB] at e3
   rw[aH e3] at kU
   refine bL.bW (bT hx) (bL.bX (bL.bO ?_))
   refine bL.call (lU hK (show (dc u x).cH.length≤_ by omega)) ?_
   rintro _ rfl
   have hll:=lG (dc u x).cH
   refine bL.bO (tr ?_)
   change IntKind.i64.wrap (p+kN u d (r.take i)+((eL (dc u x).cH).length:Int))=_
   rw[wr (by omega) (by omega)];omega
  ·simp only[aB] at e3
   rw[aF e3] at kU
   refine tr ?_
   omega
 ·rintro _ rfl
  refine bL.bO (bL.dN (by simp) (tl ?_))
  show p+_=_
  rw[List.take_length]
def oF (u:cM) (w:dR):uF:=if w.dJ<0 then ⟨-1,[],[],false,0,[]⟩ else ⟨num u w.c6 2,eL (sC u w).cN,eL (sC u w).cH,(sC u w).eY.bR != 0,0,[]⟩
theorem aVf {K:Nat} {u:cM} {w:dR} (hK:100000<K) (h:Sm u) (hw:Wf u) (hc:Cd u w):cR (F44 K u w) (fun v=>v=oF u w):=by
 refine cR.of ?_
 unfold F44 oF
 refine bL.ite (fun e=>?_) (fun e=>?_)
 ·simp only[aB] at e
  rw[aH e];exact tl rfl
 simp only[aB] at e
 rw[aF e]
 have hv:Vw u w:=by
  rcases hc with hc | hc
  ·exact absurd hc e
  ·exact hc
 have hmp:=(hw.sz w.c6).p _ (c9 (d:=default) (show w.dJ.toNat<(dc u w.c6).bQ.length by have:=hv.2;omega))
 refine bL.bW (bT hv.1) (bL.bW (bT hv.2) (bL.bX (bL.bO (bL.bO (bL.bO ?_)))))
 refine bL.cJ (by decide) (uG hK h) ?_
 rintro _ rfl
 refine bL.cJ (by decide) (lU hK (show (sC u w).cN.length≤_ from aR hmp.1 (by decide))) ?_
 rintro _ rfl
 refine bL.cJ (by decide) (lU hK (show (sC u w).cH.length≤_ from aR hmp.2 (by decide))) ?_
 rintro _ rfl
 exact tl rfl
theorem aVh {K:Nat} {u:cM} {d:Int} {s:Bytes} (hK:100000<K) (h:Sm u) (hw:Wf u):cR (F90 K u d s) (fun v=>v=if (nM u d s).2=true then vU u (nM u d s).1 else -1):=by
 refine cR.of ?_
 unfold F90
 refine bL.call (aBk hK h) ?_
 rintro _ rfl
 refine bL.ite (fun e=>?_) (fun e=>?_)
 ·rw[aF (by simpa using e)];exact tl rfl
 ·rw[aH (by simpa using e)]
  refine bL.call (aET hK hw) ?_
  rintro _ rfl
  exact tl rfl
theorem aRq {K:Nat} {u:cM} {d:Int} (hK:100000<K) (h:Sm u) (hw:Wf u):cR (aIh K u d) (fun v=>v=lH u d):=by
 have hc:=hw.chain d
 have hl:=hw.len'
 refine cR.of ?_
 unfold aIh
 refine bL.call (qZ hK h) ?_
 rintro _ rfl
 have hfc:lH u d=(chain u d).foldl (fun out c=>(dc u c).cK.foldl (iA u) out) []:=rfl
 have hin:=fun x hx=>iJ (u:=u) (d:=d) (x:=x) hx
 generalize chain u d=r at hc hfc hin
 rw[hfc]
 have hds:∀ (l:List Int),Dis u (l.foldl (fun out c=>(dc u c).cK.foldl (iA u) out) []):=by
  intro l
  have:∀ (l:List Int) (out:List Int),Dis u out→Dis u (l.foldl (fun out c=>(dc u c).cK.foldl (iA u) out) out):=by
   intro l
   induction l with
   | nil=>exact fun _ h=>h
   | cons x l ih=>exact fun out h=>ih _ (uH _ h)
  exact this l [] (Dis.nil u)
 refine bL.bZ (fun v:List Int=>v=r.foldl (fun out c=>(dc u c).cK.foldl (iA u) out) []) (bL.bN (bL.c7 ?_)) (fun v hv=>tl hv)
 refine bL.upN r.length (fun i (t:List Int × Int)=>t=((r.take i).foldl (fun out c=>(dc u c).cK.foldl (iA u) out) [],(i:Int))) rfl (by omega) ?_ ?_
 ·rintro i hi _ rfl
  have kU:(r.take (i+1)).foldl (fun out c=>(dc u c).cK.foldl (iA u) out) []=(dc u (r.getD i default)).cK.foldl (iA u) ((r.take i).foldl (fun out c=>(dc u c).cK.foldl (iA u) out) []):=by
   rw[eP default hi,List.foldl_append];rfl
  have hx:=hin _ (c9 (d:=default) hi)
  have hd0:=hds (r.take i)
  dsimp only
  generalize (r.take i).foldl (fun out c=>(dc u c).cK.foldl (iA u) out) []=o at kU hd0
  refine bL.bO (bL.dV (by simpa using hi) ?_)
  rw[Int.toNat_natCast]
  generalize r.getD i default=x at kU hx
  have hfl:=(hw.sz x).f
  refine bL.bZ (fun v:List Int=>v=(r.take (i+1)).foldl (fun out c=>(dc u c).cK.foldl (iA u) out) []) (bL.bN (bL.bW (bT (by omega)) (bL.bX (bL.bW (bT hx) (bL.bX (bL.bO (bL.bO ?_))))))) (fun v hv=>by rw[wr (by omega) (by omega),hv];exact tr rfl)
  rw[kU]
  refine bL.bZ (fun v:List Int=>v=(dc u x).cK.foldl (iA u) o) (bL.bN (bL.c7 ?_)) (fun v hv=>tr hv)
  refine bL.upN (dc u x).cK.length (fun j (t:List Int × Int)=>t=(((dc u x).cK.take j).foldl (iA u) o,(j:Int))) rfl (by omega) ?_ ?_
  ·rintro j hj _ rfl
   have aRr:((dc u x).cK.take (j+1)).foldl (iA u) o=iA u (((dc u x).cK.take j).foldl (iA u) o) ((dc u x).cK.getD j default):=by
    rw[eP default hj,List.foldl_append];rfl
   have hd1:=(uH ((dc u x).cK.take j) hd0).len
   dsimp only
   generalize ((dc u x).cK.take j).foldl (iA u) o=q at aRr hd1
   refine bL.dV (by simpa using hj) ?_
   refine bL.bZ (fun v:List Int=>v=((dc u x).cK.take (j+1)).foldl (iA u) o) (bL.bN (bL.bW (bT (show 0≤(j:Int)∧(j:Int)<(dc u x).cK.length by omega)) (bL.bX (bL.call (q8 hK h) ?_)))) (fun v hv=>by rw[wr (by omega) (by omega),hv];exact tr rfl)
   rintro _ rfl
   rw[aRr,iA]
   refine bL.call xP ?_
   rintro _ rfl
   rw[Int.toNat_natCast]
   refine bL.dA (fun _=>aE0 hK (by omega)) (fun v hv=>?_)
   refine bL.ite (fun e=>?_) (fun e=>?_)
   ·simp only[aC,beq_iff_eq,aP] at e
    have hv:=hv (by simpa using e.1)
    rw[aH ⟨e.1,by rw[← hv];exact e.2⟩]
    exact bL.bW (cP (by rw[List.length_singleton];omega)) (bL.bX (tr rfl))
   ·rw[aF (fun ⟨c1,c2⟩=>by
     have hv:=hv (by simpa using c1)
     rw[c2] at hv
     exact e (by rw[hv];simpa using c1))]
    exact tr rfl
  ·rintro _ rfl
   refine bL.dN (by simp) (tl ?_)
   show ((dc u x).cK.take _).foldl (iA u) o=_
   rw[List.take_length]
 ·rintro _ rfl
  refine bL.bO (bL.dN (by simp) (tl ?_))
  show (r.take r.length).foldl _ []=_
  rw[List.take_length]
def sfs (u:cM) (d:Int):List Int:=(lH u d).mergeSort fun x y=>decide (x≤y)
theorem aVj {K:Nat} {l:List Int} (hl:l.length≤1000):cR (F89 K l) (fun v=>v=l.mergeSort fun x y=>decide (x≤y)):=by
 unfold F89
 rw[aH (by omega)]
 exact ⟨_,rfl,rfl⟩
end Go.Proofs.YtdbfbedholdjaaaGreat

namespace Go.Proofs.YtdbfbedholdjaaaGreat
open Go Go.Dl
variable [dK]
set_option maxRecDepth 100000
set_option maxHeartbeats 8000000
def aE1 (u:cM) (d:Int) (s:Bytes):Int:=if (nM u d s).2=true then vU u (nM u d s).1 else -1
def aGr (u:cM) (d f:Int):q9:=⟨num u f 1,(dc u f).bQ.map fun m=>aE1 u d m.cD⟩
def desc (u:cM) (d:Int):S56 :=
 ⟨if 1<(chain u d).length then num u ((chain u d).getD 1 default) 2 else -1,eL (rS u d),inits (rS u d),(qY u d).map fun s=>vU u (nM u d s).1,(qY u d).map fun s=>lV (sC u (nM u d s).1),(sfs u d).map fun f=>aGr u d f⟩
theorem aVk {u:cM} {d:Int}:∀ x∈lH u d,0≤x∧x<u.bM.length:=by
 have key:∀ (l:List Bytes) (out:List Int),(∀ x∈out,0≤x∧x<u.bM.length)→∀ x∈l.foldl (iA u) out,0≤x∧x<u.bM.length:=by
  intro l
  induction l with
  | nil=>exact fun _ h=>h
  | cons s l ih =>
    refine fun out h=>ih _ ?_
    unfold iA
    split
    ·rename_i e
     intro x hx
     rcases aX.1 hx with hx | hx
     ·exact h x hx
     ·rw[aL.1 hx];exact gA e.1 (by decide)
    ·exact h
 have a2G:∀ (l:List Int) (out:List Int),(∀ x∈out,0≤x∧x<u.bM.length)→∀ x∈l.foldl (fun out c=>(dc u c).cK.foldl (iA u) out) out,0≤x∧x<u.bM.length:=by
  intro l
  induction l with
  | nil=>exact fun _ h=>h
  | cons s l ih=>exact fun out h=>ih _ (key _ _ h)
 exact a2G _ [] (fun x hx=>by cases hx)
theorem aNe {u:cM} {d:Int} {x:Int} (h:x∈sfs u d):0≤x∧x<u.bM.length:=aVk x (List.mem_mergeSort.1 h)
theorem aVl {K:Nat} {u:cM} {d:Int} (hK:100000<K) (h:Sm u) (hw:Wf u) (hk:kd u d=2):cR (F40 K u d) (fun v=>v=desc u d):=by
 have hch:=hw.chain d
 have hl:=hw.len'
 refine cR.of ?_
 unfold F40
 refine bL.call (xN hK h hw hk) ?_
 rintro _ ⟨rfl,hfl⟩
 refine bL.cJ (by decide) (lU hK (by omega)) ?_
 rintro _ rfl
 refine bL.call (xN hK h hw hk) ?_
 rintro _ ⟨rfl,_⟩
 refine bL.call (aM1 hK (by omega)) ?_
 rintro _ rfl
 refine bL.call (qZ hK h) ?_
 rintro _ rfl
 refine bL.bZ (fun v:Int=>v=if 1<(chain u d).length then num u ((chain u d).getD 1 default) 2 else -1) ?_ (fun b hb=>?_)
 ·refine bL.ite (fun e=>?_) (fun e=>?_)
  ·simp only[aB,Int.ofNat_eq_natCast] at e
   refine bL.bW (bT (by omega)) (bL.bX ?_)
   refine bL.cJ (by decide) (uG hK h) ?_
   rintro _ rfl
   rw[aH (by omega)];exact tr rfl
  ·simp only[aB,Int.ofNat_eq_natCast] at e
   rw[aF (by omega)];exact tr rfl
 refine bL.call (aJH hK h hw) ?_
 rintro _ ⟨rfl,hsl⟩
 refine bL.bZ (fun v:List Int × List Bytes=>v=((qY u d).map (fun s=>vU u (nM u d s).1),(qY u d).map (fun s=>lV (sC u (nM u d s).1)))) (bL.bN (bL.c7 ?_)) (fun v hv=>?_)
 ·refine bL.upN (qY u d).length (fun i (t:List Int × List Bytes × Int)=>t=(((qY u d).take i).map (fun s=>vU u (nM u d s).1),((qY u d).take i).map (fun s=>lV (sC u (nM u d s).1)),(i:Int))) rfl (by omega) ?_ ?_
  ·rintro n hn _ rfl
   have kU:(qY u d).take (n+1)=(qY u d).take n++[(qY u d).getD n default]:=eP default hn
   have hln:((qY u d).take n).length≤72:=by rw[aS];omega
   have hm:=oG (aBl hk (c9 (d:=default) hn))
   dsimp only
   refine bL.bO (bL.dV (by simpa using hn) ?_)
   rw[Int.toNat_natCast]
   generalize (qY u d).getD n default=s at kU hm
   have hmp:=(hw.sz (nM u d s).1.c6).p _ (c9 (d:=default) (show (nM u d s).1.dJ.toNat<(dc u (nM u d s).1.c6).bQ.length by have:=hm.1.2;omega))
   refine bL.bZ (fun v:List Int × List Bytes=>v=(((qY u d).take (n+1)).map (fun s=>vU u (nM u d s).1),((qY u d).take (n+1)).map (fun s=>lV (sC u (nM u d s).1)))) (bL.bN (bL.bW (bT (by omega)) (bL.bX (bL.call (aBk hK h) ?_)))) (fun v hv=>by rw[wr (by omega) (by omega),hv];exact tr rfl)
   rintro _ rfl
   refine bL.cJ (by decide) (aET hK hw) ?_
   rintro _ rfl
   refine bL.bW (cP (by rw[aW,List.length_singleton];omega)) (bL.bX (bL.bW (bT hm.1.1) (bL.bW (bT hm.1.2) (bL.bX ?_))))
   refine bL.cJ (by decide) (aBm (m:=sC u (nM u d s).1) hK (aR hmp.1 (by decide))) ?_
   rintro _ rfl
   refine bL.bW (cP (by rw[aW,List.length_singleton];omega)) (bL.bX (tr ?_))
   rw[kU,List.map_append,List.map_append];rfl
  ·rintro _ rfl
   refine bL.bO (bL.dN (by simp) (tl ?_))
   show (((qY u d).take (qY u d).length).map _,_)=_
   rw[List.take_length]
 subst hv
 refine bL.call (aRq hK h hw) ?_
 rintro _ rfl
 have a5o:=uD u d
 refine bL.call (show cR (F89 K (lH u d)) (fun v=>v=sfs u d) from aVj (by omega)) ?_
 rintro _ rfl
 refine bL.bW (decide_eq_true (by unfold sfs;exact (List.length_mergeSort ..).symm)) (bL.bX ?_)
 have a2I:(sfs u d).length≤12:=by unfold sfs;rw[List.length_mergeSort];omega
 have hin:=fun x (hx:x∈sfs u d)=>aNe hx
 refine bL.bZ (fun v:List q9=>v=(sfs u d).map fun f=>aGr u d f) (bL.bN (bL.c7 ?_)) (fun tb htb=>by rw[hb,htb];exact tl rfl)
 generalize sfs u d=nS at a2I hin
 refine bL.upN nS.length (fun i (t:List q9 × Int)=>t=((nS.take i).map (fun f=>aGr u d f),(i:Int))) rfl (by omega) ?_ ?_
 ·rintro n hn _ rfl
  have kU:nS.take (n+1)=nS.take n++[nS.getD n default]:=eP default hn
  have hln:(nS.take n).length≤12:=by rw[aS];omega
  have hx:=hin _ (c9 (d:=default) hn)
  dsimp only
  refine bL.bO (bL.dV (by simpa using hn) ?_)
  rw[Int.toNat_natCast]
  generalize nS.getD n default=f at kU hx
  have hfm:=(hw.sz f).m
  refine bL.bZ (fun v:List q9=>v=(nS.take (n+1)).map (fun f=>aGr u d f)) (bL.bN (bL.bW (bT (by omega)) (bL.bX (bL.call (aJI hK h) ?_)))) (fun v hv=>by rw[wr (by omega) (by omega),hv];exact tr rfl)
  rintro _ rfl
  refine bL.bW (bT hx) (bL.bX (bL.bO (bL.bO ?_)))
  refine bL.bZ (fun v:List Int=>v=(dc u f).bQ.map fun m=>aE1 u d m.cD) (bL.bN (bL.c7 ?_)) (fun sl hsl=>?_)
  ·refine bL.upN (dc u f).bQ.length (fun j (s:List Int × Int)=>s=(((dc u f).bQ.take j).map (fun m=>aE1 u d m.cD),(j:Int))) rfl (by omega) ?_ ?_
   ·rintro j hj _ rfl
    have aRr:(dc u f).bQ.take (j+1)=(dc u f).bQ.take j++[(dc u f).bQ.getD j default]:=eP default hj
    have hlj:((dc u f).bQ.take j).length≤6:=by rw[aS];omega
    dsimp only
    refine bL.dV (by simpa using hj) ?_
    refine bL.bZ (fun v:List Int=>v=((dc u f).bQ.take (j+1)).map (fun m=>aE1 u d m.cD)) (bL.bN (bL.bW (bT (show 0≤(j:Int)∧(j:Int)<(dc u f).bQ.length by omega)) (bL.bX (bL.bO ?_)))) (fun v hv=>by rw[wr (by omega) (by omega),hv];exact tr rfl)
    refine bL.cJ (by decide) (aVh hK h hw) ?_
    rintro _ rfl
    refine bL.bW (cP (by rw[aW,List.length_singleton];omega)) (bL.bX (tr ?_))
    rw[aRr,List.map_append,Int.toNat_natCast];rfl
   ·rintro _ rfl
    refine bL.dN (by simp) (tl ?_)
    show ((dc u f).bQ.take (dc u f).bQ.length).map _=_
    rw[List.take_length]
  ·refine bL.bW (cP (by rw[aW,List.length_singleton];omega)) (bL.bX (tr ?_))
   rw[kU,List.map_append,hsl];rfl
 ·rintro _ rfl
  refine bL.bO (bL.dN (by simp) (tl ?_))
  show (nS.take nS.length).map _=_
  rw[List.take_length]
end Go.Proofs.YtdbfbedholdjaaaGreat

namespace Go.Proofs.YtdbfbedholdjaaaGreat
open Go Go.Dl
variable [dK]
set_option maxRecDepth 100000
set_option maxHeartbeats 8000000
def lnk (u:cM) (d:Int) (x:fE):jU:=⟨glb u d x.cD,x.lW,(x.cO.bR:Int) == 2⟩
def uS (u:cM) (d:Int) (s:gK) (x:fE):gK :=
 if x.cO.bR=6 then ⟨s.cK,s.cS,s.dQ,s.eM++[num u (kY u x.cO.cD) 2],s.dS,s.dU,s.bY,s.iK,s.fJ,s.eV,s.fD,s.fW⟩
 else if x.cO.bR=7 then ⟨s.cK,s.cS,s.dQ,s.eM,s.dS,s.dU,s.bY++[x.cO.fLo],s.iK,s.fJ,s.eV,s.fD,s.fW⟩
 else if x.kO=1 then ⟨s.cK,s.cS,s.dQ,s.eM,s.dS,s.dU,s.bY,s.iK++[lnk u d x],s.fJ,s.eV,s.fD,s.fW⟩
 else if x.kO=2 then ⟨s.cK,s.cS,s.dQ,s.eM,s.dS,s.dU,s.bY,s.iK,s.fJ++[lnk u d x],s.eV,s.fD,s.fW⟩
 else s
theorem aVn {u:cM} {d:Int} {k:Nat} {s:gK} (h:Nt k s) (x:fE):Nt (k+1) (uS u d s x):=by
 obtain ⟨h1,h2,h3,h4⟩:=h
 unfold uS
 split
 ·exact ⟨by rw[aD,List.length_singleton];omega,by dsimp only;omega,by dsimp only;omega,by dsimp only;omega⟩
 split
 ·exact ⟨by dsimp only;omega,by rw[aD,List.length_singleton];omega,by dsimp only;omega,by dsimp only;omega⟩
 split
 ·exact ⟨by dsimp only;omega,by dsimp only;omega,by rw[aD,List.length_singleton];omega,by dsimp only;omega⟩
 split
 ·exact ⟨by dsimp only;omega,by dsimp only;omega,by dsimp only;omega,by rw[aD,List.length_singleton];omega⟩
 ·exact ⟨by omega,by omega,by omega,by omega⟩
theorem aE2 {u:cM} {d:Int}:∀ (l:List fE) {k:Nat} {s:gK},Nt k s→Nt (k+l.length) (l.foldl (uS u d) s)
 | [],_,_,h=>h
 | x::l,k,s,h=>by
   have:=aE2 (u:=u) (d:=d) l (aVn (u:=u) (d:=d) h x)
   rw[List.foldl_cons,List.length_cons]
   obtain ⟨h1,h2,h3,h4⟩:=this
   exact ⟨by omega,by omega,by omega,by omega⟩
theorem aVo {K:Nat} {u:cM} {d:Int} {s:gK} (hK:100000<K) (h:Sm u) (hw:Wf u) (hk:kd u d=3) (hs:Nt 1000 s):cR (F41 K u d s) (fun v=>v=(dc u d).cH.foldl (uS u d) s):=by
 have hd:=gA hk (by decide)
 have hvl:=(hw.sz d).v
 refine cR.of ?_
 unfold F41
 refine bL.bW (bT hd) (bL.bX (bL.bO (bL.bO ?_)))
 refine bL.bZ (fun v:gK=>v=(dc u d).cH.foldl (uS u d) s) (bL.bN (bL.c7 ?_)) (fun v hv=>tr hv)
 show bL (iter K _ (s,0)) _
 change (u.bM.getD d.toNat default).cH.length≤8 at hvl
 show bL _ (sE (fun v=>v=(u.bM.getD d.toNat default).cH.foldl (uS u d) s) _)
 generalize (u.bM.getD d.toNat default).cH=l at hvl
 refine bL.upN l.length (fun i (t:gK × Int)=>t=((l.take i).foldl (uS u d) s,(i:Int))) rfl (by omega) ?_ ?_
 ·rintro i hi _ rfl
  have kU:(l.take (i+1)).foldl (uS u d) s=uS u d ((l.take i).foldl (uS u d) s) (l.getD i default):=by
   rw[eP default hi,List.foldl_append];rfl
  have hnt:=aE2 (u:=u) (d:=d) (l.take i) hs
  rw[aS] at hnt
  dsimp only
  generalize (l.take i).foldl (uS u d) s=o at kU hnt
  obtain ⟨n1,n2,n3,n4⟩:=hnt
  refine bL.dV (by simpa using hi) ?_
  rw[Int.toNat_natCast]
  generalize l.getD i default=x at kU
  refine bL.bZ (fun v:gK=>v=(l.take (i+1)).foldl (uS u d) s) (bL.bN (bL.bW (bT (by omega)) (bL.bX (bL.cJ (by decide) (aIg hK h hw) ?_)))) (fun v hv=>by rw[wr (by omega) (by omega),hv];exact tr rfl)
  rintro _ rfl
  rw[kU]
  refine bL.bZ (fun v:gK=>v=uS u d o x) (bL.bN (bL.bO ?_)) (fun v hv=>tr hv)
  refine bL.ite (fun e1=>bL.bO ?_) (fun e1=>bL.bO ?_)
  ·have e1:=beq_iff_eq.1 e1
   refine bL.cJ (by decide) (q8 hK h) ?_
   rintro _ rfl
   refine bL.cJ (by decide) (uG hK h) ?_
   rintro _ rfl
   refine bL.bW (cP (by rw[List.length_singleton];omega)) (bL.bX (tr ?_))
   rw[uS,aH e1]
  have e1:¬ x.cO.bR=6:=fun q=>e1 (beq_iff_eq.2 q)
  refine bL.ite (fun e2=>bL.bO ?_) (fun e2=>bL.bO ?_)
  ·have e2:=beq_iff_eq.1 e2
   refine bL.bW (cP (by rw[List.length_singleton];omega)) (bL.bX (tr ?_))
   rw[uS,aF e1,aH e2]
  have e2:¬ x.cO.bR=7:=fun q=>e2 (beq_iff_eq.2 q)
  refine bL.ite (fun e3=>?_) (fun e3=>bL.bO ?_)
  ·have e3:=beq_iff_eq.1 e3
   refine bL.bW (cP (by rw[List.length_singleton];omega)) (bL.bX (tr ?_))
   rw[uS,aF e1,aF e2,aH e3];rfl
  have e3:¬ x.kO=1:=fun q=>e3 (beq_iff_eq.2 q)
  refine bL.ite (fun e4=>?_) (fun e4=>?_)
  ·have e4:=beq_iff_eq.1 e4
   refine bL.bW (cP (by rw[List.length_singleton];omega)) (bL.bX (tr ?_))
   rw[uS,aF e1,aF e2,aF e3,aH e4];rfl
  ·have e4:¬ x.kO=2:=fun q=>e4 (beq_iff_eq.2 q)
   refine tr ?_
   rw[uS,aF e1,aF e2,aF e3,aF e4]
 ·rintro _ rfl
  refine bL.dN (by simp) (tl ?_)
  show (l.take l.length).foldl _ s=_
  rw[List.take_length]
end Go.Proofs.YtdbfbedholdjaaaGreat

namespace Go.Proofs.YtdbfbedholdjaaaGreat
open Go Go.Dl
variable [dK]
set_option maxRecDepth 100000
set_option maxHeartbeats 8000000
def thT (s:gK):T9:=(s.cK,s.cS,s.dQ,s.eM,s.dS,s.dU,s.bY,s.iK,s.fJ,s.eV,s.fD,s.fW)
abbrev T13:Type:=(List (List Bytes)) × (List S56) × (List uF) × (List Int) × Bytes × (List Int) × (List Int) × (List jU) × (List jU) × (List S85) × Int × Int × Int
def aVq (s:gK) (i:Nat):T13:=(s.cK,s.cS,s.dQ,s.eM,s.dS,s.dU,s.bY,s.iK,s.fJ,s.eV,s.fD,s.fW,(i:Int))
def stp (u:cM) (s:gK) (n:Nat):gK :=
 if (u.bM.getD n default).bR=1 then ⟨s.cK++[(u.bM.getD n default).bQ.map lV],s.cS,s.dQ,s.eM,s.dS,s.dU,s.bY,s.iK,s.fJ,s.eV,s.fD,s.fW⟩
 else if (u.bM.getD n default).bR=2 then ⟨s.cK,s.cS++[desc u n],s.dQ,s.eM,s.dS,s.dU,s.bY,s.iK,s.fJ,s.eV,s.fD,s.fW⟩
 else if (u.bM.getD n default).bR=3 then (u.bM.getD n default).cH.foldl (uS u n) s
 else if (u.bM.getD n default).bR=4 then ⟨s.cK,s.cS,s.dQ,s.eM,s.dS,s.dU,s.bY,s.iK,s.fJ,s.eV++[⟨vU u ⟨kY u (u.bM.getD n default).fV,-1⟩,(u.bM.getD n default).rA,(u.bM.getD n default).rB⟩],s.fD,s.fW⟩
 else s
def lay (u:cM) (n:Nat) (s:gK):gK:=(List.range n).foldl (stp u) s
def im0 (g:Bytes) (i:List Int):gK:=⟨[],[],[],[],g,i,[],[],[],[],0,0⟩
def aTx (s:gK) (c:List uF):gK:=⟨s.cK,s.cS,c,s.eM,s.dS,s.dU,s.bY,s.iK,s.fJ,s.eV,s.fD,s.fW⟩
def img (u:cM):gK:=aTx (lay u u.bM.length (im0 (eL (pv u.bM)) (inits (pv u.bM)))) ((iW u).map (oF u))
theorem mT (u:cM) (n:Nat) (s:gK):lay u (n+1) s=stp u (lay u n s) n:=by
 unfold lay;rw[List.range_succ,List.foldl_append];rfl
structure Kp (a b:gK):Prop where
 f:b.cK=a.cK
 c:b.cS=a.cS
 o:b.dQ=a.dQ
 g:b.dS=a.dS
 i:b.dU=a.dU
 j:b.eV=a.eV
 d:b.fD=a.fD
 w:b.fW=a.fW
theorem aVr (u:cM) (d:Int) (s:gK) (x:fE):Kp s (uS u d s x):=by
 unfold uS
 split
 ·exact ⟨rfl,rfl,rfl,rfl,rfl,rfl,rfl,rfl⟩
 split
 ·exact ⟨rfl,rfl,rfl,rfl,rfl,rfl,rfl,rfl⟩
 split
 ·exact ⟨rfl,rfl,rfl,rfl,rfl,rfl,rfl,rfl⟩
 split <;> exact ⟨rfl,rfl,rfl,rfl,rfl,rfl,rfl,rfl⟩
theorem aEW (u:cM) (d:Int):∀ (l:List fE) (s:gK),Kp s (l.foldl (uS u d) s)
 | [],s=>⟨rfl,rfl,rfl,rfl,rfl,rfl,rfl,rfl⟩
 | x::l,s=>by
   have h1:=aVr u d s x
   have h2:=aEW u d l (uS u d s x)
   rw[List.foldl_cons]
   exact ⟨h2.f.trans h1.f,h2.c.trans h1.c,h2.o.trans h1.o,h2.g.trans h1.g,h2.i.trans h1.i,h2.j.trans h1.j,h2.d.trans h1.d,h2.w.trans h1.w⟩
structure Mi (n:Nat) (s:gK):Prop where
 f:s.cK.length≤n
 c:s.cS.length≤n
 j:s.eV.length≤n
 t:Nt (8 * n) s
 o:s.dQ=[]
theorem aVs {u:cM} (hw:Wf u) {n:Nat} {s:gK} (h:Mi n s):Mi (n+1) (stp u s n):=by
 obtain ⟨h1,h2,h3,⟨t1,t2,t3,t4⟩,h5⟩:=h
 unfold stp
 split
 ·exact ⟨by rw[aD,List.length_singleton];omega,by dsimp only;omega,by dsimp only;omega,⟨by dsimp only;omega,by dsimp only;omega,by dsimp only;omega,by dsimp only;omega⟩,h5⟩
 split
 ·exact ⟨by dsimp only;omega,by rw[aD,List.length_singleton];omega,by dsimp only;omega,⟨by dsimp only;omega,by dsimp only;omega,by dsimp only;omega,by dsimp only;omega⟩,h5⟩
 split
 ·have hv:=(hw.sz (n:Int)).v
  rw[dc,Int.toNat_natCast] at hv
  have hk:=aEW u n (u.bM.getD n default).cH s
  obtain ⟨q1,q2,q3,q4⟩:=aE2 (u:=u) (d:=n) (u.bM.getD n default).cH (s:=s) (k:=8 * n) ⟨t1,t2,t3,t4⟩
  exact ⟨by rw[hk.f];omega,by rw[hk.c];omega,by rw[hk.j];omega,⟨by omega,by omega,by omega,by omega⟩,by rw[hk.o];exact h5⟩
 split
 ·exact ⟨by dsimp only;omega,by dsimp only;omega,by rw[aD,List.length_singleton];omega,⟨by dsimp only;omega,by dsimp only;omega,by dsimp only;omega,by dsimp only;omega⟩,h5⟩
 ·exact ⟨by omega,by omega,by omega,⟨by omega,by omega,by omega,by omega⟩,h5⟩
theorem aId {u:cM} (hw:Wf u) (g:Bytes) (i:List Int):∀ n,Mi n (lay u n (im0 g i))
 | 0=>⟨aJ _,aJ _,aJ _,⟨aJ _,aJ _,aJ _,aJ _⟩,rfl⟩
 | n+1=>by rw[mT];exact aVs hw (aId hw g i n)
theorem aNf {u:cM} {w:dR} (h:w∈iW u):Cd u w:=by
 unfold iW at h
 rcases aX.1 h with h | h
 ·obtain ⟨d,hd,h⟩:=List.mem_flatMap.1 h
  have hd:=List.mem_range.1 hd
  unfold mws at h
  split at h
  ·obtain ⟨m,hm,rfl⟩:=List.mem_map.1 h
   have hm:=List.mem_range.1 (List.mem_filter.1 hm).1
   refine .inr ⟨⟨by dsimp only;omega,by dsimp only;omega⟩,by dsimp only;omega,?_⟩
   show (m:Int)<(u.bM.getD ((d:Int).toNat) default).bQ.length
   rw[Int.toNat_natCast];omega
  ·cases h
 ·obtain ⟨d,hd,h⟩:=List.mem_flatMap.1 h
  unfold pws at h
  split at h
  ·rw[aL.1 h];exact .inl (show (-1:Int)<0 by decide)
  ·cases h
theorem aM7 {K:Nat} {u:cM} (hK:100000<K) (h:Sm u) (hw:Wf u):cR (F9 K u) (fun v=>v=img u):=by
 have hl:=hw.len'
 have hpv:=zO hw.all
 refine cR.of ?_
 unfold F9
 refine bL.call (aBn hK hw) ?_
 rintro _ rfl
 refine bL.cJ (by decide) (lU hK (by omega)) ?_
 rintro _ rfl
 refine bL.call (aBn hK hw) ?_
 rintro _ rfl
 refine bL.call (aRi hK (by omega)) ?_
 rintro _ rfl
 have hmi:=aId hw (eL (pv u.bM)) (inits (pv u.bM))
 refine bL.bZ (fun v:T9=>v=thT (lay u u.bM.length (im0 (eL (pv u.bM)) (inits (pv u.bM))))) (bL.bN (bL.c7 ?_)) ?_
 ·refine bL.upN u.bM.length (fun i (t:T13)=>t=aVq (lay u i (im0 (eL (pv u.bM)) (inits (pv u.bM)))) i) rfl (by omega) ?_ ?_
  ·rintro n hn _ rfl
   have hm:=hmi n
   have hs:=mT u n (im0 (eL (pv u.bM)) (inits (pv u.bM)))
   generalize lay u n (im0 (eL (pv u.bM)) (inits (pv u.bM)))=s at hm hs
   obtain ⟨m1,m2,m3,⟨t1,t2,t3,t4⟩,m5⟩:=hm
   have hkd:=aCe (u:=u) (d:=n) ⟨by omega,by omega⟩
   have hdn:dc u n=u.bM.getD n default:=by rw[dc,Int.toNat_natCast]
   have hsz:=hw.sz n
   rw[hdn] at hkd hsz
   have hm:=hsz.m
   have hp:=hsz.p
   unfold aVq
   dsimp only
   refine bL.bO (bL.dV (by simpa using hn) ?_)
   refine bL.bZ (fun v:gK=>v=lay u (n+1) (im0 (eL (pv u.bM)) (inits (pv u.bM)))) (bL.bN (bL.bW (bT (by omega)) (bL.bX (bL.bO ?_)))) (fun v hv=>by rw[hv,wr (by omega) (by omega)];exact bL.bO (tr rfl))
   rw[hs,Int.toNat_natCast]
   refine bL.bZ (fun v:gK=>v=stp u s n) (bL.bN (bL.ite (fun e1=>bL.bO (bL.bO ?_)) (fun e1=>bL.ite (fun e2=>?_) (fun e2=>bL.ite (fun e3=>?_) (fun e3=>bL.ite (fun e4=>bL.bO ?_) (fun e4=>?_)))))) (fun v hv=>tr hv)
   ·have e1:=beq_iff_eq.1 e1
    rw[stp,aH e1]
    generalize (u.bM.getD n default).bQ=ms at hm hp
    refine bL.bZ (fun v:List Bytes=>v=ms.map lV) (bL.bN (bL.c7 ?_)) (fun sg hsg=>?_)
    ·refine bL.upN ms.length (fun j (t:List Bytes × Int)=>t=((ms.take j).map lV,(j:Int))) rfl (by omega) ?_ ?_
     ·rintro j hj _ rfl
      have kU:ms.take (j+1)=ms.take j++[ms.getD j default]:=eP default hj
      have hlj:(ms.take j).length≤6:=by rw[aS];omega
      have hpm:=hp _ (c9 (d:=default) hj)
      dsimp only
      refine bL.dV (by simpa using hj) ?_
      refine bL.bZ (fun v:List Bytes=>v=(ms.take (j+1)).map lV) (bL.bN (bL.bW (bT (by omega)) (bL.bX (bL.call (aBm hK (by rw[Int.toNat_natCast];exact aR hpm.1 (by decide))) ?_)))) (fun v hv=>by rw[wr (by omega) (by omega),hv];exact tr rfl)
      rintro _ rfl
      refine bL.bW (cP (by rw[aW,List.length_singleton];omega)) (bL.bX (tr ?_))
      rw[kU,List.map_append,Int.toNat_natCast];rfl
     ·rintro _ rfl
      refine bL.dN (by simp) (tl ?_)
      show (ms.take ms.length).map _=_
      rw[List.take_length]
    ·refine bL.bW (cP (by rw[List.length_singleton];omega)) (bL.bX (tr ?_))
     rw[hsg]
   ·have e2:=beq_iff_eq.1 e2
    refine bL.call (aVl hK h hw (by rw[hkd];exact e2)) ?_
    rintro _ rfl
    refine bL.bW (cP (by rw[List.length_singleton];omega)) (bL.bX (tr ?_))
    rw[stp,aF (by omega),aH e2]
   ·have e3:=beq_iff_eq.1 e3
    refine bL.call (aVo hK h hw (by rw[hkd];exact e3) ⟨by dsimp only;omega,by dsimp only;omega,by dsimp only;omega,by dsimp only;omega⟩) ?_
    rintro _ rfl
    refine tr ?_
    rw[stp,aF (by omega),aF (by omega),aH e3,hdn]
   ·have e4:=beq_iff_eq.1 e4
    refine bL.call (q8 hK h) ?_
    rintro _ rfl
    refine bL.bO (bL.bO ?_)
    refine bL.cJ (by decide) (aET hK hw) ?_
    rintro _ rfl
    refine bL.bW (cP (by rw[List.length_singleton];omega)) (bL.bX (tr ?_))
    rw[stp,aF (by omega),aF (by omega),aF (by omega),aH e4]
   ·simp only[beq_iff_eq] at e1 e2 e3 e4
    refine tr ?_
    rw[stp,aF e1,aF e2,aF e3,aF e4]
  ·rintro _ rfl
   exact bL.bO (bL.dN (by simp [aVq]) (tl rfl))
 ·rintro _ rfl
  have hm:=(hmi u.bM.length).o
  unfold img
  generalize lay u u.bM.length (im0 (eL (pv u.bM)) (inits (pv u.bM)))=s at hm
  refine bL.call (aM4 hK hw) ?_
  rintro _ rfl
  have sF:=uB hw
  have hcd:=fun w (hw2:w∈iW u)=>aNf hw2
  generalize iW u=r at sF hcd
  refine bL.bZ (fun o:List uF=>o=r.map (oF u)) (bL.bN (bL.c7 ?_)) (fun o ho=>by rw[ho];exact tl rfl)
  refine bL.upN r.length (fun i (t:List uF × Int)=>t=((r.take i).map (oF u),(i:Int))) (by unfold thT;rw[hm];rfl) (by omega) ?_ ?_
  ·rintro i hi _ rfl
   have kU:r.take (i+1)=r.take i++[r.getD i default]:=eP default hi
   have hli:(r.take i).length≤84:=by rw[aS];omega
   have hc:=hcd _ (c9 (d:=default) hi)
   dsimp only
   refine bL.bO (bL.dV (by simpa using hi) ?_)
   refine bL.bZ (fun v:List uF=>v=(r.take (i+1)).map (oF u)) (bL.bN (bL.bW (bT (by omega)) (bL.bX (bL.call (aVf hK h hw (by rw[Int.toNat_natCast];exact hc)) ?_)))) (fun v hv=>by rw[wr (by omega) (by omega),hv];exact tr rfl)
   rintro _ rfl
   refine bL.bW (cP (by rw[aW,List.length_singleton];omega)) (bL.bX (tr ?_))
   rw[kU,List.map_append,Int.toNat_natCast];rfl
  ·rintro _ rfl
   refine bL.bO (bL.dN (by simp) (tl ?_))
   show (r.take r.length).map _=_
   rw[List.take_length]
end Go.Proofs.YtdbfbedholdjaaaGreat
