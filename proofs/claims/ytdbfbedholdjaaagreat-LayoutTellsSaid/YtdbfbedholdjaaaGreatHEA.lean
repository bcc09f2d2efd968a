/- No conditions. -/
import Derived.Test.YtdbfbedholdjaaaGreatHUG
set_option linter.unusedVariables false
set_option linter.unusedSimpArgs false
set_option linter.unusedSectionVars false
namespace Go.Proofs.YtdbfbedholdjaaaGreat
open Go Go.Dl
variable [dO]
set_option maxRecDepth 100000
set_option maxHeartbeats 8000000
theorem tl {A T:Type} {p:A→Prop} {q:T→Prop} {a:A} (h:p a):bO (some (Sum.inl a)) (sE p q):=bO.ret h
theorem tr {A T:Type} {p:A→Prop} {q:T→Prop} {a:T} (h:q a):bO (some (Sum.inr a)) (sE p q):=bO.ret h
theorem bO.qJ {A T:Type} {K:Nat} {f:T→Option (A ⊕ T)} {t0:T} {p:A→Prop} (n:Nat) (I:Nat→T→Prop) (h0:I 0 t0) (hK:n<K) (hs:∀ i,i<n→∀ t,I i t→bO (f t) (sE p (fun t'=>I (i+1) t'))) (he:∀ t,I n t→bO (f t) (sE p (fun _=>False))):bO (iter K f t0) p:=by
 have key:∀ (k K i:Nat) (t:T),k<K→i+k=n→I i t→bO (iter K f t) p:=by
  intro k
  induction k with
  | zero =>
    intro K i t hK e hi
    obtain ⟨K,rfl⟩:∃ m,K=m+1:=⟨K - 1,by omega⟩
    have e:i=n:=by omega
    subst e
    obtain ⟨z,hz,hq⟩:=he t hi
    rw[iter,hz]
    cases z with
    | inl a=>exact ⟨a,rfl,hq⟩
    | inr t=>exact hq.elim
  | succ k ih =>
    intro K i t hK e hi
    obtain ⟨K,rfl⟩:∃ m,K=m+1:=⟨K - 1,by omega⟩
    obtain ⟨z,hz,hq⟩:=hs i (by omega) t hi
    rw[iter,hz]
    cases z with
    | inl a=>exact ⟨a,rfl,hq⟩
    | inr t'=>exact ih K (i+1) t' (by omega) (by omega) hq
 exact key n K 0 t0 hK (by omega) h0
def ini (x:eZ):Int:=if x.cB.bU=4∨x.cB.bU=5 then 0 else x.dM
def inits (l:List eZ):List Int:=l.flatMap fun x=>List.replicate (rn x.cB) (ini x)
theorem aEG (a b:List eZ):inits (a++b)=inits a++inits b:=by unfold inits;rw[List.flatMap_append]
theorem n7:∀ l:List eZ,(inits l).length=sK l
 | []=>rfl
 | x::r=>by
   have:=n7 r
   unfold inits at *
   rw[List.flatMap_cons,aG,List.length_replicate,this,sK]
theorem aN4 {K:Nat} {l:List eZ} (hK:100000<K) (hl:l.length≤1000):cQ (F38 K l) (fun v=>v=inits l):=by
 refine cQ.of ?_
 unfold F38
 refine bO.b5 (fun v:List Int=>v=inits l) (bO.bQ (bO.cT ?_)) (fun v hv=>tl hv)
 refine bO.qJ l.length (fun i (t:List Int × Int)=>t=(inits (l.take i),(i:Int))) rfl (by omega) ?_ ?_
 ·rintro i hi _ rfl
  have hrs:=jU (l.take i)
  have hil:=n7 (l.take i)
  rw[aK] at hrs
  dsimp only
  refine bO.bR (bO.dN (by simpa using hi) ?_)
  have iT:inits (l.take (i+1))=inits (l.take i)++List.replicate (rn (l.getD i default).cB) (ini (l.getD i default)):=by
   rw[dZ default hi,aEG];simp [inits]
  rw[Int.toNat_natCast]
  generalize l.getD i default=x at iT
  have hr:=rZ x.cB
  refine bO.b5 (fun v:List Int=>v=inits (l.take (i+1))) (bO.bQ (bO.bY (bW (by omega)) (bO.b7 (bO.call aFv ?_)))) (fun v hv=>by rw[wr (by omega) (by omega),hv];exact tr rfl)
  rintro _ rfl
  rw[aKh]
  refine bO.b5 (fun v:List Int=>v=inits (l.take (i+1))) (bO.bQ (bO.cT ?_)) (fun v hv=>tr hv)
  refine bO.qJ (rn x.cB) (fun j (t:List Int × Int)=>t=(inits (l.take i)++List.replicate j (ini x),(j:Int))) (by simp) (by omega) ?_ ?_
  ·rintro j hj _ rfl
   dsimp only
   refine bO.bR (bO.dN (by simpa using hj) ?_)
   refine bO.b5 (fun v:List Int=>v=inits (l.take i)++List.replicate (j+1) (ini x)) (bO.bQ (bO.bR (bO.b5 (fun z:Int=>z=ini x) ?_ (fun z hz=>bO.bY (cS ?_) (bO.b7 ?_))))) (fun v hv=>by rw[wr (by omega) (by omega),hv];exact tr rfl)
   ·unfold ini
    refine bO.ite (fun e=>?_) (fun e=>?_)
    ·simp only[aL,beq_iff_eq] at e
     rw[aE e];exact tr rfl
    ·simp only[aL,beq_iff_eq] at e
     rw[aD e];exact tr rfl
   ·rw[aG,List.length_replicate,List.length_singleton];omega
   ·rw[hz,List.replicate_succ',bJ];exact tr rfl
  ·rintro _ rfl
   refine bO.bR (bO.dA (by simp) (tl ?_))
   exact iT.symm
 ·rintro _ rfl
  refine bO.bR (bO.dA (by simp) (tl ?_))
  show inits (l.take l.length)=inits l
  rw[bD]
theorem aSX {K:Nat} {l:List eZ} (hK:100000<K) (hl:l.length≤1000):cQ (aSY K l) (fun v=>v=inits l):=aN4 hK hl
def mws (D:iR) (d:Nat):List dS:=if D.bU=2 then ((List.range D.bS.length).filter fun m=>!(D.bS.getD m default).eT).map fun m:Nat=>(⟨(d:Int),(m:Int)⟩:dS) else []
def pws (D:iR) (d:Nat):List dS:=if D.bU=3 then [⟨(d:Int),-1⟩] else []
def mcs (u:cK) (n:Nat):List dS:=(List.range n).flatMap fun d=>mws (u.bP.getD d default) d
def pcs (u:cK) (n:Nat):List dS:=(List.range n).flatMap fun d=>pws (u.bP.getD d default) d
def j0 (u:cK):List dS:=mcs u u.bP.length++pcs u u.bP.length
theorem aCA (u:cK) (n:Nat):mcs u (n+1)=mcs u n++mws (u.bP.getD n default) n:=by
 unfold mcs;rw[List.range_succ,List.flatMap_append];simp
theorem aCB (u:cK) (n:Nat):pcs u (n+1)=pcs u n++pws (u.bP.getD n default) n:=by
 unfold pcs;rw[List.range_succ,List.flatMap_append];simp
theorem aSZ (D:iR) (d:Nat):(mws D d).length≤D.bS.length:=by
 unfold mws
 split
 ·rw[aU]
  exact aS (List.length_filter_le ..) (by rw[List.length_range];exact aM _)
 ·simp
theorem uM {u:cK} (hw:Wf u):∀ n:Nat,(mcs u n).length≤6 * n
 | 0=>by simp [mcs]
 | n+1=>by
   have:=uM hw n
   have h2:=aSZ (u.bP.getD n default) n
   have h3:=(hw.sz (n:Int)).m
   rw[dc,Int.toNat_natCast] at h3
   rw[aCA,aG];omega
theorem yH (u:cK):∀ n:Nat,(pcs u n).length≤n
 | 0=>by simp [pcs]
 | n+1=>by
   have:=yH u n
   have h2:(pws (u.bP.getD n default) n).length≤1:=by unfold pws;split <;> simp
   rw[aCB,aG];omega
theorem qK {u:cK} (hw:Wf u):(j0 u).length≤84:=by
 have h1:=uM hw u.bP.length
 have h2:=yH u u.bP.length
 have h3:=hw.len'
 unfold j0;rw[aG];omega
theorem aN5 {K:Nat} {u:cK} (hK:100000<K) (hw:Wf u):cQ (F43 K u) (fun v=>v=j0 u):=by
 have hl:=hw.len'
 refine cQ.of ?_
 unfold F43
 refine bO.b5 (fun v:List dS × List dS=>v=(mcs u u.bP.length,pcs u u.bP.length)) (bO.bQ (bO.cT ?_)) ?_
 ·refine bO.qJ u.bP.length (fun i (t:List dS × List dS × Int)=>t=(mcs u i,pcs u i,(i:Int))) rfl (by omega) ?_ ?_
  ·rintro i hi _ rfl
   have h1:=uM hw i
   have h2:=yH u i
   have hm:=(hw.sz (i:Int)).m
   rw[dc,Int.toNat_natCast] at hm
   have hs:=aCA u i
   have hp:=aCB u i
   dsimp only
   refine bO.bR (bO.dN (by simpa using hi) ?_)
   rw[Int.toNat_natCast]
   generalize u.bP.getD i default=D at hm hs hp
   refine bO.b5 (fun v:List dS × List dS=>v=(mcs u (i+1),pcs u (i+1))) (bO.bQ (bO.bY (bW (by omega)) (bO.b7 (bO.bR ?_)))) (fun v hv=>by rw[wr (by omega) (by omega),hv];exact tr rfl)
   refine bO.b5 (fun v:List dS × List dS=>v=(mcs u (i+1),pcs u (i+1))) (bO.bQ ?_) (fun v hv=>tr hv)
   refine bO.ite (fun e=>?_) (fun e=>bO.ite (fun e2=>?_) (fun e2=>?_))
   ·have e:=beq_iff_eq.1 e
    have hp0:pws D i=[]:=by unfold pws;rw[aD (by omega)]
    refine bO.bR (bO.bR ?_)
    refine bO.b5 (fun v:List dS=>v=mcs u (i+1)) (bO.bQ (bO.cT ?_)) (fun v hv=>tr (by rw[hv,hp,hp0,bN]))
    refine bO.qJ D.bS.length (fun j (t:List dS × Int)=>t=(mcs u i++((List.range j).filter fun m=>!(D.bS.getD m default).eT).map fun m:Nat=>(⟨(i:Int),(m:Int)⟩:dS),(j:Int))) (by simp) (by omega) ?_ ?_
    ·rintro j hj _ rfl
     have hfl:((List.range j).filter fun m=>!(D.bS.getD m default).eT).length≤j:=aS (List.length_filter_le ..) (by rw[List.length_range];exact aM _)
     dsimp only
     refine bO.dN (by simpa using hj) ?_
     refine bO.b5 (fun v:List dS=>v=mcs u i++((List.range (j+1)).filter fun m=>!(D.bS.getD m default).eT).map fun m:Nat=>(⟨(i:Int),(m:Int)⟩:dS)) (bO.bQ (bO.bY (bW (by omega)) (bO.b7 (bO.bR ?_)))) (fun v hv=>by rw[wr (by omega) (by omega),hv];exact tr rfl)
     rw[List.range_succ,List.filter_append,bK,Int.toNat_natCast]
     refine bO.ite (fun e2=>?_) (fun e2=>?_)
     ·refine bO.bY (cS (by rw[aG,aU,List.length_singleton];omega)) (bO.b7 (tr ?_))
      rw[bJ]
      simp only[List.filter_cons,e2,if_true,List.filter_nil,List.map_cons,List.map_nil]
     ·refine tr ?_
      simp only[List.filter_cons,e2,List.filter_nil,List.map_nil,bN,aR,if_false]
    ·rintro _ rfl
     refine bO.dA (by simp) (tl ?_)
     show _=_
     rw[hs,mws,aE e]
   ·have e2:=beq_iff_eq.1 e2
    refine bO.bY (cS (by rw[List.length_singleton];omega)) (bO.b7 (tr ?_))
    rw[hs,hp,mws,pws,aD (by omega),aE e2,bN]
   ·simp only[beq_iff_eq] at e e2
    refine tr ?_
    rw[hs,hp,mws,pws,aD e,aD e2,bN,bN]
  ·rintro _ rfl
   exact bO.bR (bO.dA (by simp) (tl rfl))
 ·rintro _ rfl
  have h1:=uM hw u.bP.length
  have h2:=yH u u.bP.length
  exact bO.bY (cS (by dsimp only;omega)) (bO.b7 (tl rfl))
def isW (w x:dS):Bool:=((w.cZ:Int) == x.cZ) && ((w.dF == x.dF) && true)
def wI (u:cK) (w:dS):Int:=ix (isW w) (j0 u)
theorem aXa {K:Nat} {l:List dS} {w:dS} (hK:100000<K) (hl:l.length≤1000):cQ (F57 K l w) (fun v=>v=ix (isW w) l):=by
 refine cQ.of ?_
 unfold F57
 refine bO.b5 (fun _=>ix (isW w) l = -1) (bO.bQ (bO.cT ?_)) (fun _ h=>tl h.symm)
 refine bO.upI l.length (fun i=>isW w (l.getD i default)=false) (by omega) (fun i hi hb=>?_) (fun hb=>?_)
 ·refine bO.bR (bO.dN (by simpa using hi) ?_)
  refine bO.b5 (fun _=>isW w (l.getD i default)=false) (bO.bQ (bO.bY (bW (by omega)) (bO.b7 (bO.bR ?_)))) (fun _ h=>by rw[wr (by omega) (by omega)];exact tr ⟨rfl,h⟩)
  rw[Int.toNat_natCast]
  refine bO.ite (fun e=>?_) (fun e=>?_)
  ·exact tl (aAS (z:=default) hi hb e).symm
  ·exact tr (Bool.eq_false_iff.2 e)
 ·exact bO.bR (bO.dA (by simp) (tl (yI (z:=default) hb)))
theorem aCC {K:Nat} {u:cK} {w:dS} (hK:100000<K) (hw:Wf u):cQ (F19 K u w) (fun v=>v=wI u w):=by
 have hl:=qK hw
 refine cQ.of ?_
 unfold F19
 refine bO.call (aN5 hK hw) ?_
 rintro _ rfl
 refine bO.cH (by decide) (aXa hK (by omega)) ?_
 rintro _ rfl
 exact tl rfl
end Go.Proofs.YtdbfbedholdjaaaGreat

namespace Go.Proofs.YtdbfbedholdjaaaGreat
open Go Go.Dl
variable [dO]
set_option maxRecDepth 100000
set_option maxHeartbeats 8000000
def q9 (u:cK) (n:Nat):List Int:=(List.range n).flatMap fun d=>if (u.bP.getD d default).bU=3 then [(d:Int)] else []
theorem tP (u:cK) (n:Nat):q9 u (n+1)=q9 u n++(if (u.bP.getD n default).bU=3 then [(n:Int)] else []):=by
 unfold q9;rw[List.range_succ,List.flatMap_append];simp
theorem uO (u:cK):∀ n:Nat,(q9 u n).length≤n
 | 0=>by simp [q9]
 | n+1=>by
   have:=uO u n
   rw[tP,aG]
   split
   ·simp only[List.length_singleton];omega
   ·simp only[List.length_nil];omega
theorem aFw {u:cK}:∀ (n:Nat) {x:Int},x∈q9 u n→0≤x∧x<n
 | 0,x,h=>by cases h
 | n+1,x,h=>by
   rw[tP] at h
   rcases aZ.1 h with h | h
   ·have:=aFw n h;omega
   ·split at h
    ·rw[aJ.1 h];omega
    ·cases h
theorem aN7 {K:Nat} {u:cK} (hK:100000<K) (hw:Wf u):cQ (F55 K u) (fun v=>v=q9 u u.bP.length):=by
 have hl:=hw.len'
 refine cQ.of ?_
 unfold F55
 refine bO.b5 (fun v:List Int=>v=q9 u u.bP.length) (bO.bQ (bO.cT ?_)) (fun v hv=>tl hv)
 refine bO.qJ u.bP.length (fun i (t:List Int × Int)=>t=(q9 u i,(i:Int))) rfl (by omega) ?_ ?_
 ·rintro i hi _ rfl
  have h1:=uO u i
  have hs:=tP u i
  have hkd:=yJ (u:=u) (d:=i) ⟨by omega,by omega⟩
  rw[dc,Int.toNat_natCast] at hkd
  dsimp only
  refine bO.bR (bO.dN (by simpa using hi) ?_)
  refine bO.b5 (fun v:List Int=>v=q9 u (i+1)) (bO.bQ (bO.call (uN (by decide)) ?_)) (fun v hv=>by rw[wr (by omega) (by omega),hv];exact tr rfl)
  rintro _ rfl
  rw[hs]
  refine bO.ite (fun e=>?_) (fun e=>?_)
  ·simp only[beq_iff_eq] at e
   rw[aE (by omega)]
   exact bO.bY (cS (by rw[List.length_singleton];omega)) (bO.b7 (tr rfl))
  ·simp only[beq_iff_eq] at e
   rw[aD (by omega),bN]
   exact tr rfl
 ·rintro _ rfl
  exact bO.bR (bO.dA (by simp) (tl rfl))
def nU (u:cK) (d:Int):List Int→Nat
 | []=>0
 | x::r=>(if x<d then sK (dc u x).cA else 0)+nU u d r
theorem aCE (u:cK) (d:Int):∀ a b:List Int,nU u d (a++b)=nU u d a+nU u d b
 | [],b=>by simp [nU]
 | x::a,b=>by rw[List.cons_append,nU,nU,aCE u d a b];omega
theorem aKi {u:cK} (hw:Wf u) (d:Int):∀ l:List Int,nU u d l≤80000 * l.length
 | []=>by simp [nU]
 | x::r=>by
   have h1:=aKi hw d r
   have h2:=jU (dc u x).cA
   have h3:=(hw.sz x).v
   rw[nU,List.length_cons]
   split <;> omega
def glb (u:cK) (d:Int) (s:Bytes):Int :=
 if kd u d=3∧0≤plc (dc u d).cA s 0 then plc (dc u d).cA s 0+nU u d (q9 u u.bP.length) else -1
theorem aN8 {s:Bytes}:∀ (l:List eZ) (a:Int),0≤a→plc l s a≤a+10000 * l.length
 | [],a,h=>by simp [plc];omega
 | x::r,a,h=>by
   have:=rZ x.cB
   have h2:=aN8 (s:=s) r (a+rn x.cB) (by omega)
   rw[plc,List.length_cons]
   split <;> omega
theorem aN9 {K:Nat} {u:cK} {d:Int} {s:Bytes} (hK:100000<K) (h:Sm u) (hw:Wf u):cQ (F17 K u d s) (fun v=>v=glb u d s):=by
 refine cQ.of ?_
 unfold F17
 refine bO.call (uN (by decide)) ?_
 rintro _ rfl
 refine bO.ite (fun e=>tl ?_) (fun e=>?_)
 ·simp only[aQ,beq_eq_false_iff_ne,ne_eq] at e
  rw[glb,aD (fun q=>e q.1)]
 simp only[aQ,Bool.not_eq_false,beq_iff_eq] at e
 have hd:=gE e (by decide)
 have hv:=(hw.sz d).v
 have hl:=hw.len'
 refine bO.bY (bW hd) (bO.b7 (bO.bR ?_))
 refine bO.call (aKj hK (show (dc u d).cA.length≤_ by omega)) ?_
 rintro _ rfl
 have hpl:=aN8 (s:=s) (dc u d).cA 0 (by omega)
 change bO (if decide (plc (dc u d).cA s 0<0)=true then _ else _) _
 refine bO.ite (fun e2=>tl ?_) (fun e2=>?_)
 ·simp only[aB] at e2
  rw[glb,aD (fun q=>by omega)]
 simp only[aB] at e2
 rw[show glb u d s=plc (dc u d).cA s 0+nU u d (q9 u u.bP.length) from by rw[glb,aE ⟨e,by omega⟩]]
 change bO ((bX (F55 K u)).bind _) _
 refine bO.call (aN7 hK hw) ?_
 rintro _ rfl
 have hpi:∀ x∈q9 u u.bP.length,0≤x∧x<u.bP.length:=fun x hx=>aFw _ hx
 have hpn:=uO u u.bP.length
 generalize q9 u u.bP.length=r at hpi hpn
 change bO (bT (bQ ((iter K _ (plc (dc u d).cA s 0,0)).map .inl)) _) _
 generalize plc (dc u d).cA s 0=p at hpl e2
 refine bO.b5 (fun v:Int=>v=p+nU u d r) (bO.bQ (bO.cT ?_)) (fun v hv=>tl hv)
 refine bO.qJ r.length (fun i (t:Int × Int)=>t=(p+nU u d (r.take i),(i:Int))) (by simp [nU]) (by omega) ?_ ?_
 ·rintro i hi _ rfl
  have hgs:=aKi hw d (r.take i)
  rw[aK] at hgs
  have iT:nU u d (r.take (i+1))=nU u d (r.take i)+(if r.getD i default<d then sK (dc u (r.getD i default)).cA else 0):=by
   rw[dZ default hi,aCE];simp [nU]
  have hx:=hpi _ (c6 (d:=default) hi)
  dsimp only
  refine bO.bR (bO.dN (by simpa using hi) ?_)
  rw[Int.toNat_natCast]
  generalize r.getD i default=x at iT hx
  have hxv:=(hw.sz x).v
  have hrs:=jU (dc u x).cA
  refine bO.b5 (fun v:Int=>v=p+nU u d (r.take (i+1))) (bO.bQ (bO.bY (bW (by omega)) (bO.b7 (bO.bR ?_)))) (fun v hv=>by rw[wr (by omega) (by omega),hv];exact tr rfl)
  refine bO.ite (fun e3=>?_) (fun e3=>?_)
  ·simp only[aB] at e3
   rw[aE e3] at iT
   refine bO.bY (bW hx) (bO.b7 (bO.bR ?_))
   refine bO.call (uP hK (show (dc u x).cA.length≤_ by omega)) ?_
   rintro _ rfl
   have hll:=iI (dc u x).cA
   refine bO.bR (tr ?_)
   change IntKind.i64.wrap (p+nU u d (r.take i)+((dL (dc u x).cA).length:Int))=_
   rw[wr (by omega) (by omega)];omega
  ·simp only[aB] at e3
   rw[aD e3] at iT
   refine tr ?_
   omega
 ·rintro _ rfl
  refine bO.bR (bO.dA (by simp) (tl ?_))
  show p+_=_
  rw[bD]
def l8 (u:cK) (w:dS):sL:=if w.dF<0 then ⟨-1,[],[],false,0,[]⟩ else ⟨num u w.cZ 2,dL (sX u w).cG,dL (sX u w).cA,(sX u w).eU.bU != 0,0,[]⟩
theorem aXd {K:Nat} {u:cK} {w:dS} (hK:100000<K) (h:Sm u) (hw:Wf u) (hc:Cd u w):cQ (F44 K u w) (fun v=>v=l8 u w):=by
 refine cQ.of ?_
 unfold F44 l8
 refine bO.ite (fun e=>?_) (fun e=>?_)
 ·simp only[aB] at e
  rw[aE e];exact tl rfl
 simp only[aB] at e
 rw[aD e]
 have hv:Vw u w:=by
  rcases hc with hc | hc
  ·exact absurd hc e
  ·exact hc
 have hmp:=(hw.sz w.cZ).p _ (c6 (d:=default) (show w.dF.toNat<(dc u w.cZ).bS.length by have:=hv.2;omega))
 refine bO.bY (bW hv.1) (bO.bY (bW hv.2) (bO.b7 (bO.bR (bO.bR (bO.bR ?_)))))
 refine bO.cH (by decide) (aBG hK h) ?_
 rintro _ rfl
 refine bO.cH (by decide) (uP hK (show (sX u w).cG.length≤_ from aS hmp.1 (by decide))) ?_
 rintro _ rfl
 refine bO.cH (by decide) (uP hK (show (sX u w).cA.length≤_ from aS hmp.2 (by decide))) ?_
 rintro _ rfl
 exact tl rfl
theorem aXe {K:Nat} {u:cK} {d:Int} {s:Bytes} (hK:100000<K) (h:Sm u) (hw:Wf u):cQ (F90 K u d s) (fun v=>v=if (l9 u d s).2=true then wI u (l9 u d s).1 else -1):=by
 refine cQ.of ?_
 unfold F90
 refine bO.call (aKk hK h) ?_
 rintro _ rfl
 refine bO.ite (fun e=>?_) (fun e=>?_)
 ·rw[aD (by simpa using e)];exact tl rfl
 ·rw[aE (by simpa using e)]
  refine bO.call (aCC hK hw) ?_
  rintro _ rfl
  exact tl rfl
theorem aS2 {K:Nat} {u:cK} {d:Int} (hK:100000<K) (h:Sm u) (hw:Wf u):cQ (aOa K u d) (fun v=>v=gJ u d):=by
 have hc:=hw.chain d
 have hl:=hw.len'
 refine cQ.of ?_
 unfold aOa
 refine bO.call (yK hK h) ?_
 rintro _ rfl
 have hfc:gJ u d=(chain u d).foldl (fun out c=>(dc u c).cL.foldl (iS u) out) []:=rfl
 have hin:=fun x hx=>lV (u:=u) (d:=d) (x:=x) hx
 generalize chain u d=r at hc hfc hin
 rw[hfc]
 have hds:∀ (l:List Int),Dis u (l.foldl (fun out c=>(dc u c).cL.foldl (iS u) out) []):=by
  intro l
  have:∀ (l:List Int) (out:List Int),Dis u out→Dis u (l.foldl (fun out c=>(dc u c).cL.foldl (iS u) out) out):=by
   intro l
   induction l with
   | nil=>exact fun _ h=>h
   | cons x l ih=>exact fun out h=>ih _ (uQ _ h)
  exact this l [] (Dis.nil u)
 refine bO.b5 (fun v:List Int=>v=r.foldl (fun out c=>(dc u c).cL.foldl (iS u) out) []) (bO.bQ (bO.cT ?_)) (fun v hv=>tl hv)
 refine bO.qJ r.length (fun i (t:List Int × Int)=>t=((r.take i).foldl (fun out c=>(dc u c).cL.foldl (iS u) out) [],(i:Int))) rfl (by omega) ?_ ?_
 ·rintro i hi _ rfl
  have iT:(r.take (i+1)).foldl (fun out c=>(dc u c).cL.foldl (iS u) out) []=(dc u (r.getD i default)).cL.foldl (iS u) ((r.take i).foldl (fun out c=>(dc u c).cL.foldl (iS u) out) []):=by
   rw[dZ default hi,List.foldl_append];rfl
  have hx:=hin _ (c6 (d:=default) hi)
  have hd0:=hds (r.take i)
  dsimp only
  generalize (r.take i).foldl (fun out c=>(dc u c).cL.foldl (iS u) out) []=o at iT hd0
  refine bO.bR (bO.dN (by simpa using hi) ?_)
  rw[Int.toNat_natCast]
  generalize r.getD i default=x at iT hx
  have hfl:=(hw.sz x).f
  refine bO.b5 (fun v:List Int=>v=(r.take (i+1)).foldl (fun out c=>(dc u c).cL.foldl (iS u) out) []) (bO.bQ (bO.bY (bW (by omega)) (bO.b7 (bO.bY (bW hx) (bO.b7 (bO.bR (bO.bR ?_))))))) (fun v hv=>by rw[wr (by omega) (by omega),hv];exact tr rfl)
  rw[iT]
  refine bO.b5 (fun v:List Int=>v=(dc u x).cL.foldl (iS u) o) (bO.bQ (bO.cT ?_)) (fun v hv=>tr hv)
  refine bO.qJ (dc u x).cL.length (fun j (t:List Int × Int)=>t=(((dc u x).cL.take j).foldl (iS u) o,(j:Int))) rfl (by omega) ?_ ?_
  ·rintro j hj _ rfl
   have aL5:((dc u x).cL.take (j+1)).foldl (iS u) o=iS u (((dc u x).cL.take j).foldl (iS u) o) ((dc u x).cL.getD j default):=by
    rw[dZ default hj,List.foldl_append];rfl
   have hd1:=(uQ ((dc u x).cL.take j) hd0).len
   dsimp only
   generalize ((dc u x).cL.take j).foldl (iS u) o=q at aL5 hd1
   refine bO.dN (by simpa using hj) ?_
   refine bO.b5 (fun v:List Int=>v=((dc u x).cL.take (j+1)).foldl (iS u) o) (bO.bQ (bO.bY (bW (show 0≤(j:Int)∧(j:Int)<(dc u x).cL.length by omega)) (bO.b7 (bO.call (aBH hK h) ?_)))) (fun v hv=>by rw[wr (by omega) (by omega),hv];exact tr rfl)
   rintro _ rfl
   rw[aL5,iS]
   refine bO.call aBI ?_
   rintro _ rfl
   rw[Int.toNat_natCast]
   refine bO.c8 (fun _=>aKl hK (by omega)) (fun v hv=>?_)
   refine bO.ite (fun e=>?_) (fun e=>?_)
   ·simp only[aC,beq_iff_eq,aQ] at e
    have hv:=hv (by simpa using e.1)
    rw[aE ⟨e.1,by rw[← hv];exact e.2⟩]
    exact bO.bY (cS (by rw[List.length_singleton];omega)) (bO.b7 (tr rfl))
   ·rw[aD (fun ⟨c1,c2⟩=>by
     have hv:=hv (by simpa using c1)
     rw[c2] at hv
     exact e (by rw[hv];simpa using c1))]
    exact tr rfl
  ·rintro _ rfl
   refine bO.dA (by simp) (tl ?_)
   show ((dc u x).cL.take _).foldl (iS u) o=_
   rw[bD]
 ·rintro _ rfl
  refine bO.bR (bO.dA (by simp) (tl ?_))
  show (r.take r.length).foldl _ []=_
  rw[bD]
def sfs (u:cK) (d:Int):List Int:=(gJ u d).mergeSort fun x y=>decide (x≤y)
theorem aXf {K:Nat} {l:List Int} (hl:l.length≤1000):cQ (F89 K l) (fun v=>v=l.mergeSort fun x y=>decide (x≤y)):=by
 unfold F89
 rw[aE (by omega)]
 exact ⟨_,rfl,rfl⟩
end Go.Proofs.YtdbfbedholdjaaaGreat

namespace Go.Proofs.YtdbfbedholdjaaaGreat
open Go Go.Dl
variable [dO]
set_option maxRecDepth 100000
set_option maxHeartbeats 8000000
def aFx (u:cK) (d:Int) (s:Bytes):Int:=if (l9 u d s).2=true then wI u (l9 u d s).1 else -1
def aGZ (u:cK) (d f:Int):l4:=⟨num u f 1,(dc u f).bS.map fun m=>aFx u d m.cD⟩
def desc (u:cK) (d:Int):w8 :=
 ⟨if 1<(chain u d).length then num u ((chain u d).getD 1 default) 2 else -1,dL (rJ u d),inits (rJ u d),(p6 u d).map fun s=>wI u (l9 u d s).1,(p6 u d).map fun s=>kS (sX u (l9 u d s).1),(sfs u d).map fun f=>aGZ u d f⟩
theorem aOb {u:cK} {d:Int}:∀ x∈gJ u d,0≤x∧x<u.bP.length:=by
 have key:∀ (l:List Bytes) (out:List Int),(∀ x∈out,0≤x∧x<u.bP.length)→∀ x∈l.foldl (iS u) out,0≤x∧x<u.bP.length:=by
  intro l
  induction l with
  | nil=>exact fun _ h=>h
  | cons s l ih =>
    refine fun out h=>ih _ ?_
    unfold iS
    split
    ·rename_i e
     intro x hx
     rcases aZ.1 hx with hx | hx
     ·exact h x hx
     ·rw[aJ.1 hx];exact gE e.1 (by decide)
    ·exact h
 have a5V:∀ (l:List Int) (out:List Int),(∀ x∈out,0≤x∧x<u.bP.length)→∀ x∈l.foldl (fun out c=>(dc u c).cL.foldl (iS u) out) out,0≤x∧x<u.bP.length:=by
  intro l
  induction l with
  | nil=>exact fun _ h=>h
  | cons s l ih=>exact fun out h=>ih _ (key _ _ h)
 exact a5V _ [] (fun x hx=>by cases hx)
theorem aXg {u:cK} {d:Int} {x:Int} (h:x∈sfs u d):0≤x∧x<u.bP.length:=aOb x (List.mem_mergeSort.1 h)
theorem aXh {K:Nat} {u:cK} {d:Int} (hK:100000<K) (h:Sm u) (hw:Wf u) (hk:kd u d=2):cQ (F40 K u d) (fun v=>v=desc u d):=by
 have hch:=hw.chain d
 have hl:=hw.len'
 refine cQ.of ?_
 unfold F40
 refine bO.call (uR hK h hw hk) ?_
 rintro _ ⟨rfl,hfl⟩
 refine bO.cH (by decide) (uP hK (by omega)) ?_
 rintro _ rfl
 refine bO.call (uR hK h hw hk) ?_
 rintro _ ⟨rfl,_⟩
 refine bO.call (aN4 hK (by omega)) ?_
 rintro _ rfl
 refine bO.call (yK hK h) ?_
 rintro _ rfl
 refine bO.b5 (fun v:Int=>v=if 1<(chain u d).length then num u ((chain u d).getD 1 default) 2 else -1) ?_ (fun b hb=>?_)
 ·refine bO.ite (fun e=>?_) (fun e=>?_)
  ·simp only[aB,Int.ofNat_eq_natCast] at e
   refine bO.bY (bW (by omega)) (bO.b7 ?_)
   refine bO.cH (by decide) (aBG hK h) ?_
   rintro _ rfl
   rw[aE (by omega)];exact tr rfl
  ·simp only[aB,Int.ofNat_eq_natCast] at e
   rw[aD (by omega)];exact tr rfl
 refine bO.call (aBJ hK h hw) ?_
 rintro _ ⟨rfl,hsl⟩
 refine bO.b5 (fun v:List Int × List Bytes=>v=((p6 u d).map (fun s=>wI u (l9 u d s).1),(p6 u d).map (fun s=>kS (sX u (l9 u d s).1)))) (bO.bQ (bO.cT ?_)) (fun v hv=>?_)
 ·refine bO.qJ (p6 u d).length (fun i (t:List Int × List Bytes × Int)=>t=(((p6 u d).take i).map (fun s=>wI u (l9 u d s).1),((p6 u d).take i).map (fun s=>kS (sX u (l9 u d s).1)),(i:Int))) rfl (by omega) ?_ ?_
  ·rintro n hn _ rfl
   have iT:(p6 u d).take (n+1)=(p6 u d).take n++[(p6 u d).getD n default]:=dZ default hn
   have hln:((p6 u d).take n).length≤72:=by rw[aK];omega
   have hm:=wJ (aKm hk (c6 (d:=default) hn))
   dsimp only
   refine bO.bR (bO.dN (by simpa using hn) ?_)
   rw[Int.toNat_natCast]
   generalize (p6 u d).getD n default=s at iT hm
   have hmp:=(hw.sz (l9 u d s).1.cZ).p _ (c6 (d:=default) (show (l9 u d s).1.dF.toNat<(dc u (l9 u d s).1.cZ).bS.length by have:=hm.1.2;omega))
   refine bO.b5 (fun v:List Int × List Bytes=>v=(((p6 u d).take (n+1)).map (fun s=>wI u (l9 u d s).1),((p6 u d).take (n+1)).map (fun s=>kS (sX u (l9 u d s).1)))) (bO.bQ (bO.bY (bW (by omega)) (bO.b7 (bO.call (aKk hK h) ?_)))) (fun v hv=>by rw[wr (by omega) (by omega),hv];exact tr rfl)
   rintro _ rfl
   refine bO.cH (by decide) (aCC hK hw) ?_
   rintro _ rfl
   refine bO.bY (cS (by rw[aU,List.length_singleton];omega)) (bO.b7 (bO.bY (bW hm.1.1) (bO.bY (bW hm.1.2) (bO.b7 ?_))))
   refine bO.cH (by decide) (aKn (m:=sX u (l9 u d s).1) hK (aS hmp.1 (by decide))) ?_
   rintro _ rfl
   refine bO.bY (cS (by rw[aU,List.length_singleton];omega)) (bO.b7 (tr ?_))
   rw[iT,bK,bK];rfl
  ·rintro _ rfl
   refine bO.bR (bO.dA (by simp) (tl ?_))
   show (((p6 u d).take (p6 u d).length).map _,_)=_
   rw[bD]
 subst hv
 refine bO.call (aS2 hK h hw) ?_
 rintro _ rfl
 have a8z:=qL u d
 refine bO.call (show cQ (F89 K (gJ u d)) (fun v=>v=sfs u d) from aXf (by omega)) ?_
 rintro _ rfl
 refine bO.bY (decide_eq_true (by unfold sfs;exact (List.length_mergeSort ..).symm)) (bO.b7 ?_)
 have a5W:(sfs u d).length≤12:=by unfold sfs;rw[List.length_mergeSort];omega
 have hin:=fun x (hx:x∈sfs u d)=>aXg hx
 refine bO.b5 (fun v:List l4=>v=(sfs u d).map fun f=>aGZ u d f) (bO.bQ (bO.cT ?_)) (fun tb htb=>by rw[hb,htb];exact tl rfl)
 generalize sfs u d=pK at a5W hin
 refine bO.qJ pK.length (fun i (t:List l4 × Int)=>t=((pK.take i).map (fun f=>aGZ u d f),(i:Int))) rfl (by omega) ?_ ?_
 ·rintro n hn _ rfl
  have iT:pK.take (n+1)=pK.take n++[pK.getD n default]:=dZ default hn
  have hln:(pK.take n).length≤12:=by rw[aK];omega
  have hx:=hin _ (c6 (d:=default) hn)
  dsimp only
  refine bO.bR (bO.dN (by simpa using hn) ?_)
  rw[Int.toNat_natCast]
  generalize pK.getD n default=f at iT hx
  have hfm:=(hw.sz f).m
  refine bO.b5 (fun v:List l4=>v=(pK.take (n+1)).map (fun f=>aGZ u d f)) (bO.bQ (bO.bY (bW (by omega)) (bO.b7 (bO.call (aKo hK h) ?_)))) (fun v hv=>by rw[wr (by omega) (by omega),hv];exact tr rfl)
  rintro _ rfl
  refine bO.bY (bW hx) (bO.b7 (bO.bR (bO.bR ?_)))
  refine bO.b5 (fun v:List Int=>v=(dc u f).bS.map fun m=>aFx u d m.cD) (bO.bQ (bO.cT ?_)) (fun sl hsl=>?_)
  ·refine bO.qJ (dc u f).bS.length (fun j (s:List Int × Int)=>s=(((dc u f).bS.take j).map (fun m=>aFx u d m.cD),(j:Int))) rfl (by omega) ?_ ?_
   ·rintro j hj _ rfl
    have aL5:(dc u f).bS.take (j+1)=(dc u f).bS.take j++[(dc u f).bS.getD j default]:=dZ default hj
    have hlj:((dc u f).bS.take j).length≤6:=by rw[aK];omega
    dsimp only
    refine bO.dN (by simpa using hj) ?_
    refine bO.b5 (fun v:List Int=>v=((dc u f).bS.take (j+1)).map (fun m=>aFx u d m.cD)) (bO.bQ (bO.bY (bW (show 0≤(j:Int)∧(j:Int)<(dc u f).bS.length by omega)) (bO.b7 (bO.bR ?_)))) (fun v hv=>by rw[wr (by omega) (by omega),hv];exact tr rfl)
    refine bO.cH (by decide) (aXe hK h hw) ?_
    rintro _ rfl
    refine bO.bY (cS (by rw[aU,List.length_singleton];omega)) (bO.b7 (tr ?_))
    rw[aL5,bK,Int.toNat_natCast];rfl
   ·rintro _ rfl
    refine bO.dA (by simp) (tl ?_)
    show ((dc u f).bS.take (dc u f).bS.length).map _=_
    rw[bD]
  ·refine bO.bY (cS (by rw[aU,List.length_singleton];omega)) (bO.b7 (tr ?_))
   rw[iT,bK,hsl];rfl
 ·rintro _ rfl
  refine bO.bR (bO.dA (by simp) (tl ?_))
  show (pK.take pK.length).map _=_
  rw[bD]
end Go.Proofs.YtdbfbedholdjaaaGreat

namespace Go.Proofs.YtdbfbedholdjaaaGreat
open Go Go.Dl
variable [dO]
set_option maxRecDepth 100000
set_option maxHeartbeats 8000000
def lnk (u:cK) (d:Int) (x:eZ):gV:=⟨glb u d x.cD,x.iP,(x.cB.bU:Int) == 2⟩
def pL (u:cK) (d:Int) (s:fF) (x:eZ):fF :=
 if x.cB.bU=6 then ⟨s.cL,s.cO,s.dI,s.dW++[num u (vC u x.cB.cD) 2],s.dJ,s.dM,s.b8,s.fY,s.eP,s.eN,s.fD,s.fW⟩
 else if x.cB.bU=7 then ⟨s.cL,s.cO,s.dI,s.dW,s.dJ,s.dM,s.b8++[x.cB.fLo],s.fY,s.eP,s.eN,s.fD,s.fW⟩
 else if x.kE=1 then ⟨s.cL,s.cO,s.dI,s.dW,s.dJ,s.dM,s.b8,s.fY++[lnk u d x],s.eP,s.eN,s.fD,s.fW⟩
 else if x.kE=2 then ⟨s.cL,s.cO,s.dI,s.dW,s.dJ,s.dM,s.b8,s.fY,s.eP++[lnk u d x],s.eN,s.fD,s.fW⟩
 else s
theorem aXj {u:cK} {d:Int} {k:Nat} {s:fF} (h:Nt k s) (x:eZ):Nt (k+1) (pL u d s x):=by
 obtain ⟨h1,h2,h3,h4⟩:=h
 unfold pL
 split
 ·exact ⟨by rw[aG,List.length_singleton];omega,by dsimp only;omega,by dsimp only;omega,by dsimp only;omega⟩
 split
 ·exact ⟨by dsimp only;omega,by rw[aG,List.length_singleton];omega,by dsimp only;omega,by dsimp only;omega⟩
 split
 ·exact ⟨by dsimp only;omega,by dsimp only;omega,by rw[aG,List.length_singleton];omega,by dsimp only;omega⟩
 split
 ·exact ⟨by dsimp only;omega,by dsimp only;omega,by dsimp only;omega,by rw[aG,List.length_singleton];omega⟩
 ·exact ⟨by omega,by omega,by omega,by omega⟩
theorem aBK {u:cK} {d:Int}:∀ (l:List eZ) {k:Nat} {s:fF},Nt k s→Nt (k+l.length) (l.foldl (pL u d) s)
 | [],_,_,h=>h
 | x::l,k,s,h=>by
   have:=aBK (u:=u) (d:=d) l (aXj (u:=u) (d:=d) h x)
   rw[List.foldl_cons,List.length_cons]
   obtain ⟨h1,h2,h3,h4⟩:=this
   exact ⟨by omega,by omega,by omega,by omega⟩
theorem aXk {K:Nat} {u:cK} {d:Int} {s:fF} (hK:100000<K) (h:Sm u) (hw:Wf u) (hk:kd u d=3) (hs:Nt 1000 s):cQ (F41 K u d s) (fun v=>v=(dc u d).cA.foldl (pL u d) s):=by
 have hd:=gE hk (by decide)
 have hvl:=(hw.sz d).v
 refine cQ.of ?_
 unfold F41
 refine bO.bY (bW hd) (bO.b7 (bO.bR (bO.bR ?_)))
 refine bO.b5 (fun v:fF=>v=(dc u d).cA.foldl (pL u d) s) (bO.bQ (bO.cT ?_)) (fun v hv=>tr hv)
 show bO (iter K _ (s,0)) _
 change (u.bP.getD d.toNat default).cA.length≤8 at hvl
 show bO _ (sE (fun v=>v=(u.bP.getD d.toNat default).cA.foldl (pL u d) s) _)
 generalize (u.bP.getD d.toNat default).cA=l at hvl
 refine bO.qJ l.length (fun i (t:fF × Int)=>t=((l.take i).foldl (pL u d) s,(i:Int))) rfl (by omega) ?_ ?_
 ·rintro i hi _ rfl
  have iT:(l.take (i+1)).foldl (pL u d) s=pL u d ((l.take i).foldl (pL u d) s) (l.getD i default):=by
   rw[dZ default hi,List.foldl_append];rfl
  have hnt:=aBK (u:=u) (d:=d) (l.take i) hs
  rw[aK] at hnt
  dsimp only
  generalize (l.take i).foldl (pL u d) s=o at iT hnt
  obtain ⟨n1,n2,n3,n4⟩:=hnt
  refine bO.dN (by simpa using hi) ?_
  rw[Int.toNat_natCast]
  generalize l.getD i default=x at iT
  refine bO.b5 (fun v:fF=>v=(l.take (i+1)).foldl (pL u d) s) (bO.bQ (bO.bY (bW (by omega)) (bO.b7 (bO.cH (by decide) (aN9 hK h hw) ?_)))) (fun v hv=>by rw[wr (by omega) (by omega),hv];exact tr rfl)
  rintro _ rfl
  rw[iT]
  refine bO.b5 (fun v:fF=>v=pL u d o x) (bO.bQ (bO.bR ?_)) (fun v hv=>tr hv)
  refine bO.ite (fun e1=>bO.bR ?_) (fun e1=>bO.bR ?_)
  ·have e1:=beq_iff_eq.1 e1
   refine bO.cH (by decide) (aBH hK h) ?_
   rintro _ rfl
   refine bO.cH (by decide) (aBG hK h) ?_
   rintro _ rfl
   refine bO.bY (cS (by rw[List.length_singleton];omega)) (bO.b7 (tr ?_))
   rw[pL,aE e1]
  have e1:¬ x.cB.bU=6:=fun q=>e1 (beq_iff_eq.2 q)
  refine bO.ite (fun e2=>bO.bR ?_) (fun e2=>bO.bR ?_)
  ·have e2:=beq_iff_eq.1 e2
   refine bO.bY (cS (by rw[List.length_singleton];omega)) (bO.b7 (tr ?_))
   rw[pL,aD e1,aE e2]
  have e2:¬ x.cB.bU=7:=fun q=>e2 (beq_iff_eq.2 q)
  refine bO.ite (fun e3=>?_) (fun e3=>bO.bR ?_)
  ·have e3:=beq_iff_eq.1 e3
   refine bO.bY (cS (by rw[List.length_singleton];omega)) (bO.b7 (tr ?_))
   rw[pL,aD e1,aD e2,aE e3];rfl
  have e3:¬ x.kE=1:=fun q=>e3 (beq_iff_eq.2 q)
  refine bO.ite (fun e4=>?_) (fun e4=>?_)
  ·have e4:=beq_iff_eq.1 e4
   refine bO.bY (cS (by rw[List.length_singleton];omega)) (bO.b7 (tr ?_))
   rw[pL,aD e1,aD e2,aD e3,aE e4];rfl
  ·have e4:¬ x.kE=2:=fun q=>e4 (beq_iff_eq.2 q)
   refine tr ?_
   rw[pL,aD e1,aD e2,aD e3,aD e4]
 ·rintro _ rfl
  refine bO.dA (by simp) (tl ?_)
  show (l.take l.length).foldl _ s=_
  rw[bD]
end Go.Proofs.YtdbfbedholdjaaaGreat

namespace Go.Proofs.YtdbfbedholdjaaaGreat
open Go Go.Dl
variable [dO]
set_option maxRecDepth 100000
set_option maxHeartbeats 8000000
def thT (s:fF):T9:=(s.cL,s.cO,s.dI,s.dW,s.dJ,s.dM,s.b8,s.fY,s.eP,s.eN,s.fD,s.fW)
abbrev T13:Type:=(List (List Bytes)) × (List w8) × (List sL) × (List Int) × Bytes × (List Int) × (List Int) × (List gV) × (List gV) × (List S85) × Int × Int × Int
def aL6 (s:fF) (i:Nat):T13:=(s.cL,s.cO,s.dI,s.dW,s.dJ,s.dM,s.b8,s.fY,s.eP,s.eN,s.fD,s.fW,(i:Int))
def stp (u:cK) (s:fF) (n:Nat):fF :=
 if (u.bP.getD n default).bU=1 then ⟨s.cL++[(u.bP.getD n default).bS.map kS],s.cO,s.dI,s.dW,s.dJ,s.dM,s.b8,s.fY,s.eP,s.eN,s.fD,s.fW⟩
 else if (u.bP.getD n default).bU=2 then ⟨s.cL,s.cO++[desc u n],s.dI,s.dW,s.dJ,s.dM,s.b8,s.fY,s.eP,s.eN,s.fD,s.fW⟩
 else if (u.bP.getD n default).bU=3 then (u.bP.getD n default).cA.foldl (pL u n) s
 else if (u.bP.getD n default).bU=4 then ⟨s.cL,s.cO,s.dI,s.dW,s.dJ,s.dM,s.b8,s.fY,s.eP,s.eN++[⟨wI u ⟨vC u (u.bP.getD n default).gF,-1⟩,(u.bP.getD n default).mG,(u.bP.getD n default).mH⟩],s.fD,s.fW⟩
 else s
def lay (u:cK) (n:Nat) (s:fF):fF:=(List.range n).foldl (stp u) s
def im0 (g:Bytes) (i:List Int):fF:=⟨[],[],[],[],g,i,[],[],[],[],0,0⟩
def aEH (s:fF) (c:List sL):fF:=⟨s.cL,s.cO,c,s.dW,s.dJ,s.dM,s.b8,s.fY,s.eP,s.eN,s.fD,s.fW⟩
def img (u:cK):fF:=aEH (lay u u.bP.length (im0 (dL (pv u.bP)) (inits (pv u.bP)))) ((j0 u).map (l8 u))
theorem qM (u:cK) (n:Nat) (s:fF):lay u (n+1) s=stp u (lay u n s) n:=by
 unfold lay;rw[List.range_succ,List.foldl_append];rfl
structure Kp (a b:fF):Prop where
 f:b.cL=a.cL
 c:b.cO=a.cO
 o:b.dI=a.dI
 g:b.dJ=a.dJ
 i:b.dM=a.dM
 j:b.eN=a.eN
 d:b.fD=a.fD
 w:b.fW=a.fW
theorem aXm (u:cK) (d:Int) (s:fF) (x:eZ):Kp s (pL u d s x):=by
 unfold pL
 split
 ·exact ⟨rfl,rfl,rfl,rfl,rfl,rfl,rfl,rfl⟩
 split
 ·exact ⟨rfl,rfl,rfl,rfl,rfl,rfl,rfl,rfl⟩
 split
 ·exact ⟨rfl,rfl,rfl,rfl,rfl,rfl,rfl,rfl⟩
 split <;> exact ⟨rfl,rfl,rfl,rfl,rfl,rfl,rfl,rfl⟩
theorem aFy (u:cK) (d:Int):∀ (l:List eZ) (s:fF),Kp s (l.foldl (pL u d) s)
 | [],s=>⟨rfl,rfl,rfl,rfl,rfl,rfl,rfl,rfl⟩
 | x::l,s=>by
   have h1:=aXm u d s x
   have h2:=aFy u d l (pL u d s x)
   rw[List.foldl_cons]
   exact ⟨h2.f.trans h1.f,h2.c.trans h1.c,h2.o.trans h1.o,h2.g.trans h1.g,h2.i.trans h1.i,h2.j.trans h1.j,h2.d.trans h1.d,h2.w.trans h1.w⟩
structure Mi (n:Nat) (s:fF):Prop where
 f:s.cL.length≤n
 c:s.cO.length≤n
 j:s.eN.length≤n
 t:Nt (8 * n) s
 o:s.dI=[]
theorem aXn {u:cK} (hw:Wf u) {n:Nat} {s:fF} (h:Mi n s):Mi (n+1) (stp u s n):=by
 obtain ⟨h1,h2,h3,⟨t1,t2,t3,t4⟩,h5⟩:=h
 unfold stp
 split
 ·exact ⟨by rw[aG,List.length_singleton];omega,by dsimp only;omega,by dsimp only;omega,⟨by dsimp only;omega,by dsimp only;omega,by dsimp only;omega,by dsimp only;omega⟩,h5⟩
 split
 ·exact ⟨by dsimp only;omega,by rw[aG,List.length_singleton];omega,by dsimp only;omega,⟨by dsimp only;omega,by dsimp only;omega,by dsimp only;omega,by dsimp only;omega⟩,h5⟩
 split
 ·have hv:=(hw.sz (n:Int)).v
  rw[dc,Int.toNat_natCast] at hv
  have hk:=aFy u n (u.bP.getD n default).cA s
  obtain ⟨q1,q2,q3,q4⟩:=aBK (u:=u) (d:=n) (u.bP.getD n default).cA (s:=s) (k:=8 * n) ⟨t1,t2,t3,t4⟩
  exact ⟨by rw[hk.f];omega,by rw[hk.c];omega,by rw[hk.j];omega,⟨by omega,by omega,by omega,by omega⟩,by rw[hk.o];exact h5⟩
 split
 ·exact ⟨by dsimp only;omega,by dsimp only;omega,by rw[aG,List.length_singleton];omega,⟨by dsimp only;omega,by dsimp only;omega,by dsimp only;omega,by dsimp only;omega⟩,h5⟩
 ·exact ⟨by omega,by omega,by omega,⟨by omega,by omega,by omega,by omega⟩,h5⟩
theorem aCH {u:cK} (hw:Wf u) (g:Bytes) (i:List Int):∀ n,Mi n (lay u n (im0 g i))
 | 0=>⟨aM _,aM _,aM _,⟨aM _,aM _,aM _,aM _⟩,rfl⟩
 | n+1=>by rw[qM];exact aXn hw (aCH hw g i n)
theorem aOc {u:cK} {w:dS} (h:w∈j0 u):Cd u w:=by
 unfold j0 at h
 rcases aZ.1 h with h | h
 ·obtain ⟨d,hd,h⟩:=List.mem_flatMap.1 h
  have hd:=List.mem_range.1 hd
  unfold mws at h
  split at h
  ·obtain ⟨m,hm,rfl⟩:=List.mem_map.1 h
   have hm:=List.mem_range.1 (List.mem_filter.1 hm).1
   refine .inr ⟨⟨by dsimp only;omega,by dsimp only;omega⟩,by dsimp only;omega,?_⟩
   show (m:Int)<(u.bP.getD ((d:Int).toNat) default).bS.length
   rw[Int.toNat_natCast];omega
  ·cases h
 ·obtain ⟨d,hd,h⟩:=List.mem_flatMap.1 h
  unfold pws at h
  split at h
  ·rw[aJ.1 h];exact .inl (show (-1:Int)<0 by decide)
  ·cases h
theorem a0F {K:Nat} {u:cK} (hK:100000<K) (h:Sm u) (hw:Wf u):cQ (F9 K u) (fun v=>v=img u):=by
 have hl:=hw.len'
 have hpv:=aCI hw.all
 refine cQ.of ?_
 unfold F9
 refine bO.call (aKp hK hw) ?_
 rintro _ rfl
 refine bO.cH (by decide) (uP hK (by omega)) ?_
 rintro _ rfl
 refine bO.call (aKp hK hw) ?_
 rintro _ rfl
 refine bO.call (aSX hK (by omega)) ?_
 rintro _ rfl
 have hmi:=aCH hw (dL (pv u.bP)) (inits (pv u.bP))
 refine bO.b5 (fun v:T9=>v=thT (lay u u.bP.length (im0 (dL (pv u.bP)) (inits (pv u.bP))))) (bO.bQ (bO.cT ?_)) ?_
 ·refine bO.qJ u.bP.length (fun i (t:T13)=>t=aL6 (lay u i (im0 (dL (pv u.bP)) (inits (pv u.bP)))) i) rfl (by omega) ?_ ?_
  ·rintro n hn _ rfl
   have hm:=hmi n
   have hs:=qM u n (im0 (dL (pv u.bP)) (inits (pv u.bP)))
   generalize lay u n (im0 (dL (pv u.bP)) (inits (pv u.bP)))=s at hm hs
   obtain ⟨m1,m2,m3,⟨t1,t2,t3,t4⟩,m5⟩:=hm
   have hkd:=yJ (u:=u) (d:=n) ⟨by omega,by omega⟩
   have hdn:dc u n=u.bP.getD n default:=by rw[dc,Int.toNat_natCast]
   have hsz:=hw.sz n
   rw[hdn] at hkd hsz
   have hm:=hsz.m
   have hp:=hsz.p
   unfold aL6
   dsimp only
   refine bO.bR (bO.dN (by simpa using hn) ?_)
   refine bO.b5 (fun v:fF=>v=lay u (n+1) (im0 (dL (pv u.bP)) (inits (pv u.bP)))) (bO.bQ (bO.bY (bW (by omega)) (bO.b7 (bO.bR ?_)))) (fun v hv=>by rw[hv,wr (by omega) (by omega)];exact bO.bR (tr rfl))
   rw[hs,Int.toNat_natCast]
   refine bO.b5 (fun v:fF=>v=stp u s n) (bO.bQ (bO.ite (fun e1=>bO.bR (bO.bR ?_)) (fun e1=>bO.ite (fun e2=>?_) (fun e2=>bO.ite (fun e3=>?_) (fun e3=>bO.ite (fun e4=>bO.bR ?_) (fun e4=>?_)))))) (fun v hv=>tr hv)
   ·have e1:=beq_iff_eq.1 e1
    rw[stp,aE e1]
    generalize (u.bP.getD n default).bS=ms at hm hp
    refine bO.b5 (fun v:List Bytes=>v=ms.map kS) (bO.bQ (bO.cT ?_)) (fun sg hsg=>?_)
    ·refine bO.qJ ms.length (fun j (t:List Bytes × Int)=>t=((ms.take j).map kS,(j:Int))) rfl (by omega) ?_ ?_
     ·rintro j hj _ rfl
      have iT:ms.take (j+1)=ms.take j++[ms.getD j default]:=dZ default hj
      have hlj:(ms.take j).length≤6:=by rw[aK];omega
      have hpm:=hp _ (c6 (d:=default) hj)
      dsimp only
      refine bO.dN (by simpa using hj) ?_
      refine bO.b5 (fun v:List Bytes=>v=(ms.take (j+1)).map kS) (bO.bQ (bO.bY (bW (by omega)) (bO.b7 (bO.call (aKn hK (by rw[Int.toNat_natCast];exact aS hpm.1 (by decide))) ?_)))) (fun v hv=>by rw[wr (by omega) (by omega),hv];exact tr rfl)
      rintro _ rfl
      refine bO.bY (cS (by rw[aU,List.length_singleton];omega)) (bO.b7 (tr ?_))
      rw[iT,bK,Int.toNat_natCast];rfl
     ·rintro _ rfl
      refine bO.dA (by simp) (tl ?_)
      show (ms.take ms.length).map _=_
      rw[bD]
    ·refine bO.bY (cS (by rw[List.length_singleton];omega)) (bO.b7 (tr ?_))
     rw[hsg]
   ·have e2:=beq_iff_eq.1 e2
    refine bO.call (aXh hK h hw (by rw[hkd];exact e2)) ?_
    rintro _ rfl
    refine bO.bY (cS (by rw[List.length_singleton];omega)) (bO.b7 (tr ?_))
    rw[stp,aD (by omega),aE e2]
   ·have e3:=beq_iff_eq.1 e3
    refine bO.call (aXk hK h hw (by rw[hkd];exact e3) ⟨by dsimp only;omega,by dsimp only;omega,by dsimp only;omega,by dsimp only;omega⟩) ?_
    rintro _ rfl
    refine tr ?_
    rw[stp,aD (by omega),aD (by omega),aE e3,hdn]
   ·have e4:=beq_iff_eq.1 e4
    refine bO.call (aBH hK h) ?_
    rintro _ rfl
    refine bO.bR (bO.bR ?_)
    refine bO.cH (by decide) (aCC hK hw) ?_
    rintro _ rfl
    refine bO.bY (cS (by rw[List.length_singleton];omega)) (bO.b7 (tr ?_))
    rw[stp,aD (by omega),aD (by omega),aD (by omega),aE e4]
   ·simp only[beq_iff_eq] at e1 e2 e3 e4
    refine tr ?_
    rw[stp,aD e1,aD e2,aD e3,aD e4]
  ·rintro _ rfl
   exact bO.bR (bO.dA (by simp [aL6]) (tl rfl))
 ·rintro _ rfl
  have hm:=(hmi u.bP.length).o
  unfold img
  generalize lay u u.bP.length (im0 (dL (pv u.bP)) (inits (pv u.bP)))=s at hm
  refine bO.call (aN5 hK hw) ?_
  rintro _ rfl
  have rB:=qK hw
  have hcd:=fun w (hw2:w∈j0 u)=>aOc hw2
  generalize j0 u=r at rB hcd
  refine bO.b5 (fun o:List sL=>o=r.map (l8 u)) (bO.bQ (bO.cT ?_)) (fun o ho=>by rw[ho];exact tl rfl)
  refine bO.qJ r.length (fun i (t:List sL × Int)=>t=((r.take i).map (l8 u),(i:Int))) (by unfold thT;rw[hm];rfl) (by omega) ?_ ?_
  ·rintro i hi _ rfl
   have iT:r.take (i+1)=r.take i++[r.getD i default]:=dZ default hi
   have hli:(r.take i).length≤84:=by rw[aK];omega
   have hc:=hcd _ (c6 (d:=default) hi)
   dsimp only
   refine bO.bR (bO.dN (by simpa using hi) ?_)
   refine bO.b5 (fun v:List sL=>v=(r.take (i+1)).map (l8 u)) (bO.bQ (bO.bY (bW (by omega)) (bO.b7 (bO.call (aXd hK h hw (by rw[Int.toNat_natCast];exact hc)) ?_)))) (fun v hv=>by rw[wr (by omega) (by omega),hv];exact tr rfl)
   rintro _ rfl
   refine bO.bY (cS (by rw[aU,List.length_singleton];omega)) (bO.b7 (tr ?_))
   rw[iT,bK,Int.toNat_natCast];rfl
  ·rintro _ rfl
   refine bO.bR (bO.dA (by simp) (tl ?_))
   show (r.take r.length).map _=_
   rw[bD]
end Go.Proofs.YtdbfbedholdjaaaGreat
