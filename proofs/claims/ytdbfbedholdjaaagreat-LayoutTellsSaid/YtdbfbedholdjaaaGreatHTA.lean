/- No conditions. -/
import Derived.Test.YtdbfbedholdjaaaGreatHEA
import Derived.Test.YtdbfbedholdjaaaGreatHUG
import Derived.Test.YtdbfbedholdjaaaGreatHLo
import Derived.Test.YtdbfbedholdjaaaGreatHEB
set_option linter.unusedVariables false
set_option linter.unusedSimpArgs false
set_option linter.unusedSectionVars false
namespace Go.Proofs.YtdbfbedholdjaaaGreat
open Go Go.Dl
variable [dO]
set_option maxRecDepth 100000
set_option maxHeartbeats 8000000
theorem aQQ {K:Nat} {u:cK} {d k:Int} (hK:100000<K) (hk:k≠0) (h:Sm u):cQ (F66 K u d k) (fun v=>v=num u d k):=by
 have hl:=h.len
 refine cQ.of ?_
 unfold F66 num
 refine bO.call iU ?_
 rintro _ rfl
 refine bO.ite (fun e=>?_) (fun e=>?_)
 ·simp only[bne_iff_ne,ne_eq] at e
  rw[aD e];exact tl rfl
 simp only[bne_iff_ne,ne_eq,Decidable.not_not] at e
 have hd:=gE e hk
 rw[aE e]
 obtain ⟨n,rfl⟩:=aP hd.1
 have hn:n<u.bP.length:=by omega
 rw[Int.toNat_natCast]
 refine bO.b5 (fun v:Int=>v=((u.bP.take n).countP fun x=>x.bU == k:Nat)) (bO.bQ (bO.cT ?_)) (fun v hv=>tl hv)
 refine bO.qJ n (fun i (t:Int × Int)=>t=((((u.bP.take i).countP fun x=>x.bU == k:Nat):Int),(i:Int))) (by simp) (by omega) ?_ ?_
 ·rintro i hi _ rfl
  have iT:(u.bP.take (i+1)).countP (fun x=>x.bU == k)=(u.bP.take i).countP (fun x=>x.bU == k)+(if ((u.bP.getD i default).bU == k)=true then 1 else 0):=by
   rw[dZ default (by omega),List.countP_append,List.countP_singleton]
  have hc:(u.bP.take i).countP (fun x=>x.bU == k)≤i:=aS List.countP_le_length (by rw[aK];omega)
  dsimp only
  refine bO.dN (by simpa using hi) ?_
  rw[Int.toNat_natCast]
  refine bO.b5 (fun v:Int=>v=((u.bP.take (i+1)).countP fun x=>x.bU == k:Nat)) (bO.bQ (bO.bY (bW (by omega)) (bO.b7 (bO.bR (bO.ite (fun e2=>?_) (fun e2=>?_)))))) (fun v hv=>by rw[wr (by omega) (by omega),hv];exact tr rfl)
  ·rw[aE e2] at iT
   rw[wr (by omega) (by omega)]
   refine tr ?_
   omega
  ·rw[aD e2] at iT
   refine tr ?_
   omega
 ·rintro _ rfl
  exact bO.dA (by simp) (tl rfl)
theorem aGc {K:Nat} {u:cK} {d:Int} (hK:100000<K) (h:Sm u):cQ (F21 K u d) (fun v=>v=num u d 2):=by
 refine cQ.of ?_
 unfold F21
 refine bO.call (aQQ hK (by decide) h) ?_
 rintro _ rfl
 exact tl rfl
theorem aQR {K:Nat} {u:cK} {d:Int} (hK:100000<K) (h:Sm u):cQ (F23 K u d) (fun v=>v=num u d 1):=by
 refine cQ.of ?_
 unfold F23
 refine bO.call (aQQ hK (by decide) h) ?_
 rintro _ rfl
 exact tl rfl
theorem aQS {K:Nat} {u:cK} (hK:100000<K) (hw:Wf u):cQ (F62 K u) (fun v=>v=j0 u):=by
 have hl:=hw.len'
 refine cQ.of ?_
 unfold F62
 refine bO.b5 (fun v:List dS=>v=mcs u u.bP.length) (bO.bQ (bO.cT ?_)) ?_
 ·refine bO.qJ u.bP.length (fun i (t:List dS × Int)=>t=(mcs u i,(i:Int))) rfl (by omega) ?_ ?_
  ·rintro i hi _ rfl
   have h1:=uM hw i
   have hm:=(hw.sz (i:Int)).m
   rw[dc,Int.toNat_natCast] at hm
   have hs:=aCA u i
   dsimp only
   refine bO.bR (bO.dN (by simpa using hi) ?_)
   rw[Int.toNat_natCast]
   generalize u.bP.getD i default=D at hm hs
   refine bO.b5 (fun v:List dS=>v=mcs u (i+1)) (bO.bQ ?_) (fun v hv=>by rw[wr (by omega) (by omega),hv];exact tr rfl)
   refine bO.b5 (fun v:List dS=>v=mcs u (i+1)) (bO.bQ (bO.cT ?_)) (fun v hv=>tr hv)
   by_cases e:D.bU=2
   ·refine bO.qJ D.bS.length (fun j (t:List dS × Int)=>t=(mcs u i++((List.range j).filter fun m=>!(D.bS.getD m default).eT).map fun m:Nat=>(⟨(i:Int),(m:Int)⟩:dS),(j:Int))) (by simp) (by omega) ?_ ?_
    ·rintro j hj _ rfl
     have hfl:((List.range j).filter fun m=>!(D.bS.getD m default).eT).length≤j:=aS (List.length_filter_le ..) (by rw[List.length_range];exact aM _)
     dsimp only
     refine bO.bY (bW (by omega)) (bO.bY (by rw[bW (by omega)];simp) (bO.b7 (bO.bR (bO.dN (by simp [e];omega) ?_))))
     rw[Int.toNat_natCast]
     refine bO.b5 (fun v:List dS=>v=mcs u i++((List.range (j+1)).filter fun m=>!(D.bS.getD m default).eT).map fun m:Nat=>(⟨(i:Int),(m:Int)⟩:dS)) (bO.bQ (bO.bY (bW (by omega)) (bO.bY (bW (by omega)) (bO.b7 (bO.bR ?_))))) (fun v hv=>by rw[wr (by omega) (by omega),hv];exact tr rfl)
     rw[List.range_succ,List.filter_append,bK]
     refine bO.ite (fun e2=>?_) (fun e2=>?_)
     ·refine bO.bY (cS (by rw[aG,aU,List.length_singleton];omega)) (bO.b7 (tr ?_))
      rw[bJ]
      simp only[List.filter_cons,e2,if_true,List.filter_nil,List.map_cons,List.map_nil]
     ·refine tr ?_
      simp only[List.filter_cons,e2,List.filter_nil,List.map_nil,bN,aR,if_false]
    ·rintro _ rfl
     dsimp only
     refine bO.bY (bW (by omega)) (bO.bY (by rw[bW (by omega)];simp) (bO.b7 (bO.bR (bO.dA (by simp) (tl ?_)))))
     show _=_
     rw[hs,mws,aE e]
   ·refine bO.qJ 0 (fun j (t:List dS × Int)=>t=(mcs u i,(j:Int))) rfl (by omega) (fun j hj=>absurd hj (by omega)) ?_
    rintro _ rfl
    dsimp only
    refine bO.bY (bW (by omega)) (bO.bY (by rw[bW (by omega)];simp) (bO.b7 (bO.bR (bO.dA (by simp [e]) (tl ?_)))))
    show _=_
    rw[hs,mws,aD e,bN]
  ·rintro _ rfl
   exact bO.bR (bO.dA (by simp) (tl rfl))
 ·rintro _ rfl
  refine bO.b5 (fun v:List dS=>v=j0 u) (bO.bQ (bO.cT ?_)) (fun v hv=>tl hv)
  have uJ:=uM hw u.bP.length
  refine bO.qJ u.bP.length (fun i (t:List dS × Int)=>t=(mcs u u.bP.length++pcs u i,(i:Int))) (by simp [pcs]) (by omega) ?_ ?_
  ·rintro i hi _ rfl
   have h2:=yH u i
   have hp:=aCB u i
   dsimp only
   refine bO.bR (bO.dN (by simpa using hi) ?_)
   rw[Int.toNat_natCast]
   generalize u.bP.getD i default=D at hp
   refine bO.b5 (fun v:List dS=>v=mcs u u.bP.length++pcs u (i+1)) (bO.bQ (bO.bY (bW (by omega)) (bO.b7 (bO.bR (bO.ite (fun e=>?_) (fun e=>?_)))))) (fun v hv=>by rw[wr (by omega) (by omega),hv];exact tr rfl)
   ·have e:=beq_iff_eq.1 e
    refine bO.bY (cS (by rw[aG,List.length_singleton];omega)) (bO.b7 (tr ?_))
    rw[hp,pws,aE e,bJ]
   ·simp only[beq_iff_eq] at e
    refine tr ?_
    rw[hp,pws,aD e,bN]
  ·rintro _ rfl
   exact bO.bR (bO.dA (by simp) (tl rfl))
theorem aGd {K:Nat} {u:cK} {w:dS} (hK:100000<K) (hw:Wf u):cQ (F24 K u w) (fun v=>v=wI u w):=by
 have hl:=qK hw
 refine cQ.of ?_
 unfold F24
 refine bO.call (aQS hK hw) ?_
 rintro _ rfl
 unfold wI
 generalize j0 u=l at hl
 refine bO.b5 (fun _=>ix (isW w) l = -1) (bO.bQ (bO.cT ?_)) (fun _ h=>tl h.symm)
 refine bO.upI l.length (fun i=>isW w (l.getD i default)=false) (by omega) (fun i hi hb=>?_) (fun hb=>?_)
 ·refine bO.bR (bO.dN (by simpa using hi) ?_)
  refine bO.b5 (fun _=>isW w (l.getD i default)=false) (bO.bQ (bO.bY (bW (by omega)) (bO.b7 (bO.bR ?_)))) (fun _ h=>by rw[wr (by omega) (by omega)];exact tr ⟨rfl,h⟩)
  rw[Int.toNat_natCast]
  have hc:isW w (l.getD i default)=((((l.getD i default).cZ:Int) == w.cZ) && ((((l.getD i default).dF:Int) == w.dF) && true)):=by
   unfold isW
   rw[Bool.beq_eq_decide_eq,Bool.beq_eq_decide_eq,Bool.beq_eq_decide_eq,Bool.beq_eq_decide_eq]
   simp only[eq_comm]
  refine bO.ite (fun e=>?_) (fun e=>?_)
  ·rw[← hc] at e
   exact tl (aAS (z:=default) hi hb e).symm
  ·rw[← hc] at e
   exact tr (Bool.eq_false_iff.2 e)
 ·exact bO.bR (bO.dA (by simp) (tl (yI (z:=default) hb)))
theorem zD {K:Nat} {t:fS} (h:tyV t):cQ (aHo K t) (fun v=>v=(rn t:Int)):=by
 have hr:=aWc (x:=⟨[],t,0,0,0⟩) h
 dsimp only at hr
 refine cQ.of ?_
 unfold aHo
 refine bO.b5 (fun _=>¬ t.bU=6∧¬ t.bU=7∧¬ t.bU=4) (bO.bQ ?_) (fun _ hq=>by rw[aD hq.1,aD hq.2.1,aD hq.2.2] at hr;exact tl hr.symm)
 refine bO.b5 (fun v:Bool=>v=decide (t.bU=6∨t.bU=7)) ?_ (fun v hv=>?_)
 ·refine bO.ite (fun e=>?_) (fun e=>?_)
  ·have e':=beq_iff_eq.1 e
   exact tr (by simp [e'])
  ·have e':¬ t.bU=6:=fun q=>e (beq_iff_eq.2 q)
   refine tr ?_
   simp only[e',false_or]
   exact Bool.beq_eq_decide_eq ..
 rw[hv]
 refine bO.ite (fun e=>?_) (fun e=>?_)
 ·have e:=of_decide_eq_true e
  refine bO.ret (sE.l (sE.r ?_))
  show (0:Int)=_
  rcases e with e | e
  ·rw[hr,aE e]
  ·rw[hr,aD (by omega),aE e]
 have e:¬ (t.bU=6∨t.bU=7):=fun q=>e (decide_eq_true q)
 refine bO.ite (fun e2=>?_) (fun e2=>?_)
 ·have e2:=beq_iff_eq.1 e2
  have hb:0≤t.zO∧t.zO<8:=by unfold tyV tyF tyP at h;omega
  refine bO.ret (sE.l (sE.r ?_))
  show _=_
  rw[wr (by omega) (by omega),hr,aD (by omega),aD (by omega),aE e2]
 ·simp only[beq_iff_eq] at e2
  exact bO.ret (sE.r ⟨by omega,by omega,e2⟩)
theorem aQT (l:Bytes) (i:Nat):Lib.repeatL l (i+1)=Lib.repeatL l i++l:=by
 rw[Lib.repeatL_add,Lib.repeatL_one]
def lt1 (t:fS):Bytes:=Lib.repeatL (ltr t) (rn t)
theorem aLb (t:fS):(lt1 t).length=rn t:=aGe t _
theorem aLc {K:Nat} {t:fS} (hK:100000<K) (h:tyV t):cQ (aMx K t) (fun v=>v=lt1 t):=by
 have hb:=rZ t
 refine cQ.of ?_
 unfold aMx
 refine bO.ite (fun e=>?_) (fun e=>?_)
 ·have e:=beq_iff_eq.1 e
  have hr:=aWc (x:=⟨[],t,0,0,0⟩) h
  dsimp only at hr
  rw[aD (by omega),aD (by omega),aD (by omega)] at hr
  refine tl ?_
  unfold lt1 ltr
  rw[aE e,show rn t=1 by omega,Lib.repeatL_one]
 simp only[beq_iff_eq] at e
 have hlt:ltr t=[105]:=by unfold ltr;rw[aD e]
 refine bO.b5 (fun v:Bytes=>v=lt1 t) (bO.bQ (bO.cT ?_)) (fun v hv=>tl hv)
 refine bO.qJ (rn t) (fun i (s:Bytes × Int)=>s=(Lib.repeatL [105] i,(i:Int))) rfl (by omega) ?_ ?_
 ·rintro i hi _ rfl
  dsimp only
  refine bO.call (zD h) ?_
  rintro _ rfl
  refine bO.dN (by simpa using hi) ?_
  refine bO.b5 (fun v:Bytes=>v=Lib.repeatL [105] (i+1)) (bO.bQ (bO.bY (cS (by rw[Lib.repeatL_length,List.length_singleton];omega)) (bO.b7 (tr (aQT _ _).symm)))) (fun v hv=>by rw[wr (by omega) (by omega),hv];exact tr rfl)
 ·rintro _ rfl
  dsimp only
  refine bO.call (zD h) ?_
  rintro _ rfl
  refine bO.dA (by simp) (tl ?_)
  show _=lt1 t
  rw[lt1,hlt]
theorem zE {l:List eZ} {n:Nat} (h:n<l.length):dL (l.take (n+1))=dL (l.take n)++lt1 (l.getD n default).cB:=aDo h
theorem aQU {K:Nat} {m:hU} (hK:100000<K) (hl:m.cG.length≤1000) (ht:∀ p∈m.cG,tyP p.cB):cQ (F64 K m) (fun v=>v=dL m.cG):=by
 refine cQ.of ?_
 unfold F64
 refine bO.b5 (fun v:Bytes=>v=dL m.cG) (bO.bQ (bO.cT ?_)) (fun v hv=>tl hv)
 generalize m.cG=l at hl ht
 refine bO.qJ l.length (fun i (s:Bytes × Int)=>s=(dL (l.take i),(i:Int))) rfl (by omega) ?_ ?_
 ·rintro i hi _ rfl
  have iT:=zE hi
  have hll:=iI (l.take i)
  have hrs:=jU (l.take i)
  rw[aK] at hrs
  have hx:=ht _ (c6 (d:=default) hi)
  dsimp only
  refine bO.bR (bO.dN (by simpa using hi) ?_)
  rw[Int.toNat_natCast]
  generalize l.getD i default=x at iT hx
  have hr:=rZ x.cB
  refine bO.b5 (fun v:Bytes=>v=dL (l.take (i+1))) (bO.bQ (bO.bY (bW (by omega)) (bO.b7 (bO.call (aLc hK (.inl (.inl hx))) ?_)))) (fun v hv=>by rw[wr (by omega) (by omega),hv];exact tr rfl)
  rintro _ rfl
  refine bO.bY (cS (by rw[aLb];omega)) (bO.b7 (tr iT.symm))
 ·rintro _ rfl
  refine bO.bR (bO.dA (by simp) (tl ?_))
  show dL (l.take l.length)=_
  rw[bD]
theorem aYR {K:Nat} {a:Bytes} {b:Bool} (h:a.length≤100000000):cQ (F99 K a b) (fun v=>v=a++if b=true then [62,105] else [62]):=by
 refine cQ.of ?_
 unfold F99
 refine bO.ite (fun e=>bO.bY (cS (by simp;omega)) (bO.b7 (tl ?_))) (fun e=>bO.bY (cS (by simp;omega)) (bO.b7 (tl ?_)))
 ·rw[aE e]
 ·rw[aD e]
theorem aJC {K:Nat} {m:hU} (hK:100000<K) (hl:m.cG.length≤1000) (ht:∀ p∈m.cG,tyP p.cB):cQ (F58 K m) (fun v=>v=kS m):=by
 have hll:=iI m.cG
 have hrs:=jU m.cG
 refine cQ.of ?_
 unfold F58
 refine bO.cH (by decide) (aQU hK hl ht) ?_
 rintro _ rfl
 refine bO.cH (by decide) (aYR (by omega)) ?_
 rintro _ rfl
 refine tl ?_
 unfold kS
 by_cases e:m.eU.bU=0
 ·rw[e];rfl
 ·rw[aE e,aE (bne_iff_ne.2 e)]
def in0 (x:eZ):Int:=if x.cB.bU=4 then 0 else x.dM
def wX (l:List eZ):List Int:=l.flatMap fun x=>List.replicate (rn x.cB) (in0 x)
theorem aHO:∀ l:List eZ,(wX l).length=sK l
 | []=>rfl
 | x::r=>by
   have:=aHO r
   unfold wX at *
   rw[List.flatMap_cons,aG,List.length_replicate,this,sK]
theorem aGf:∀ {l:List eZ},(∀ x∈l,Ini x)→wX l=inits l
 | [],_=>rfl
 | x::r,h=>by
   have h1:=aGf (l:=r) (fun y hy=>h y (aT _ hy))
   have h2:=h x (bA ..)
   have:in0 x=ini x:=by
    unfold in0 ini Ini at *
    by_cases e:x.cB.bU=4
    ·rw[aE e,aE (.inl e)]
    ·by_cases e5:x.cB.bU=5
     ·rw[aD e,aE (.inr e5),h2 e5]
     ·rw[aD e,aD (by omega)]
   unfold wX inits at *
   rw[List.flatMap_cons,List.flatMap_cons,h1,this]
theorem aJD {K:Nat} {l:List eZ} (hK:100000<K) (hl:l.length≤1000) (ht:∀ x∈l,tyV x.cB):cQ (F65 K l) (fun v=>v=(dL l,wX l)):=by
 refine cQ.of ?_
 unfold F65
 refine bO.b5 (fun v:Bytes × List Int=>v=(dL l,wX l)) (bO.bQ (bO.cT ?_)) (fun v hv=>tl (by rw[hv]))
 refine bO.qJ l.length (fun i (s:Bytes × List Int × Int)=>s=(dL (l.take i),wX (l.take i),(i:Int))) rfl (by omega) ?_ ?_
 ·rintro i hi _ rfl
  have iT:=zE hi
  have hai:wX (l.take (i+1))=wX (l.take i)++List.replicate (rn (l.getD i default).cB) (in0 (l.getD i default)):=by
   rw[dZ default hi];unfold wX;rw[List.flatMap_append];simp
  have hll:=iI (l.take i)
  have hil:=aHO (l.take i)
  have hrs:=jU (l.take i)
  rw[aK] at hrs
  have hx:=ht _ (c6 (d:=default) hi)
  dsimp only
  refine bO.bR (bO.dN (by simpa using hi) ?_)
  rw[Int.toNat_natCast]
  generalize l.getD i default=x at iT hx hai
  have hr:=rZ x.cB
  have hlx:=aLb x.cB
  refine bO.b5 (fun v:Bytes × List Int=>v=(dL (l.take (i+1)),wX (l.take (i+1)))) (bO.bQ (bO.bY (bW (by omega)) (bO.b7 (bO.call (aLc hK hx) ?_)))) (fun v hv=>by rw[wr (by omega) (by omega),hv];exact tr rfl)
  rintro _ rfl
  refine bO.bY (cS (by omega)) (bO.b7 ?_)
  refine bO.b5 (fun v:List Int=>v=wX (l.take (i+1))) (bO.bQ (bO.cT ?_)) (fun v hv=>by rw[hv,← iT];exact tr rfl)
  refine bO.qJ (rn x.cB) (fun j (s:List Int × Int)=>s=(wX (l.take i)++List.replicate j (in0 x),(j:Int))) (by simp) (by omega) ?_ ?_
  ·rintro j hj _ rfl
   dsimp only
   refine bO.bR (bO.dN (by rw[hlx];simpa using hj) ?_)
   refine bO.b5 (fun v:List Int=>v=wX (l.take i)++List.replicate (j+1) (in0 x)) (bO.bQ (bO.bY (bW (by omega)) (bO.b7 (bO.bR (bO.b5 (fun v:Int=>v=in0 x) ?_ (fun v hv=>?_)))))) (fun v hv=>by rw[wr (by omega) (by omega),hv];exact tr rfl)
   ·refine bO.ite (fun e=>?_) (fun e=>?_)
    ·simp only[bne_iff_ne,ne_eq] at e
     refine bO.bY (bW (by omega)) (bO.b7 (bO.bR (tr ?_)))
     rw[in0,aD e]
    ·simp only[bne_iff_ne,ne_eq,Decidable.not_not] at e
     refine tr ?_
     rw[in0,aE e]
   ·refine bO.bY (cS (by rw[aG,List.length_replicate,List.length_singleton];omega)) (bO.b7 (tr ?_))
    rw[hv,List.replicate_succ',bJ]
  ·rintro _ rfl
   refine bO.bR (bO.dA (by simp [hlx]) (tl ?_))
   exact hai.symm
 ·rintro _ rfl
  refine bO.bR (bO.dA (by simp) (tl ?_))
  show (dL (l.take l.length),wX (l.take l.length))=_
  rw[bD]
end Go.Proofs.YtdbfbedholdjaaaGreat

namespace Go.Proofs.YtdbfbedholdjaaaGreat
open Go Go.Dl
variable [dO]
set_option maxRecDepth 100000
set_option maxHeartbeats 8000000
theorem aQV {l:List hU} {n:Nat} (h:n<l.length):bl.new (l.take (n+1))=bl.new (l.take n)++(if (l.getD n default).xD=true then [] else [(l.getD n default).cD]):=by
 rw[dZ default h]
 unfold bl.new
 rw[List.filter_append,bK]
 generalize l.getD n default=x
 congr 1
 cases e:x.xD <;> simp [e]
theorem aWd {u:cK} (hw:Wf u):∀ l:List Int,(bl.ns u l).length≤6 * l.length
 | []=>by simp [bl.ns]
 | x::r=>by
   have h1:=aWd hw r
   have h2:=bl.zP (u.bP.getD x.toNat default).bS
   have h3:=(hw.sz x).m
   unfold dc at h3
   unfold bl.ns at *
   rw[List.flatMap_cons,aG,List.length_cons];omega
theorem aQW {K:Nat} {u:cK} {d:Int} (hK:100000<K) (h:Sm u) (hw:Wf u):cQ (F71 K u d) (fun v=>v=p6 u d):=by
 have hch:=hw.chain d
 refine cQ.of ?_
 unfold F71
 refine bO.call (mZ hK h) ?_
 rintro _ rfl
 have hin:=fun x hx=>lV (u:=u) (d:=d) (x:=x) hx
 unfold p6
 generalize chain u d=r at hch hin
 refine bO.bR ?_
 rw[Int.ofNat_eq_natCast,wr (by omega) (by omega)]
 refine bO.b5 (fun v:List Bytes=>v=bl.ns u r.reverse) (bO.bQ (bO.cT ?_)) (fun v hv=>tl hv)
 refine bO.qJ r.length (fun i (t:List Bytes × Int)=>t=(bl.ns u (r.reverse.take i),(r.length:Int) - 1 - i)) (by simp [bl.ns]) (by omega) ?_ ?_
 ·rintro i hi _ rfl
  have hrl:i<r.reverse.length:=by rw[List.length_reverse];omega
  have iT:bl.ns u (r.reverse.take (i+1))=bl.ns u (r.reverse.take i)++bl.new (dc u (r.reverse.getD i default)).bS:=by
   rw[dZ default hrl];unfold bl.ns;rw[List.flatMap_append];simp
  have hgt:r.reverse.getD i default=r.getD ((r.length:Int) - 1 - i).toNat default:=by
   rw[show ((r.length:Int) - 1 - i).toNat=r.length - 1 - i by omega]
   rw[List.getD_eq_getElem?_getD,List.getD_eq_getElem?_getD,List.getElem?_reverse hi]
  have hln:=aWd hw (r.reverse.take i)
  rw[aK,List.length_reverse] at hln
  have hx:=hin _ (List.mem_reverse.1 (c6 (d:=default) hrl))
  dsimp only
  refine bO.dN (by simp;omega) ?_
  rw[← hgt]
  generalize r.reverse.getD i default=x at iT hx
  have uJ:=(hw.sz x).m
  refine bO.b5 (fun v:List Bytes=>v=bl.ns u (r.reverse.take (i+1))) (bO.bQ (bO.bY (bW (by omega)) (bO.b7 (bO.bY (bW hx) (bO.b7 (bO.bR ?_)))))) (fun v hv=>by rw[wr (by omega) (by omega),hv];exact tr (by rw[show (r.length:Int) - 1 - (i+1:Nat)=(r.length:Int) - 1 - i - 1 by omega]))
  rw[iT]
  change (dc u x).bS.length≤6 at uJ
  change bO (bT (bQ ((iter K (fun (rR:(List Bytes) × Int)=>(bR (decide ((rR.2:Int)<(Int.ofNat (dc u x).bS.length))) _)) _).map _)) _) _
  refine bO.b5 (fun v:List Bytes=>v=bl.ns u (r.reverse.take i)++bl.new (dc u x).bS) (bO.bQ (bO.cT ?_)) (fun v hv=>tr hv)
  generalize bl.ns u (r.reverse.take i)=o at hln
  show bO (iter K _ _) _
  refine bO.qJ (dc u x).bS.length (fun j (t:List Bytes × Int)=>t=(o++bl.new ((dc u x).bS.take j),(j:Int))) (by simp [bl.new]) (by omega) ?_ ?_
  ·rintro j hj _ rfl
   have ha:=aQV hj
   have hnl:=bl.zP ((dc u x).bS.take j)
   rw[aK] at hnl
   dsimp only
   refine bO.bR (bO.dN (by simpa using hj) ?_)
   rw[Int.toNat_natCast]
   refine bO.b5 (fun v:List Bytes=>v=o++bl.new ((dc u x).bS.take (j+1))) (bO.bQ (bO.bY (bW (show 0≤(j:Int)∧(j:Int)<(dc u x).bS.length by omega)) (bO.b7 (bO.bR (bO.ite (fun e=>?_) (fun e=>?_)))))) (fun v hv=>by rw[wr (by omega) (by omega),hv];exact tr rfl)
   ·refine bO.bY (bW (show 0≤(j:Int)∧(j:Int)<(dc u x).bS.length by omega)) (bO.b7 (bO.bR (bO.bY (cS (by rw[aG,List.length_singleton];omega)) (bO.b7 (tr ?_)))))
    rw[ha,aD (by simpa using e),bJ]
   ·refine tr ?_
    rw[ha,aE (by simpa using e),bN]
  ·rintro _ rfl
   refine bO.bR (bO.dA (by simp) (tl ?_))
   show o++bl.new ((dc u x).bS.take _)=_
   rw[bD]
 ·rintro _ rfl
  refine bO.dA (by simp;omega) (tl ?_)
  show bl.ns u (r.reverse.take r.length)=_
  rw[List.take_of_length_le (by rw[List.length_reverse];omega)]
theorem aQX {u:cK} {w:dS} (hw:Vw u w) (ha:(sX u w).eT=true):wI u w = -1:=by
 refine yI (z:=default) (fun j hj=>?_)
 have hm:(j0 u).getD j default∈j0 u:=c6 hj
 generalize (j0 u).getD j default=x at hm
 cases e:isW w x with
 | false=>rfl
 | true =>
   exfalso
   unfold isW at e
   simp only[aC,beq_iff_eq,and_true] at e
   have hx:w=x:=by cases w;cases x;simp_all
   subst hx
   unfold j0 at hm
   rcases aZ.1 hm with hm | hm
   ·obtain ⟨d,hd,hm⟩:=List.mem_flatMap.1 hm
    unfold mws at hm
    split at hm
    ·obtain ⟨m,hm2,rfl⟩:=List.mem_map.1 hm
     have:=(List.mem_filter.1 hm2).2
     unfold sX dc at ha
     dsimp only at ha
     rw[Int.toNat_natCast,Int.toNat_natCast] at ha
     rw[ha] at this;simp at this
    ·cases hm
   ·obtain ⟨d,hd,hm⟩:=List.mem_flatMap.1 hm
    unfold pws at hm
    split at hm
    ·have:=hw.2.1
     rw[aJ.1 hm] at this
     exact absurd this (show ¬ (0:Int)≤-1 by decide)
    ·cases hm
theorem aYS {u:cK} (hw:Wf u) {w:dS} (hv:Vw u w) (hk:kd u w.cZ=1∨kd u w.cZ=2):∀ p∈(sX u w).cG,tyP p.cB:=by
 have hm:sX u w∈(dc u w.cZ).bS:=c6 (by have:=hv.2;omega)
 rcases hk with hk | hk
 ·exact (hw _ hv.1).fac hk _ hm
 ·exact (((hw _ hv.1).cls hk).mt _ hm).1
theorem aLe {K:Nat} {u:cK} {d:Int} {s:Bytes} (hK:100000<K) (h:Sm u) (hw:Wf u) (hk:kd u d=2) (ho:(l9 u d s).2=true):cQ (aMy K u d s) (fun v=>v=(wI u (l9 u d s).1,kS (sX u (l9 u d s).1))):=by
 have hm:=wJ ho
 have hkc:kd u (l9 u d s).1.cZ=2:=aAv (by have:=hm.2.1;rwa [aUm hk] at this)
 have hty:=aYS hw hm.1 (.inr hkc)
 have hmp:=(hw.sz (l9 u d s).1.cZ).p _ (c6 (d:=default) (show (l9 u d s).1.dF.toNat<(dc u (l9 u d s).1.cZ).bS.length by have:=hm.1.2;omega))
 have hpl:(sX u (l9 u d s).1).cG.length≤1000:=aS hmp.1 (by decide)
 refine cQ.of ?_
 unfold aMy
 refine bO.call (qX hK h) ?_
 rintro _ rfl
 refine bO.call (rU hm.1) ?_
 rintro _ rfl
 refine bO.ite (fun e=>?_) (fun e=>?_)
 ·refine bO.call (aJC hK hpl hty) ?_
  rintro _ rfl
  refine tl ?_
  rw[aQX hm.1 e]
 ·refine bO.cH (by decide) (aGd hK hw) ?_
  rintro _ rfl
  refine bO.cH (by decide) (aJC hK hpl hty) ?_
  rintro _ rfl
  exact tl rfl
theorem aUn {u:cK} {out:List Int} (s:Bytes) (h:out.Nodup):(iS u out s).Nodup:=by
 unfold iS
 split
 ·rename_i e
  rw[List.nodup_append]
  refine ⟨h,by simp,fun a ha b hb=>?_⟩
  rw[aJ.1 hb]
  intro q
  subst q
  have:=e.2
  rw[List.contains_eq_mem] at this
  simp [ha] at this
 ·exact h
theorem aQY (u:cK) (d:Int):(gJ u d).Nodup:=by
 have h1:∀ (l:List Bytes) (out:List Int),out.Nodup→(l.foldl (iS u) out).Nodup:=by
  intro l
  induction l with
  | nil=>exact fun _ h=>h
  | cons s l ih=>exact fun out h=>ih _ (aUn s h)
 have h2:∀ (l:List Int) (out:List Int),out.Nodup→(l.foldl (fun out c=>(dc u c).cL.foldl (iS u) out) out).Nodup:=by
  intro l
  induction l with
  | nil=>exact fun _ h=>h
  | cons s l ih=>exact fun out h=>ih _ (h1 _ _ h)
 exact h2 _ [] List.nodup_nil
theorem aEO:∀ {a b:List Int},a.Pairwise (· < ·)→b.Pairwise (· < ·)→(∀ x,x∈a↔x∈b)→a=b
 | [],[],_,_,_=>rfl
 | [],y::b,_,_,h=>absurd ((h y).2 (bA ..)) (by simp)
 | x::a,[],_,_,h=>absurd ((h x).1 (bA ..)) (by simp)
 | x::a,y::b,ha,hb,h=>by
   have ha':=List.pairwise_cons.1 ha
   have hb':=List.pairwise_cons.1 hb
   have hxy:x=y:=by
    rcases aY.1 ((h x).1 (bA ..)) with e | e
    ·exact e
    ·rcases aY.1 ((h y).2 (bA ..)) with e2 | e2
     ·exact e2.symm
     ·have:=ha'.1 _ e2
      have:=hb'.1 _ e
      omega
   subst hxy
   rw[aEO ha'.2 hb'.2 (fun z=>?_)]
   constructor
   ·intro hz
    rcases aY.1 ((h z).1 (aT _ hz)) with e | e
    ·have:=ha'.1 _ hz;omega
    ·exact e
   ·intro hz
    rcases aY.1 ((h z).2 (aT _ hz)) with e | e
    ·have:=hb'.1 _ hz;omega
    ·exact e
def rfs (u:cK) (d:Int) (n:Nat):List Int:=(List.range n).flatMap fun i:Nat=>if (gJ u d).contains (i:Int)=true then [(i:Int)] else []
theorem zF (u:cK) (d:Int) (n:Nat):rfs u d (n+1)=rfs u d n++(if (gJ u d).contains (n:Int)=true then [(n:Int)] else []):=by
 unfold rfs;rw[List.range_succ,List.flatMap_append];simp
theorem aGg {u:cK} {d:Int}:∀ {n:Nat} {x:Int},x∈rfs u d n↔(0≤x∧x<n)∧x∈gJ u d
 | 0,x=>by simp [rfs];omega
 | n+1,x=>by
   rw[zF,aZ,aGg (n:=n)]
   by_cases e:(gJ u d).contains (n:Int)=true
   ·rw[aE e]
    have e':(n:Int)∈gJ u d:=by simpa using e
    constructor
    ·rintro (q | q)
     ·exact ⟨by omega,q.2⟩
     ·rw[aJ.1 q];exact ⟨by omega,e'⟩
    ·rintro ⟨q1,q2⟩
     by_cases hx:x=n
     ·exact .inr (by rw[hx];exact aJ.2 rfl)
     ·exact .inl ⟨by omega,q2⟩
   ·rw[aD e]
    have e':¬ (n:Int)∈gJ u d:=by simpa using e
    constructor
    ·rintro (q | q)
     ·exact ⟨by omega,q.2⟩
     ·cases q
    ·rintro ⟨q1,q2⟩
     by_cases hx:x=n
     ·rw[hx] at q2;exact absurd q2 e'
     ·exact .inl ⟨by omega,q2⟩
theorem aQZ {u:cK} {d:Int}:∀ n:Nat,(rfs u d n).Pairwise (· < ·)
 | 0=>List.Pairwise.nil
 | n+1=>by
   rw[zF,List.pairwise_append]
   refine ⟨aQZ n,?_,fun a ha b hb=>?_⟩
   ·split
    ·exact List.pairwise_singleton ..
    ·exact List.Pairwise.nil
   ·have:=(aGg.1 ha).1
    split at hb
    ·rw[aJ.1 hb];omega
    ·cases hb
theorem aYT (u:cK) (d:Int):sfs u d=rfs u d u.bP.length:=by
 refine aEO ?_ (aQZ _) (fun x=>?_)
 ·have hs:(sfs u d).Pairwise (fun a b=>decide (a≤b)=true):=List.pairwise_mergeSort (fun a b c h1 h2=>by simp only[aB] at *;omega) (fun a b=>by simp only[aL,aB];omega) _
  have hn:(sfs u d).Nodup:=(List.mergeSort_perm ..).nodup_iff.2 (aQY u d)
  refine (hs.and hn).imp (fun {a b} q=>?_)
  have q1:=of_decide_eq_true q.1
  have q2:a≠b:=q.2
  omega
 ·rw[aGg]
  unfold sfs
  rw[List.mem_mergeSort]
  exact ⟨fun q=>⟨aOb x q,q⟩,fun q=>q.2⟩
end Go.Proofs.YtdbfbedholdjaaaGreat

namespace Go.Proofs.YtdbfbedholdjaaaGreat
open Go Go.Dl
variable [dO]
set_option maxRecDepth 100000
set_option maxHeartbeats 8000000
theorem aHP {u:cK} (hw:Wf u) {d:Int} (hk:kd u d=2):∀ x∈rJ u d,tyF x.cB∧Ini x:=by
 intro x hx
 unfold rJ varsOf at hx
 rw[aD (by omega)] at hx
 obtain ⟨c,hc,hx⟩:=List.mem_flatMap.1 hx
 have hkc:=aAv (List.mem_reverse.1 hc)
 have:=(hw c (gE hkc (by decide))).cls hkc
 exact ⟨this.vars x hx,this.ini x hx⟩
theorem aUo {u:cK} (hw:Wf u) (hn:Nm u) {d:Int} (hk:kd u d=2):num u (bs u d) 2=if 1<(chain u d).length then num u ((chain u d).getD 1 default) 2 else -1:=by
 have hc:=aDp hw hn hk
 by_cases e:kd u (bs u d)=2
 ·have h2:=aDp hw hn e
  rw[hc,h2,aE (by simp [List.length_cons])]
  rfl
 ·rw[hc,aDq e,aD (by simp)]
  unfold num;rw[aD e]
theorem aLf (u:cK) (d:Int):∀ n:Nat,(rfs u d n).length≤n
 | 0=>by simp [rfs]
 | n+1=>by
   have:=aLf u d n
   rw[zF,aG]
   split
   ·simp only[List.length_singleton];omega
   ·simp only[List.length_nil];omega
theorem aQ0 {l:List Int} {j:Nat} (hj:j<l.length) (x:Int):(l.take (j+1)).contains x=((l.take j).contains x || (l.getD j default == x)):=by
 rw[dZ default hj,Bool.eq_iff_iff]
 simp only[List.contains_eq_mem,aZ,aJ,aB,aL,beq_iff_eq]
 constructor
 ·rintro (q | q)
  ·exact .inl q
  ·exact .inr q.symm
 ·rintro (q | q)
  ·exact .inl q
  ·exact .inr q.symm
theorem aYU {K:Nat} {u:cK} {d:Int} (hK:100000<K) (h:Sm u) (hw:Wf u) (hn:Nm u) (hk:kd u d=2):cQ (F59 K u d) (fun v=>v=desc u d):=by
 have hd:=gE hk (by decide)
 have hl:=hw.len'
 have rB:=(hw d hd).cls hk
 have hfa:=aHP hw hk
 obtain ⟨_,_,rfl,hfl⟩:=uR (K:=100001) (by decide) h hw hk
 obtain ⟨_,_,rfl,hsl⟩:=aBJ (K:=100001) (d:=d) (by decide) h hw
 refine cQ.of ?_
 unfold F59
 refine bO.bY (bW hd) (bO.b7 ?_)
 refine bO.cH (by decide) (iV hK h) ?_
 rintro _ rfl
 refine bO.cH (by decide) (aGc hK h) ?_
 rintro _ rfl
 refine bO.call (aBR hK h) ?_
 rintro _ rfl
 refine bO.call (aJD hK (by omega) (fun x hx=>.inl (hfa x hx).1)) ?_
 rintro _ rfl
 refine bO.call (aQW hK h hw) ?_
 rintro _ rfl
 refine bO.b5 (fun v:List Int × List Bytes=>v=((p6 u d).map (fun s=>wI u (l9 u d s).1),(p6 u d).map (fun s=>kS (sX u (l9 u d s).1)))) (bO.bQ (bO.cT ?_)) (fun v hv=>?_)
 ·refine bO.qJ (p6 u d).length (fun i (t:List Int × List Bytes × Int)=>t=(((p6 u d).take i).map (fun s=>wI u (l9 u d s).1),((p6 u d).take i).map (fun s=>kS (sX u (l9 u d s).1)),(i:Int))) rfl (by omega) ?_ ?_
  ·rintro n hn _ rfl
   have iT:(p6 u d).take (n+1)=(p6 u d).take n++[(p6 u d).getD n default]:=dZ default hn
   have hln:((p6 u d).take n).length≤72:=by rw[aK];omega
   have hm:=aKm hk (c6 (d:=default) hn)
   dsimp only
   refine bO.bR (bO.dN (by simpa using hn) ?_)
   rw[Int.toNat_natCast]
   generalize (p6 u d).getD n default=s at iT hm
   refine bO.b5 (fun v:List Int × List Bytes=>v=(((p6 u d).take (n+1)).map (fun s=>wI u (l9 u d s).1),((p6 u d).take (n+1)).map (fun s=>kS (sX u (l9 u d s).1)))) (bO.bQ (bO.bY (bW (by omega)) (bO.b7 (bO.cH (by decide) (aLe hK h hw hk hm) ?_)))) (fun v hv=>by rw[wr (by omega) (by omega),hv];exact tr rfl)
   rintro _ rfl
   refine bO.bY (cS (by rw[aU,List.length_singleton];omega)) (bO.b7 ?_)
   refine bO.bY (cS (by rw[aU,List.length_singleton];omega)) (bO.b7 (tr ?_))
   rw[iT,bK,bK];rfl
  ·rintro _ rfl
   refine bO.bR (bO.dA (by simp) (tl ?_))
   show (((p6 u d).take (p6 u d).length).map _,_)=_
   rw[bD]
 subst hv
 refine bO.call (aDr hK h) ?_
 rintro _ rfl
 have hfc:=qL u d
 refine bO.b5 (fun v:List l4=>v=(rfs u d u.bP.length).map fun f=>aGZ u d f) (bO.bQ (bO.cT ?_)) (fun tb htb=>?_)
 ·refine bO.qJ u.bP.length (fun i (t:List l4 × Int)=>t=((rfs u d i).map (fun f=>aGZ u d f),(i:Int))) rfl (by omega) ?_ ?_
  ·rintro i hi _ rfl
   have hs:=zF u d i
   have hrl:=aLf u d i
   dsimp only
   refine bO.bR (bO.dN (by simpa using hi) ?_)
   refine bO.b5 (fun v:List l4=>v=(rfs u d (i+1)).map fun f=>aGZ u d f) (bO.bQ ?_) (fun v hv=>by rw[wr (by omega) (by omega),hv];exact tr rfl)
   refine bO.b5 (fun v:Bool=>v=(gJ u d).contains (i:Int)) (bO.bQ (bO.cT ?_)) (fun v hv=>?_)
   ·refine bO.qJ (gJ u d).length (fun j (t:Bool × Int)=>t=(((gJ u d).take j).contains (i:Int),(j:Int))) rfl (by omega) ?_ ?_
    ·rintro j hj _ rfl
     dsimp only
     refine bO.bR (bO.dN (by simpa using hj) ?_)
     rw[Int.toNat_natCast]
     refine bO.b5 (fun v:Bool=>v=((gJ u d).take (j+1)).contains (i:Int)) (bO.bQ (bO.bY (by rw[bW (by omega)];simp) (bO.b7 (bO.bR (tr (aQ0 hj _).symm))))) (fun v hv=>by rw[wr (by omega) (by omega),hv];exact tr rfl)
    ·rintro _ rfl
     refine bO.bR (bO.dA (by simp) (tl ?_))
     show ((gJ u d).take _).contains _=_
     rw[bD]
   rw[hv,hs]
   refine bO.ite (fun e=>?_) (fun e=>?_)
   ·refine bO.ret (sE.l (sE.l ?_))
    rw[aD (by simpa using e),bN]
   have e:(gJ u d).contains (i:Int)=true:=by simpa using e
   have hif:(i:Int)∈gJ u d:=by simpa using e
   rw[aE e]
   have hfm:=(hw.sz i).m
   have han:=rB.ans i hif
   refine bO.call (aQR hK h) ?_
   rintro _ rfl
   have hii:0≤(i:Int)∧(i:Int)<u.bP.length:=by omega
   refine bO.b5 (fun v:List Int=>v=(dc u i).bS.map fun m=>aFx u d m.cD) (bO.bQ (bO.cT ?_)) (fun sl hsl=>?_)
   ·refine bO.qJ (dc u i).bS.length (fun j (s:List Int × Int)=>s=(((dc u i).bS.take j).map (fun m=>aFx u d m.cD),(j:Int))) rfl (by omega) ?_ ?_
    ·rintro j hj _ rfl
     have aL5:(dc u i).bS.take (j+1)=(dc u i).bS.take j++[(dc u i).bS.getD j default]:=dZ default hj
     have hlj:((dc u i).bS.take j).length≤6:=by rw[aK];omega
     have hme:=han _ (c6 (d:=default) hj)
     dsimp only
     refine bO.bY (bW hii) (bO.b7 (bO.bR (bO.dN (by simpa using hj) ?_)))
     refine bO.b5 (fun v:List Int=>v=((dc u i).bS.take (j+1)).map (fun m=>aFx u d m.cD)) (bO.bQ (bO.bY (bW hii) (bO.bY (bW (show 0≤(j:Int)∧(j:Int)<(dc u i).bS.length by omega)) (bO.b7 (bO.bR ?_))))) (fun v hv=>by rw[wr (by omega) (by omega),hv];exact tr rfl)
     refine bO.cH (by decide) (aLe hK h hw hk hme) ?_
     rintro _ rfl
     refine bO.bY (cS (by rw[aU,List.length_singleton];omega)) (bO.b7 (tr ?_))
     rw[aL5,bK]
     show _=_++[aFx u d _]
     rw[aFx,aE hme];rfl
    ·rintro _ rfl
     refine bO.bY (bW hii) (bO.b7 (bO.bR (bO.dA (by simp) (tl ?_))))
     show ((dc u i).bS.take (dc u i).bS.length).map _=_
     rw[bD]
   ·refine bO.bY (cS (by rw[aU,List.length_singleton];omega)) (bO.b7 (tr ?_))
    rw[bK,hsl];rfl
  ·rintro _ rfl
   exact bO.bR (bO.dA (by simp) (tl rfl))
 ·refine tl ?_
  rw[htb,aUo hw hn hk,aGf (fun x hx=>(hfa x hx).2),← aYT]
  rfl
end Go.Proofs.YtdbfbedholdjaaaGreat

namespace Go.Proofs.YtdbfbedholdjaaaGreat
open Go Go.Dl
variable [dO]
set_option maxRecDepth 100000
set_option maxHeartbeats 8000000
def wt1 (k:Int) (x:eZ):Nat:=if k=0 then rn x.cB else if x.cB.bU=k then 1 else 0
def wt (k:Int):List eZ→Nat
 | []=>0
 | x::r=>wt1 k x+wt k r
def am (s:Bytes) (k:Int):List eZ→Int→Int
 | [],_=>-1
 | x::r,n=>if x.cD=s then (if 0<wt1 k x then n else -1) else am s k r (n+wt1 k x)
def cs (u:cK) (k:Int):List Int→Nat
 | []=>0
 | x::r=>wt k (dc u x).cA+cs u k r
theorem aQ1 (k:Int) (x:eZ):wt1 k x≤10000:=by
 have:=rZ x.cB
 unfold wt1;split
 ·exact this
 ·split <;> omega
theorem aQ2 (k:Int):∀ a b:List eZ,wt k (a++b)=wt k a+wt k b
 | [],b=>by simp [wt]
 | x::a,b=>by rw[List.cons_append,wt,wt,aQ2 k a b];omega
theorem aLg (k:Int):∀ l:List eZ,wt k l≤10000 * l.length
 | []=>by simp [wt]
 | x::r=>by have:=aLg k r;have:=aQ1 k x;rw[wt,List.length_cons];omega
theorem aLh:∀ l:List eZ,wt 0 l=sK l
 | []=>rfl
 | x::r=>by rw[wt,sK,aLh r,wt1,aE rfl]
theorem aQ3 (u:cK) (k:Int):∀ a b:List Int,cs u k (a++b)=cs u k a+cs u k b
 | [],b=>by simp [cs]
 | x::a,b=>by rw[List.cons_append,cs,cs,aQ3 u k a b];omega
theorem aQ4 {u:cK} (hw:Wf u) (k:Int):∀ l:List Int,cs u k l≤80000 * l.length
 | []=>by simp [cs]
 | x::r=>by
   have h1:=aQ4 hw k r
   have h2:=aLg k (dc u x).cA
   have h3:=(hw.sz x).v
   rw[cs,List.length_cons];omega
theorem aWe {s:Bytes} {k:Int}:∀ (l:List eZ) (n:Int),0≤n→am s k l n≤n+10000 * l.length
 | [],n,h=>by simp [am];omega
 | x::r,n,h=>by
   have h1:=aQ1 k x
   have h2:=aWe (s:=s) (k:=k) r (n+wt1 k x) (by omega)
   rw[am,List.length_cons]
   split
   ·split <;> omega
   ·omega
theorem aQ5 {K:Nat} {l:List eZ} {s:Bytes} {k:Int} (hK:100000<K) (hl:l.length≤1000) (ht:∀ x∈l,tyV x.cB):cQ (F69 K l s k) (fun v=>v=am s k l 0):=by
 refine cQ.of ?_
 unfold F69
 refine bO.b5 (fun _:Unit=>am s k l 0 = -1) (bO.bQ (bO.cT ?_)) (fun _ h=>tl h.symm)
 refine bO.qJ l.length (fun i (t:Int × Int)=>t.2=i∧0≤t.1∧t.1≤10000 * i∧am s k (l.drop i) t.1=am s k l 0) ⟨rfl,by decide,by decide,rfl⟩ (by omega) ?_ ?_
 ·rintro i hi ⟨c,t⟩ ⟨g0,g1,g2,g3⟩
  dsimp only at g0 g1 g2 g3 ⊢
  subst g0
  rw[kD default hi] at g3
  have hx:=ht _ (c6 (d:=default) hi)
  refine bO.bR (bO.dN (by simpa using hi) ?_)
  rw[Int.toNat_natCast]
  generalize l.getD i default=x at g3 hx
  have hr:=rZ x.cB
  have hkd:x.cB.bU≠0:=by unfold tyV tyF tyP at hx;omega
  have hwt:wt1 k x=if k=0 then rn x.cB else if x.cB.bU=k then 1 else 0:=rfl
  rw[am] at g3
  refine bO.b5 (fun v:Int=>0≤v∧v≤10000 * (i+1)∧am s k (l.drop (i+1)) v=am s k l 0) (bO.bQ (bO.bY (bW (by omega)) (bO.b7 (bO.bR (bO.bY (by rw[bW (by omega)];simp) (bO.b7 (bO.c8 (fun _=>zD hx) (fun r a6h=>bO.bR ?_)))))))) (fun v hv=>by rw[wr (by omega) (by omega)];exact tr ⟨by dsimp only;omega,hv.1,by dsimp only;omega,hv.2.2⟩)
  have hm:(((k:Int) == 0) && (decide ((r:Int) > 0)) || ((x.cB.bU:Int) == k))=decide (0<wt1 k x):=by
   rw[hwt,Bool.eq_iff_iff]
   simp only[aL,aC,beq_iff_eq,aB]
   by_cases e:k=0
   ·have:=a6h (beq_iff_eq.2 e)
    rw[aE e]
    constructor
    ·rintro (q | q)
     ·omega
     ·omega
    ·intro q;exact .inl ⟨e,by omega⟩
   ·rw[aD e]
    constructor
    ·rintro (q | q)
     ·exact absurd q.1 e
     ·rw[aE q];decide
    ·intro q
     by_cases e2:x.cB.bU=k
     ·exact .inr e2
     ·rw[aD e2] at q;exact absurd q (by decide)
  rw[hm]
  refine bO.bY (bW (by omega)) (bO.b7 (bO.bR ?_))
  refine bO.ite (fun e=>?_) (fun e=>?_)
  ·rw[aE (beq_iff_eq.1 e)] at g3
   refine bO.ite (fun e2=>?_) (fun e2=>?_)
   ·rw[aE (of_decide_eq_true e2)] at g3
    exact tl g3
   ·rw[aD (fun q=>e2 (decide_eq_true q))] at g3
    exact tl g3
  ·rw[aD (fun q=>e (beq_iff_eq.2 q))] at g3
   refine bO.ite (fun e2=>?_) (fun e2=>?_)
   ·rw[aE (beq_iff_eq.1 e2)] at hwt
    refine bO.bY (bW (by omega)) (bO.b7 (bO.call (zD hx) ?_))
    rintro _ rfl
    rw[wr (by omega) (by omega),← hwt]
    exact tr ⟨by omega,by omega,g3⟩
   ·rw[aD (fun q=>e2 (beq_iff_eq.2 q))] at hwt
    refine bO.ite (fun e3=>?_) (fun e3=>?_)
    ·rw[aE (beq_iff_eq.1 e3)] at hwt
     rw[hwt] at g3
     rw[wr (by omega) (by omega)]
     exact tr ⟨by omega,by omega,g3⟩
    ·rw[aD (fun q=>e3 (beq_iff_eq.2 q))] at hwt
     rw[hwt] at g3
     exact tr ⟨by omega,by omega,by simpa using g3⟩
 ·rintro ⟨c,t⟩ ⟨g0,g1,g2,g3⟩
  dsimp only at g0 g1 g2 g3 ⊢
  subst g0
  rw[List.drop_length,am] at g3
  exact bO.bR (bO.dA (by simp) (tl g3.symm))
theorem aUp {K:Nat} {u:cK} {d k:Int} (hK:100000<K) (hw:Wf u) (hd:0≤d∧d≤u.bP.length):cQ (aPH K u d k) (fun v=>v=(cs u k (q9 u d.toNat):Int)):=by
 have hl:=hw.len'
 obtain ⟨n,rfl⟩:=aP hd.1
 rw[Int.toNat_natCast]
 refine cQ.of ?_
 unfold aPH
 refine bO.b5 (fun v:Int=>v=(cs u k (q9 u n):Int)) (bO.bQ (bO.cT ?_)) (fun v hv=>tl hv)
 refine bO.qJ n (fun i (t:Int × Int)=>t=((cs u k (q9 u i):Int),(i:Int))) rfl (by omega) ?_ ?_
 ·rintro i hi _ rfl
  have hcs:=aQ4 hw k (q9 u i)
  have hpl:=uO u i
  have hps:=tP u i
  have hii:0≤(i:Int)∧(i:Int)<u.bP.length:=by omega
  have hvl:=(hw.sz i).v
  have hpr:=(hw i hii).prg
  rw[yJ hii] at hpr
  have hdc:u.bP.getD i default=dc u i:=by rw[dc,Int.toNat_natCast]
  have hcx:cs u k [(i:Int)]=wt k (dc u i).cA:=by rw[cs,cs,Nat.add_zero]
  rw[hdc] at hps
  dsimp only
  refine bO.dN (by simp;omega) ?_
  refine bO.b5 (fun v:Int=>v=(cs u k (q9 u (i+1)):Int)) (bO.bQ ?_) (fun v hv=>by rw[wr (by omega) (by omega),hv];exact tr rfl)
  refine bO.b5 (fun v:Int=>v=(cs u k (q9 u (i+1)):Int)) (bO.bQ (bO.cT ?_)) (fun v hv=>tr hv)
  rw[Int.toNat_natCast,hdc]
  generalize dc u i=D at hvl hpr hcx hps
  have hwl:=aLg k D.cA
  rw[hps,aQ3]
  by_cases e:D.bU=3
  ·rw[aE e,hcx]
   have hpr:=hpr e
   refine bO.qJ D.cA.length (fun j (t:Int × Int)=>t=(((cs u k (q9 u i)+wt k (D.cA.take j):Nat):Int),(j:Int))) (by simp [wt]) (by omega) ?_ ?_
   ·rintro j hj _ rfl
    have iT:wt k (D.cA.take (j+1))=wt k (D.cA.take j)+wt1 k (D.cA.getD j default):=by
     rw[dZ default hj,aQ2,wt,wt,Nat.add_zero]
    have h1:=aLg k (D.cA.take j)
    rw[aK] at h1
    have hx:=(hpr _ (c6 (d:=default) hj)).1
    dsimp only
    refine bO.bY (bW hii) (bO.bY (by rw[bW hii];simp) (bO.b7 (bO.bR (bO.dN (by simp [e];omega) ?_))))
    rw[Int.toNat_natCast]
    refine bO.b5 (fun v:Int=>v=((cs u k (q9 u i)+wt k (D.cA.take (j+1)):Nat):Int)) (bO.bQ (bO.bY (bW hii) (bO.bY (bW (by omega)) (bO.b7 ?_)))) (fun v hv=>by rw[wr (by omega) (by omega),hv];exact tr rfl)
    generalize D.cA.getD j default=x at iT hx
    have hr:=rZ x.cB
    have hwt:wt1 k x=if k=0 then rn x.cB else if x.cB.bU=k then 1 else 0:=rfl
    refine bO.ite (fun e2=>?_) (fun e2=>bO.bR ?_)
    ·rw[aE (beq_iff_eq.1 e2)] at hwt
     refine bO.call (zD hx) ?_
     rintro _ rfl
     rw[wr (by omega) (by omega)]
     exact tr (by omega)
    ·rw[aD (fun q=>e2 (beq_iff_eq.2 q))] at hwt
     refine bO.ite (fun e3=>?_) (fun e3=>?_)
     ·rw[aE (beq_iff_eq.1 e3)] at hwt
      rw[wr (by omega) (by omega)]
      exact tr (by omega)
     ·rw[aD (fun q=>e3 (beq_iff_eq.2 q))] at hwt
      exact tr (by omega)
   ·rintro _ rfl
    dsimp only
    refine bO.bY (bW hii) (bO.bY (by rw[bW hii];simp) (bO.b7 (bO.bR (bO.dA (by simp) (tl ?_)))))
    show ((cs u k (q9 u i)+wt k (D.cA.take D.cA.length):Nat):Int)=_
    rw[bD]
  ·rw[aD e]
   refine bO.qJ 0 (fun j (t:Int × Int)=>t=((cs u k (q9 u i):Int),(j:Int))) rfl (by omega) (fun j hj=>absurd hj (by omega)) ?_
   rintro _ rfl
   dsimp only
   refine bO.bY (bW hii) (bO.bY (by rw[bW hii];simp) (bO.b7 (bO.bR (bO.dA (by simp [e]) (tl ?_)))))
   show _=_
   simp [cs]
 ·rintro _ rfl
  exact bO.dA (by simp) (tl rfl)
def whr (u:cK) (d:Int) (s:Bytes) (k:Int):Int :=
 if kd u d=3∧0≤am s k (dc u d).cA 0 then am s k (dc u d).cA 0+cs u k (q9 u d.toNat) else -1
theorem aJE {K:Nat} {u:cK} {d k:Int} {s:Bytes} (hK:100000<K) (hw:Wf u):cQ (F67 K u d s k) (fun v=>v=whr u d s k):=by
 have hl:=hw.len'
 unfold whr
 refine cQ.of ?_
 unfold F67
 refine bO.call iU ?_
 rintro _ rfl
 refine bO.ite (fun e=>?_) (fun e=>?_)
 ·simp only[bne_iff_ne,ne_eq] at e
  exact tl (by rw[aD (fun q=>e q.1)])
 simp only[bne_iff_ne,ne_eq,Decidable.not_not] at e
 have hd:=gE e (by decide)
 have hvl:=(hw.sz d).v
 have hpr:=(hw d hd).prg e
 have rB:=aQ4 hw k (q9 u d.toNat)
 have hpn:=uO u d.toNat
 have hal:=aWe (s:=s) (k:=k) (dc u d).cA 0 (by omega)
 refine bO.bY (bW hd) (bO.b7 (bO.bR ?_))
 refine bO.call (aQ5 (l:=(dc u d).cA) hK (by omega) (fun x hx=>(hpr x hx).1)) ?_
 rintro _ rfl
 refine bO.ite (fun e2=>?_) (fun e2=>?_)
 ·have e2:=of_decide_eq_true e2
  exact tl (by rw[aD (fun q=>by omega)])
 ·have e2:0≤am s k (dc u d).cA 0:=by simpa using e2
  refine bO.call (aUp hK hw ⟨hd.1,by omega⟩) ?_
  rintro _ rfl
  rw[wr (by omega) (by omega),aE ⟨e,e2⟩]
  exact tl rfl
theorem aQ6 {s:Bytes} {k:Int}:∀ (l:List eZ) (n:Int),0≤n→am s k l n=if 0≤am s k l 0 then am s k l 0+n else -1
 | [],n,h=>by simp [am]
 | x::r,n,h=>by
   have h1:=aQ6 (s:=s) (k:=k) r (n+wt1 k x) (by omega)
   have h2:=aQ6 (s:=s) (k:=k) r (0+wt1 k x) (by omega)
   rw[am,am]
   by_cases e:x.cD=s
   ·rw[aE e,aE e]
    by_cases e2:0<wt1 k x
    ·rw[aE e2,aE e2,aE (by decide)];omega
    ·rw[aD e2,aD e2,aD (by decide)]
   ·rw[aD e,aD e,h1,h2]
    by_cases e3:0≤am s k r 0
    ·rw[aE e3,aE e3,aE (by omega)];omega
    ·rw[aD e3,aD e3,aD (by decide)]
theorem aQ7 {s:Bytes}:∀ {l:List eZ} (n:Int),(∀ x∈l,x.cD≠s)→plc l s n = -1
 | [],_,_=>rfl
 | x::r,n,h=>by
   rw[plc,aD (fun q=>h x (bA ..) q.1)]
   exact aQ7 _ (fun y hy=>h y (aT _ hy))
theorem aLi {s:Bytes}:∀ {l:List eZ} (n:Int),(∀ x∈l,0<rn x.cB)→am s 0 l n=plc l s n
 | [],_,_=>rfl
 | x::r,n,h=>by
   have hx:=h x (bA ..)
   have hr:=aLi (s:=s) (l:=r) (n+rn x.cB) (fun y hy=>h y (aT _ hy))
   rw[am,plc,wt1,aE rfl]
   by_cases e:x.cD=s
   ·rw[aE e,aE hx,aE ⟨e,hx⟩]
   ·rw[aD e,aD (fun q=>e q.1)];exact hr
theorem Dst.nd {l:List Bytes} (h:Dst l):l.Nodup:=by
 refine List.pairwise_iff_getElem.2 (fun i j hi hj hij=>?_)
 have:=h j hj i hij
 simpa [List.getD_eq_getElem?_getD,aF hi,aF hj] using this
abbrev Nms (l:List eZ):Prop:=(l.map fun x:eZ=>x.cD).Nodup
theorem Nms.cons {x:eZ} {l:List eZ} (h:Nms (x::l)):(∀ y∈l,y.cD≠x.cD)∧Nms l:=by
 have h:=List.nodup_cons.1 h
 exact ⟨fun y hy q=>h.1 (List.mem_map.2 ⟨y,hy,q⟩),h.2⟩
theorem aLj {s:Bytes}:∀ {l:List eZ} (n:Int),Nms l→am s 0 l n=plc l s n
 | [],_,_=>rfl
 | x::r,n,h=>by
   have h:=h.cons
   have hr:=aLj (s:=s) (l:=r) (n+rn x.cB) h.2
   rw[am,plc,wt1,aE rfl]
   by_cases e:x.cD=s
   ·rw[aE e]
    by_cases e2:0<rn x.cB
    ·rw[aE e2,aE ⟨e,e2⟩]
    ·rw[aD e2,aD (fun q=>e2 q.2),aQ7 _ (fun y hy=>by rw[← e];exact h.1 y hy)]
   ·rw[aD e,aD (fun q=>e q.1)];exact hr
theorem aGh {x a k:Int} {s:Bytes} (hk:k≠0):∀ {l:List eZ} (n:Int),(∀ v∈l,¬ (x=a∧v.cD=s))→cv1 x a s k l n = .inr (n+wt k l)
 | [],n,_=>by simp [cv1,wt]
 | v::r,n,h=>by
   have hv:=h v (bA ..)
   have hr:=fun n=>aGh (x:=x) (a:=a) (k:=k) (s:=s) hk (l:=r) n (fun y hy=>h y (aT _ hy))
   rw[cv1,wt,wt1,aD hk]
   by_cases e:v.cB.bU=k
   ·rw[aD (fun q=>q e),aD hv,aE e,hr]
    congr 1;omega
   ·rw[aE e,aD e,hr]
    congr 1;omega
theorem aQ8 {a k:Int} {s:Bytes} (hk:k≠0):∀ {l:List eZ} (n:Int),0≤n→Nms l→cv1 a a s k l n=if 0≤am s k l n then .inl (am s k l n) else .inr (n+wt k l)
 | [],n,_,_=>by simp [cv1,wt,am]
 | v::r,n,hn,h=>by
   have h:=h.cons
   have hr:=fun n hn=>aQ8 (a:=a) (k:=k) (s:=s) hk (l:=r) n hn h.2
   rw[cv1,wt,am,wt1,aD hk]
   by_cases e:v.cB.bU=k
   ·rw[aD (fun q=>q e),aE e]
    by_cases e2:v.cD=s
    ·rw[aE ⟨rfl,e2⟩,aE e2,aE (show 0<1 by decide),aE hn]
    ·rw[aD (fun q=>e2 q.2),aD e2,hr _ (by omega)]
     show (if 0≤am s k r (n+1) then _ else _)=if 0≤am s k r (n+1) then _ else _
     split
     ·rfl
     ·congr 1;omega
   ·rw[aE e,aD e]
    by_cases e2:v.cD=s
    ·rw[aE e2,aD (show ¬ 0<0 by decide),aD (show ¬ (0:Int)≤-1 by decide),aGh hk _ (fun y hy q=>h.1 y hy (q.2.trans e2.symm))]
     congr 1;omega
    ·rw[aD e2,hr _ hn,show n+((0:Nat):Int)=n by omega]
     split
     ·rfl
     ·congr 1;omega
theorem aQ9 {u:cK} {a k:Int} {s:Bytes} (hk:k≠0):∀ {l:List Int} (n:Int),a ∉ l→co1 u a s k l n = -1
 | [],_,_=>rfl
 | x::r,n,h=>by
   rw[co1,aGh hk n (fun v _ q=>h (by rw[q.1];exact bA ..))]
   exact aQ9 hk _ (fun q=>h (aT _ q))
theorem aLk {u:cK} {a k:Int} {s:Bytes} (hk:k≠0) {b:List Int}:∀ {l:List Int} (n:Int),a ∉ l→co1 u a s k (l++b) n=co1 u a s k b (n+cs u k l)
 | [],n,_=>by simp [cs]
 | x::r,n,h=>by
   rw[List.cons_append,co1,aGh hk n (fun v _ q=>h (by rw[q.1];exact bA ..)),cs]
   show co1 u a s k (r++b) _=_
   rw[aLk hk _ (fun q=>h (aT _ q))]
   congr 1;omega
theorem aEP {u:cK} {d:Nat} (hk:(u.bP.getD d default).bU=3):∀ {n:Nat},d<n→∃ t,q9 u n=q9 u d++(d:Int)::t∧∀ x∈t,(d:Int)<x
 | 0,h=>by omega
 | n+1,h=>by
   rw[tP]
   by_cases e:d=n
   ·subst e
    rw[aE hk];exact ⟨[],rfl,by simp⟩
   ·obtain ⟨t,h1,h2⟩:=aEP hk (n:=n) (by omega)
    refine ⟨t++(if (u.bP.getD n default).bU=3 then [(n:Int)] else []),by rw[h1,bJ];rfl,fun x hx=>?_⟩
    rcases aZ.1 hx with hx | hx
    ·exact h2 x hx
    ·split at hx
     ·rw[aJ.1 hx];omega
     ·cases hx
theorem aLl {u:cK} {d:Int}:∀ {l:List Int},(∀ x∈l,x<d)→nU u d l=cs u 0 l
 | [],_=>rfl
 | x::r,h=>by
   rw[nU,cs,aLh,aE (h x (bA ..)),aLl (fun y hy=>h y (aT _ hy))]
theorem aLm {u:cK} {d:Int}:∀ {l:List Int},(∀ x∈l,d≤x)→nU u d l=0
 | [],_=>rfl
 | x::r,h=>by
   rw[nU,aD (by have:=h x (bA ..);omega),aLm (fun y hy=>h y (aT _ hy))]
theorem aRa {u:cK} {d:Int} (hk:kd u d=3):∃ t,q9 u u.bP.length=q9 u d.toNat++d::t∧(∀ x∈q9 u d.toNat,x<d)∧∀ x∈t,d<x:=by
 have hd:=gE hk (by decide)
 have hk':=yJ hd
 obtain ⟨n,rfl⟩:=aP hd.1
 rw[dc,Int.toNat_natCast] at hk'
 obtain ⟨t,h1,h2⟩:=aEP (u:=u) (d:=n) (by omega) (n:=u.bP.length) (by omega)
 rw[Int.toNat_natCast]
 exact ⟨t,h1,fun x hx=>(aFw _ hx).2,h2⟩
theorem aRb {u:cK} (hw:Wf u) {d:Int} (hk:kd u d=3):Nms (dc u d).cA:=((hw d (gE hk (by decide))).a32 hk).2.nd
theorem aRc {u:cK} (hw:Wf u) {d:Int} {s:Bytes}:whr u d s 0=glb u d s:=by
 unfold whr glb
 by_cases hk:kd u d=3
 ·obtain ⟨t,h1,h2,h3⟩:=aRa hk
  rw[aLj 0 (aRb hw hk),h1,aCE,aLl h2,aLm (l:=d::t) (fun x hx=>by
   rcases aY.1 hx with q | q
   ·omega
   ·have:=h3 x q;omega)]
  rfl
 ·rw[aD (fun q=>hk q.1),aD (fun q=>hk q.1)]
theorem aRd {u:cK} (hw:Wf u) {d k:Int} {s:Bytes} (hk0:k≠0):whr u d s k=if kd u d=3 then co1 u d s k (q9 u u.bP.length) 0 else -1:=by
 unfold whr
 by_cases hk:kd u d=3
 ·obtain ⟨t,h1,h2,h3⟩:=aRa hk
  rw[aE hk,h1,aLk hk0 _ (fun q=>by have:=h2 _ q;omega),co1,aQ8 hk0 _ (by omega) (aRb hw hk),aQ6 _ (0+_) (by omega)]
  by_cases e:0≤am s k (dc u d).cA 0
  ·rw[aE ⟨hk,e⟩,aE e,aE (by omega)]
   show _=am s k (dc u d).cA 0+(0+(cs u k (q9 u d.toNat):Int))
   omega
  ·rw[aD (fun q=>e q.2),aD e,aD (by decide)]
   exact (aQ9 hk0 _ (fun q=>by have:=h3 _ q;omega)).symm
 ·rw[aD (fun q=>hk q.1),aD hk]
theorem aRe {K:Nat} {u:cK} {d:Int} {s:Bytes} (hK:100000<K) (hw:Wf u):cQ (F25 K u d s) (fun v=>v=glb u d s):=by
 refine cQ.of ?_
 unfold F25
 refine bO.call (aJE hK hw) ?_
 rintro _ rfl
 exact tl (aRc hw)
theorem aYV {K:Nat} {u:cK} {d:Int} {s:Bytes} (hK:100000<K) (hw:Wf u):cQ (F29 K u d s) (fun v=>v=if kd u d=3 then co1 u d s 7 (q9 u u.bP.length) 0 else -1):=by
 refine cQ.of ?_
 unfold F29
 refine bO.call (aJE hK hw) ?_
 rintro _ rfl
 exact tl (aRd hw (by decide))
theorem aYW {K:Nat} {u:cK} {d:Int} {s:Bytes} (hK:100000<K) (h:Sm u) (hw:Wf u):cQ (F26 K u d s) (fun v=>v=if kd u d=2 then plc (rJ u d) s 0 else -1):=by
 refine cQ.of ?_
 unfold F26
 refine bO.call iU ?_
 rintro _ rfl
 refine bO.ite (fun e=>?_) (fun e=>?_)
 ·simp only[bne_iff_ne,ne_eq] at e
  exact tl (by rw[aD e])
 simp only[bne_iff_ne,ne_eq,Decidable.not_not] at e
 obtain ⟨_,_,rfl,hfl⟩:=uR (K:=100001) (by decide) h hw e
 have hfa:=aHP hw e
 refine bO.call (aBR hK h) ?_
 rintro _ rfl
 refine bO.call (aQ5 hK (by omega) (fun x hx=>.inl (hfa x hx).1)) ?_
 rintro _ rfl
 exact tl (by rw[aE e,aLi 0 (fun x hx=>aYX (hfa x hx).1)])
theorem aYY {K:Nat} {u:cK} {d:Int} {s:Bytes} (hK:100000<K) (h:Sm u) (hw:Wf u):cQ (F30 K u d s) (fun v=>v=ix (fun y:Bytes=>s == y) (p6 u d)):=by
 obtain ⟨_,_,rfl,hsl⟩:=aBJ (K:=100001) (d:=d) (by decide) h hw
 refine cQ.of ?_
 unfold F30
 refine bO.call (aQW hK h hw) ?_
 rintro _ rfl
 generalize p6 u d=l at hsl
 refine bO.b5 (fun _=>ix (fun y:Bytes=>s == y) l = -1) (bO.bQ (bO.cT ?_)) (fun _ h=>tl h.symm)
 refine bO.upI l.length (fun i=>(s == l.getD i default)=false) (by omega) (fun i hi hb=>?_) (fun hb=>?_)
 ·refine bO.bR (bO.dN (by simpa using hi) ?_)
  refine bO.b5 (fun _=>(s == l.getD i default)=false) (bO.bQ (bO.bY (bW (by omega)) (bO.b7 ?_))) (fun _ h=>by rw[wr (by omega) (by omega)];exact tr ⟨rfl,h⟩)
  rw[Int.toNat_natCast]
  refine bO.ite (fun e=>?_) (fun e=>?_)
  ·exact tl (aAS (p:=fun y:Bytes=>s == y) (z:=default) hi hb (beq_iff_eq.2 (beq_iff_eq.1 e).symm)).symm
  ·exact tr (Bool.eq_false_iff.2 (fun q=>e (beq_iff_eq.2 (beq_iff_eq.1 q).symm)))
 ·exact bO.bR (bO.dA (by simp) (tl (yI (p:=fun y:Bytes=>s == y) (z:=default) hb)))
end Go.Proofs.YtdbfbedholdjaaaGreat
