/- No conditions. -/
import Derived.Test.YtdbfbedholdjaaaGreatHUF
import Derived.Test.YtdbfbedholdjaaaGreatHUE
import Derived.Test.YtdbfbedholdjaaaGreatHLt
set_option linter.unusedVariables false
set_option linter.unusedSimpArgs false
set_option linter.unusedSectionVars false
namespace Go.Proofs.YtdbfbedholdjaaaGreat
open Go Go.Dl
variable [dO]
set_option maxRecDepth 100000
set_option maxHeartbeats 8000000
structure Ds (u:cK) (d:Int) (x:w8):Prop where
 base:x.gF=if 1<(chain u d).length then num u ((chain u d).getD 1 default) 2 else -1
 fields:x.uX=dL (rJ u d)
 sigs:x.sA=(p6 u d).map fun s=>kS (sX u (l9 u d s).1)
 vt:x.pM.length=x.sA.length
theorem aKm {u:cK} {d:Int} (hk:kd u d=2) {s:Bytes} (h:s∈p6 u d):(l9 u d s).2=true:=by
 unfold p6 bl.ns at h
 obtain ⟨c,hc,hs⟩:=List.mem_flatMap.1 h
 have hc:=List.mem_reverse.1 hc
 unfold bl.new at hs
 obtain ⟨m,hm,rfl⟩:=List.mem_map.1 hs
 have hm:=(List.mem_filter.1 hm).1
 refine aDz (c:=c) ?_ (aJJ hm (beq_self_eq_true _))
 unfold line
 rw[aD (by omega)];exact hc
def isI (x:eZ):Bool:=x.cB.bU == 6
def isB (x:eZ):Bool:=x.cB.bU == 7
def aZd (x:eZ):Bool:=x.kE == 1
def aRS (x:eZ):Bool:=x.kE == 2
structure Ad (l:List eZ) (a b:fF):Prop where
 gJ:b.cL=a.cL
 a4E:b.cO=a.cO
 j0:b.dI=a.dI
 globals:b.dJ=a.dJ
 init:b.dM=a.dM
 a8N:b.eN=a.eN
 a7x:b.dW.length=a.dW.length+l.countP isI
 blocks:b.b8.length=a.b8.length+l.countP isB
 ins:b.fY.length=a.fY.length+l.countP aZd
 outs:b.eP.length=a.eP.length+l.countP aRS
def Nt (k:Nat) (s:fF):Prop:=s.dW.length≤k∧s.b8.length≤k∧s.fY.length≤k∧s.eP.length≤k
end Go.Proofs.YtdbfbedholdjaaaGreat

namespace Go.Proofs.YtdbfbedholdjaaaGreat
open Go Go.Dl
variable [dO]
set_option maxRecDepth 100000
set_option maxHeartbeats 8000000
def nk (k:Int) (l:List iR):Nat:=l.countP fun x=>x.bU == k
structure Iv (u:cK) (n:Nat) (s:fF):Prop where
 fa:s.cL.length=nk 1 (u.bP.take n)
 cl:s.cO.length=nk 2 (u.bP.take n)
 ds:∀ d:Nat,d<n→(u.bP.getD d default).bU=2→Ds u d (s.cO.getD (nk 2 (u.bP.take d)) default)
 co:s.dI=[]
 it:s.dW.length=(pv (u.bP.take n)).countP isI
 bl:s.b8.length=(pv (u.bP.take n)).countP isB
 ii:s.fY.length=(pv (u.bP.take n)).countP aZd
 oo:s.eP.length=(pv (u.bP.take n)).countP aRS
 jb:s.eN.length=nk 4 (u.bP.take n)
 gl:s.dJ.length=sK (pv u.bP)
 ini:s.dM.length=sK (pv u.bP)
structure Im (u:cK) (s:fF):Prop where
 fa:s.cL.length=nk 1 u.bP
 cl:s.cO.length=nk 2 u.bP
 ds:∀ d:Nat,d<u.bP.length→(u.bP.getD d default).bU=2→Ds u d (s.cO.getD (nk 2 (u.bP.take d)) default)
 co:s.dI.length=a35 u.bP
 it:s.dW.length=(pv u.bP).countP isI
 bl:s.b8.length=(pv u.bP).countP isB
 ii:s.fY.length=(pv u.bP).countP aZd
 oo:s.eP.length=(pv u.bP).countP aRS
 jb:s.eN.length=nk 4 u.bP
 gl:s.dJ.length=sK (pv u.bP)
 ini:s.dM.length=sK (pv u.bP)
abbrev T9:Type:=(List (List Bytes)) × (List w8) × (List sL) × (List Int) × Bytes × (List Int) × (List Int) × (List gV) × (List gV) × (List S85) × Int × Int
end Go.Proofs.YtdbfbedholdjaaaGreat

namespace Go.Proofs.YtdbfbedholdjaaaGreat
open Go Go.Dl
variable [dO]
set_option maxRecDepth 100000
set_option maxHeartbeats 8000000
theorem a6q:bX (F7 200000000)=some true:=by kernel_rfl
theorem aJF:cQ (F7 200000000) (fun v=>v=true):=⟨_,a6q,rfl⟩
theorem aWc {x:eZ} (h:tyV x.cB):(rn x.cB:Int)=if x.cB.bU=6 then 0 else if x.cB.bU=7 then 0 else if x.cB.bU=4 then x.cB.zO+1 else 1:=by
 rw[← aKh]
 unfold rm
 by_cases h6:x.cB.bU=6
 ·rw[aE (.inl h6),aE h6];decide
 ·by_cases h7:x.cB.bU=7
  ·rw[aE (.inr h7),aD h6,aE h7];decide
  ·rw[aD (by omega),aD h6,aD h7]
   by_cases h4:x.cB.bU=4
   ·have hb:0≤x.cB.zO∧x.cB.zO<8:=by
     unfold tyV tyF tyP at h;omega
    rw[aE h4,aE h4,wr (by omega) (by omega)]
    unfold sJ e8
    split <;> split <;> omega
   ·rw[aD h4,aD h4];decide
end Go.Proofs.YtdbfbedholdjaaaGreat

namespace Go.Proofs.YtdbfbedholdjaaaGreat
open Go Go.Dl
variable [dO]
set_option maxRecDepth 100000
set_option maxHeartbeats 8000000
abbrev bs (u:cK) (d:Int):Int:=vC u (dc u d).gF
theorem aWm {u:cK} (hw:Wf u) (hn:Nm u) {d:Int} (hk:kd u d=2) (hb:kd u (bs u d)=2):bs u d<d:=by
 have hd:=gE hk (by decide)
 rcases ((hw d hd).cls hk).base with h | h
 ·exfalso
  have hd':=gE hb (by decide)
  have hq:=(aWk (p:=fun x:iR=>x.cD == (dc u d).gF) (default:iR) (show 0≤ix (fun x:iR=>x.cD == (dc u d).gF) u.bP from hd'.1)).2
  have hm:dc u (bs u d)∈u.bP:=c6 (by omega)
  refine hn _ hm (by rw[← yJ hd'];exact hb) ?_
  rw[← h]
  exact beq_iff_eq.1 hq
 ·exact h.2
theorem nD {u:cK} {d:Int} (hk:kd u d≠2) (n:Nat) (out:List Int):chF u n out d=out:=by
 cases n with
 | zero=>rfl
 | succ n=>rw[chF,aD (fun h=>hk h.1)]
theorem aET {u:cK} (hw:Wf u) (hn:Nm u):∀ (k:Nat) (d:Int),d<k→∀ (n:Nat) (out:List Int),(∀ x∈out,d<x)→d<n→chF u n out d=out++chF u (d.toNat+1) [] d:=by
 intro k
 induction k with
 | zero =>
   intro d hd n out ho hdn
   have hk:kd u d≠2:=fun e=>by have:=gE e (by decide);omega
   rw[nD hk,nD hk,bN]
 | succ k ih =>
   intro d hd n out ho hdn
   by_cases hk:kd u d=2
   ·have hd0:=gE hk (by decide)
    obtain ⟨n,rfl⟩:∃ m,n=m+1:=⟨n - 1,by omega⟩
    have hc:out.contains d=false:=by
     cases e:out.contains d with
     | false=>rfl
     | true=>exact absurd (ho d (by simpa using e)) (by omega)
    rw[chF,aE ⟨hk,hc⟩,chF,aE ⟨hk,rfl⟩,List.nil_append]
    by_cases hb:kd u (bs u d)=2
    ·have hlt:=aWm hw hn hk hb
     have hb0:=gE hb (by decide)
     have h1:=ih (bs u d) (by omega) n (out++[d]) (fun x hx=>by
      rcases aZ.1 hx with hx | hx
      ·have:=ho x hx;omega
      ·rw[aJ.1 hx];exact hlt) (by omega)
     have h2:=ih (bs u d) (by omega) d.toNat [d] (fun x hx=>by rw[aJ.1 hx];exact hlt) (by omega)
     rw[h1,h2,bJ]
    ·rw[nD hb,nD hb]
   ·rw[nD hk,nD hk,bN]
theorem aDq {u:cK} {d:Int} (hk:kd u d≠2):chain u d=[]:=nD hk _ _
theorem aDp {u:cK} (hw:Wf u) (hn:Nm u) {d:Int} (hk:kd u d=2):chain u d=d::chain u (bs u d):=by
 have hd:=gE hk (by decide)
 have h0:chain u d=chF u u.bP.length [d] (bs u d):=by
  unfold chain
  rw[chF,aE ⟨hk,rfl⟩,List.nil_append]
 rw[h0]
 by_cases hb:kd u (bs u d)=2
 ·have hlt:=aWm hw hn hk hb
  have hb0:=gE hb (by decide)
  have h1:=aET hw hn u.bP.length (bs u d) (by omega) u.bP.length [d] (fun x hx=>by rw[aJ.1 hx];exact hlt) (by omega)
  have h2:=aET hw hn u.bP.length (bs u d) (by omega) (u.bP.length+1) [] (fun x hx=>by cases hx) (by omega)
  rw[h1]
  unfold chain
  rw[h2];rfl
 ·rw[nD hb,aDq hb]
structure Bd (u:cK) (d:Int):Prop where
 k:kd u d=2
 kb:kd u (bs u d)=2
 lt:bs u d<d
 ch:chain u d=d::chain u (bs u d)
 at1:(chain u d).getD 1 default=bs u d
theorem aUm {u:cK} {d:Int} (hk:kd u d=2):line u d=chain u d:=by unfold line;rw[aD (by omega)]
theorem aYX {t:fS} (h:tyF t):0<rn t:=by
 have hr:1≤rm t:=by
  unfold rm
  rcases h with (h | h | h) | h | ⟨h,h2,h3⟩
  all_goals rw[aD (by omega)]
  ·rw[aD (by omega)];omega
  ·rw[aD (by omega)];omega
  ·rw[aD (by omega)];omega
  ·rw[aD (by omega)];omega
  ·rw[aE h,wr (by omega) (by omega)];unfold e8;split <;> omega
 unfold rn sJ
 split <;> omega
end Go.Proofs.YtdbfbedholdjaaaGreat

namespace Go.Proofs.YtdbfbedholdjaaaGreat
open Go Go.Dl
variable [dO]
set_option maxRecDepth 100000
set_option maxHeartbeats 8000000
theorem bO.aCJ {α X:Type} {v w:X} {f:X→Option α} {Q:α→Prop} (e:v=w) (h:bO (f w) Q):bO (Go.Dl.bR v f) Q:=by subst e;exact h
theorem aKq {K:Nat} {a:List Bytes} (hK:100000<K) (hl:a.length≤1000):cQ (F12 K a a) (fun v=>v=true):=by
 refine cQ.of ?_
 unfold F12
 refine bO.bR (bO.dA (by simp) ?_)
 refine bO.eC (bO.bQ (bO.cT ?_)) (fun _=>bO.ret (sE.l rfl))
 refine bO.up a.length (by omega) (fun i hi=>?_) ?_
 ·refine bO.bR (bO.dN (by simpa using hi) ?_)
  refine bO.eC (bO.bQ (bO.bY (bW (by omega)) (bO.bY (bW (by omega)) (bO.b7 (bO.bR (bO.dA (by simp) (bO.ret (sE.r trivial)))))))) (fun _=>?_)
  rw[wr (by omega) (by omega)]
  exact bO.ret (sE.r ⟨rfl,trivial⟩)
 ·exact bO.bR (bO.dA (by simp) (bO.ret (sE.l (sE.l trivial))))
theorem aUu {u:cK} (hw:Wf u) (d:Int):(p6 u d).length≤72:=by
 have hmul:(chain u d).length * bl.oA u≤12 * 6:=Nat.mul_le_mul (hw.chain d) hw.oA
 refine aS (bl.uH (fun x=>bl.new (u.bP.getD x.toNat default).bS) (bl.oA u) (fun x=>aS (bl.zP _) (bl.s5 u x)) (chain u d).reverse) ?_
 rw[List.length_reverse];exact hmul
structure Pf (x y:w8):Prop where
 f:∃ l,x.uX=y.uX++l
 s:∃ l,x.sA=y.sA++l
 n:y.sA.length≤72
 v:x.pM.length=x.sA.length
end Go.Proofs.YtdbfbedholdjaaaGreat
