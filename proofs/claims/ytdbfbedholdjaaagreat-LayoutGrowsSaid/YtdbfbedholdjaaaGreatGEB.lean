/- No conditions. -/
import Derived.Test.YtdbfbedholdjaaaGreatGEA
import Derived.Test.YtdbfbedholdjaaaGreatGUG
import Derived.Test.YtdbfbedholdjaaaGreatGLu
set_option linter.unusedVariables false
set_option linter.unusedSimpArgs false
set_option linter.unusedSectionVars false
namespace Go.Proofs.YtdbfbedholdjaaaGreat
open Go Go.Dl
variable [dK]
set_option maxRecDepth 100000
set_option maxHeartbeats 8000000
section
variable {u:cM} {n:Int}
theorem vW:(gU u n).bM.length=u.bM.length+1:=by simp
theorem aCg {i:Nat} (h:i<u.bM.length):(gU u n).bM.getD i default=u.bM.getD i default:=by
 show (u.bM++[gD n]).getD i default=_
 rw[List.getD,List.getElem?_append_left h];rfl
theorem uE:(gU u n).bM.getD u.bM.length default=gD n:=by
 show (u.bM++[gD n]).getD _ default=_
 rw[List.getD,List.getElem?_append_right (aJ _),Nat.sub_self];rfl
theorem mU {d:Int} (h:0≤d∧d<u.bM.length):dc (gU u n) d=dc u d:=aCg (by omega)
theorem qE {d:Int} (h:d<u.bM.length):kd (gU u n) d=kd u d:=by
 have hl:=vW (u:=u) (n:=n)
 unfold Go.Proofs.YtdbfbedholdjaaaGreat.kd
 by_cases h0:d<0
 ·rw[aH (.inl h0),aH (.inl h0)]
 ·rw[aF (by omega),aF (by omega),mU ⟨by omega,h⟩]
theorem aEX:kd (gU u n) u.bM.length=3:=by
 have hl:=vW (u:=u) (n:=n)
 unfold Go.Proofs.YtdbfbedholdjaaaGreat.kd
 rw[aF (by omega),Go.Proofs.YtdbfbedholdjaaaGreat.dc,Int.toNat_natCast,uE]
theorem vX {s:Bytes}:(0≤kY u s→kY (gU u n) s=kY u s)∧(kY u s<0→kY u s = -1∧(kY (gU u n) s = -1∨(kY (gU u n) s=u.bM.length∧s=[48]))):=by
 refine ⟨fun h=>?_,fun h=>?_⟩
 ·unfold Go.Proofs.YtdbfbedholdjaaaGreat.kY at *
  exact aVt h
 ·have h1:=(aD8 (fun d:gX=>d.cD == s) u.bM).1
  have e:Go.Proofs.YtdbfbedholdjaaaGreat.kY u s = -1:=by unfold Go.Proofs.YtdbfbedholdjaaaGreat.kY at *;omega
  refine ⟨e,?_⟩
  have hno:¬ u.bM.findIdx (fun d:gX=>d.cD == s)<u.bM.length:=fun q=>by
   unfold Go.Proofs.YtdbfbedholdjaaaGreat.kY ix at h
   rw[aH q] at h;omega
  unfold Go.Proofs.YtdbfbedholdjaaaGreat.kY ix
  show (if (u.bM++[gD n]).findIdx _<(u.bM++[gD n]).length then (((u.bM++[gD n]).findIdx _:Nat):Int) else -1) = -1∨_
  rw[List.findIdx_append,aF hno]
  by_cases hs:s=[48]
  ·subst hs
   right
   rw[List.findIdx_cons,show ((gD n).cD == ([48]:Bytes))=true from rfl]
   simp
  ·left
   have hf:((gD n).cD == s)=false:=by
    rw[beq_eq_false_iff_ne];exact fun q=>hs q.symm
   rw[List.findIdx_cons,hf]
   simp
   omega
theorem aTy {s:Bytes} {k:Int} (hk:k=1∨k=2):(kd (gU u n) (kY (gU u n) s)=k↔kd u (kY u s)=k)∧(kd u (kY u s)=k→kY (gU u n) s=kY u s):=by
 have h2 : -1≤kY u s∧kY u s<u.bM.length:=aD8 (fun d:gX=>d.cD == s) u.bM
 by_cases h:0≤kY u s
 ·have e:=(vX (u:=u) (n:=n) (s:=s)).1 h
  rw[e,qE h2.2]
  exact ⟨Iff.rfl,fun _=>rfl⟩
 ·obtain ⟨e,h3⟩:=(vX (u:=u) (n:=n) (s:=s)).2 (by omega)
  have hu:kd u (kY u s)=0:=by rw[e];unfold Go.Proofs.YtdbfbedholdjaaaGreat.kd;rw[aH (.inl (by decide))]
  refine ⟨⟨fun q=>?_,fun q=>by omega⟩,fun q=>by omega⟩
  rcases h3 with h3 | ⟨h3,_⟩
  ·rw[h3] at q
   unfold Go.Proofs.YtdbfbedholdjaaaGreat.kd at q
   rw[aH (.inl (by decide))] at q;omega
  ·rw[h3,aEX] at q;omega
theorem aE3 {d k:Int} (h:d<u.bM.length):num (gU u n) d k=num u d k:=by
 unfold Go.Proofs.YtdbfbedholdjaaaGreat.num
 rw[qE h]
 split
 ·show (((u.bM++[gD n]).take d.toNat).countP _:Int)=_
  rw[List.take_append_of_le_length (by omega)]
 ·rfl
theorem aRs {s:Bytes} {k:Int} (hk:k=1∨k=2):num (gU u n) (kY (gU u n) s) k=num u (kY u s) k:=by
 have hf:=aTy (u:=u) (n:=n) (s:=s) hk
 have h2 : -1≤kY u s∧kY u s<u.bM.length:=aD8 (fun d:gX=>d.cD == s) u.bM
 by_cases h:kd u (kY u s)=k
 ·rw[hf.2 h,aE3 h2.2]
 ·unfold Go.Proofs.YtdbfbedholdjaaaGreat.num
  rw[aF h,aF (fun q=>h (hf.1.1 q))]
theorem aJJ (hw:Wf u) {d:Int} (hk:kd u d=2):kY (gU u n) (dc u d).fV=kY u (dc u d).fV:=by
 rcases ((hw d (gA hk (by decide))).cls hk).base with h | h
 ·by_cases h0:0≤kY u (dc u d).fV
  ·exact vX.1 h0
  ·obtain ⟨e,h3⟩:=(vX (u:=u) (n:=n) (s:=(dc u d).fV)).2 (by omega)
   rcases h3 with h3 | ⟨_,h3⟩
   ·rw[h3,e]
   ·rw[h] at h3;cases h3
 ·exact vX.1 (gA h.1 (by decide)).1
theorem aNg (hw:Wf u):∀ (k:Nat) (out:List Int) (d:Int),d<u.bM.length→chF (gU u n) k out d=chF u k out d
 | 0,out,d,h=>rfl
 | k+1,out,d,h=>by
   rw[Go.Proofs.YtdbfbedholdjaaaGreat.chF,Go.Proofs.YtdbfbedholdjaaaGreat.chF,qE h]
   split
   ·rename_i e
    have hd:=gA e.1 (by decide)
    rw[mU hd,aJJ hw e.1]
    exact aNg hw k _ _ (aD8 (fun x:gX=>x.cD == (dc u d).fV) u.bM).2
   ·rfl
theorem qF (hw:Wf u) (hn:Nm u) {d:Int} (h:d<u.bM.length):chain (gU u n) d=chain u d:=by
 unfold Go.Proofs.YtdbfbedholdjaaaGreat.chain
 rw[aNg hw _ _ _ h,vW]
 by_cases hk:kd u d=2
 ·have hd:=gA hk (by decide)
  rw[aD9 hw hn u.bM.length d h _ [] (fun x hx=>by cases hx) (by omega),aD9 hw hn u.bM.length d h (u.bM.length+1) [] (fun x hx=>by cases hx) (by omega)]
 ·rw[mV hk,mV hk]
theorem aRt (hw:Wf u) (hn:Nm u) {d:Int} (h:d<u.bM.length):line (gU u n) d=line u d:=by
 unfold Go.Proofs.YtdbfbedholdjaaaGreat.line
 rw[qE h,qF hw hn h]
theorem aJK {s:Bytes}:∀ {l:List Int},(∀ x∈l,0≤x∧x<u.bM.length)→rC (gU u n) s l=rC u s l
 | [],_=>rfl
 | c::r,h=>by
   rw[Go.Proofs.YtdbfbedholdjaaaGreat.rC,Go.Proofs.YtdbfbedholdjaaaGreat.rC,mU (h c (bH ..)),aJK fun x hx=>h x (aT _ hx)]
theorem aE4 (hw:Wf u) (hn:Nm u) {d:Int} (h:d<u.bM.length) (s:Bytes):nM (gU u n) d s=nM u d s:=by
 unfold Go.Proofs.YtdbfbedholdjaaaGreat.nM
 rw[aRt hw hn h,aJK fun x hx=>aBo hx]
theorem aIi {w:dR} (h:0≤w.c6∧w.c6<u.bM.length):sC (gU u n) w=sC u w:=by
 unfold Go.Proofs.YtdbfbedholdjaaaGreat.sC
 rw[mU h]
theorem zP:∀ {l:List Int},(∀ x∈l,0≤x∧x<u.bM.length)→varsOf (gU u n) l=varsOf u l
 | [],_=>rfl
 | x::l,h=>by
   have:=zP (l:=l) fun y hy=>h y (aT _ hy)
   unfold varsOf at *
   rw[List.flatMap_cons,List.flatMap_cons,this,mU (h x (bH ..))]
theorem aTz:∀ {l:List Int},(∀ x∈l,0≤x∧x<u.bM.length)→bl.ns (gU u n) l=bl.ns u l
 | [],_=>rfl
 | x::l,h=>by
   have:=aTz (l:=l) fun y hy=>h y (aT _ hy)
   have h2:=mU (n:=n) (h x (bH ..))
   unfold dc at h2
   unfold bl.ns at *
   rw[List.flatMap_cons,List.flatMap_cons,this,h2]
theorem aRu (hw:Wf u) (hn:Nm u) {d:Int} (h:0≤d∧d<u.bM.length):rS (gU u n) d=rS u d:=by
 unfold rS
 rw[qE h.2,mU h,qF hw hn h.2,zP fun x hx=>iJ (List.mem_reverse.1 hx)]
theorem aVu (hw:Wf u) (hn:Nm u) {d:Int} (h:d<u.bM.length):qY (gU u n) d=qY u d:=by
 unfold qY
 rw[qF hw hn h,aTz fun x hx=>iJ (List.mem_reverse.1 hx)]
theorem aRv (hw:Wf u) (hn:Nm u) {d:Int} (h:0≤d∧d<u.bM.length) {m:iT} (ho:tC u d m):tC (gU u n) d m:=by
 unfold tC at *
 rw[qF hw hn h.2]
 by_cases hc:1<(chain u d).length
 ·have hi:=iJ (u:=u) (d:=d) (c9 (d:=default) hc)
  rw[aE4 hw hn hi.2]
  refine ⟨ho.1,fun h1 h2=>?_⟩
  rw[aIi (oG h2).1.1]
  exact ho.2 h1 h2
 ·exact ⟨⟨fun q=>absurd (ho.1.1 q).1 hc,fun q=>absurd q.1 hc⟩,fun q=>absurd q hc⟩
theorem aX5 (hw:Wf u) (hn:Nm u) (hl:u.bM.length<12):Wf (gU u n):=by
 intro d hd
 have hle:=vW (u:=u) (n:=n)
 by_cases h:d<u.bM.length
 ·have hd':0≤d∧d<u.bM.length:=⟨hd.1,h⟩
  have ho:=hw d hd'
  refine ⟨by rw[qE h];exact ho.kd,ho.lim,by rw[mU hd'];exact ho.sz,fun q=>?_,fun q=>?_,fun q=>?_⟩
  ·rw[qE h] at q
   have hc:=ho.cls q
   refine ⟨?_,by rw[mU hd'];exact hc.vars,by rw[mU hd'];exact fun m hm=>aRv hw hn hd' (hc.over m hm)⟩
   rw[mU hd',aJJ hw q]
   rcases hc.base with hb | hb
   ·exact .inl hb
   ·exact .inr ⟨by rw[qE (by omega)];exact hb.1,hb.2⟩
  ·rw[qE h] at q
   rw[mU hd'];exact ho.prg q
  ·rw[qE h] at q
   have ht:=ho.tsk q
   have hi:=gA ht (by decide)
   rw[mU hd',vX.1 hi.1,qE hi.2];exact ht
 ·have e:d=u.bM.length:=by omega
  subst e
  have hk:=aEX (u:=u) (n:=n)
  have hdc:dc (gU u n) u.bM.length=gD n:=by unfold dc;rw[Int.toNat_natCast];exact uE
  refine ⟨by rw[hk];decide,by omega,?_,fun q=>by omega,fun _=>?_,fun q=>by omega⟩
  ·rw[hdc];exact ⟨Nat.zero_le _,Nat.zero_le _,(show (2:Nat)≤8 by decide),fun m hm=>by cases hm⟩
  ·rw[hdc]
   intro x hx
   rcases bA.1 hx with rfl | hx
   ·exact ⟨.inr (.inr rfl),fun q=>absurd rfl q,by decide,by decide⟩
   ·rw[aL.1 hx]
    exact ⟨.inl (.inl (.inl rfl)),fun q=>absurd rfl q,(show (0:Int)≤0 by decide),(show (0:Int)≤2 by decide)⟩
theorem aX4 (h:yZ u.bM≤6000):Sm (gU u n):=by
 refine ⟨?_⟩
 show yZ (u.bM++[gD n])≤6004
 rw[pI]
 have:yZ [gD n]=3:=rfl
 omega
end
end Go.Proofs.YtdbfbedholdjaaaGreat

namespace Go.Proofs.YtdbfbedholdjaaaGreat
open Go Go.Dl
variable [dK]
set_option maxRecDepth 100000
set_option maxHeartbeats 8000000
section
variable {u:cM} {n:Int}
abbrev gW (u:cM):dR:=⟨u.bM.length,-1⟩
theorem aNh:∀ k:Nat,k≤u.bM.length→mcs (gU u n) k=mcs u k
 | 0,_=>rfl
 | k+1,h=>by rw[s9,s9,aNh k (by omega),aCg (by omega)]
theorem aNi:∀ k:Nat,k≤u.bM.length→pcs (gU u n) k=pcs u k
 | 0,_=>rfl
 | k+1,h=>by rw[tA,tA,aNi k (by omega),aCg (by omega)]
theorem aCh:iW (gU u n)=iW u++[gW u]:=by
 unfold iW
 rw[vW,s9,tA,aNh _ (aJ _),aNi _ (aJ _),uE]
 show mcs u _++mws (gD n) _++(pcs u _++pws (gD n) _)=_
 rw[show mws (gD n) u.bM.length=[] from rfl,show pws (gD n) u.bM.length=[gW u] from rfl,List.append_nil,List.append_assoc]
theorem aGt {w:dR} (h:w∈iW u):0≤w.c6∧w.c6<u.bM.length:=by
 unfold iW at h
 rcases aX.1 h with h | h
 ·obtain ⟨d,hd,h⟩:=List.mem_flatMap.1 h
  have hd:=List.mem_range.1 hd
  unfold mws at h
  split at h
  ·obtain ⟨m,hm,rfl⟩:=List.mem_map.1 h
   exact ⟨by dsimp only;omega,by dsimp only;omega⟩
  ·cases h
 ·obtain ⟨d,hd,h⟩:=List.mem_flatMap.1 h
  have hd:=List.mem_range.1 hd
  unfold pws at h
  split at h
  ·rw[aL.1 h]
   exact ⟨by dsimp only;omega,by dsimp only;omega⟩
  ·cases h
theorem aVv {α:Type} {p:α→Bool} {a:List α} {z:α} (h:p z=false):ix p (a++[z])=ix p a:=by
 unfold ix
 rw[List.findIdx_append]
 split
 ·rename_i e
  rw[aH (by rw[aD];omega)]
 ·rename_i e
  rw[List.findIdx_cons,h]
  rw[aF (by simp;omega)]
theorem aE5 {w:dR} (h:w.c6≠u.bM.length):vU (gU u n) w=vU u w:=by
 unfold vU
 rw[aCh]
 refine aVv ?_
 unfold isW
 rw[show (w.c6 == (gW u).c6)=false from beq_eq_false_iff_ne.2 h,Bool.false_and]
theorem aNb:vU (gU u n) (gW u)=(iW u).length:=by
 unfold vU
 rw[aCh]
 have hn:∀ x∈iW u,isW (gW u) x=false:=fun x hx=>by
  have:=aGt hx
  unfold isW
  rw[show ((gW u).c6 == x.c6)=false from beq_eq_false_iff_ne.2 (by show (u.bM.length:Int)≠_;omega),Bool.false_and]
 refine aD4 (z:=default) (by rw[aD];simp) (fun j hj=>?_) ?_
 ·rw[List.getD,List.getElem?_append_left hj]
  exact hn _ (c9 (d:=default) hj)
 ·rw[List.getD,List.getElem?_append_right (aJ _),Nat.sub_self]
  unfold isW
  simp
theorem aNj {w:dR} (h:0≤w.c6∧w.c6<u.bM.length):oF (gU u n) w=oF u w:=by
 unfold oF
 rw[aE3 h.2,aIi h]
theorem aNk:∀ k:Nat,k≤u.bM.length→prs (gU u n) k=prs u k
 | 0,_=>rfl
 | k+1,h=>by rw[oE,oE,aNk k (by omega),aCg (by omega)]
theorem aEY:prs (gU u n) (gU u n).bM.length=prs u u.bM.length++[(u.bM.length:Int)]:=by
 rw[vW,oE,aNk _ (aJ _),uE];rfl
theorem aEZ {d:Int}:∀ {l:List Int},(∀ x∈l,0≤x∧x<u.bM.length)→kN (gU u n) d l=kN u d l
 | [],_=>rfl
 | x::l,h=>by
   rw[kN,kN,aEZ (l:=l) fun y hy=>h y (aT _ hy),mU (h x (bH ..))]
theorem aVw {d:Int} (h:0≤d∧d<u.bM.length) (s:Bytes):glb (gU u n) d s=glb u d s:=by
 unfold glb
 rw[qE h.2,mU h,aEY,xO,aEZ fun x hx=>tB _ hx]
 have:kN (gU u n) d [(u.bM.length:Int)]=0:=by
  rw[kN,kN,aF (by omega)]
 rw[this,Nat.add_zero]
theorem aRw (out:List Int) (s:Bytes):iA (gU u n) out s=iA u out s:=by
 have hf:=aTy (u:=u) (n:=n) (s:=s) (k:=1) (.inl rfl)
 unfold iA
 by_cases h:kd u (kY u s)=1
 ·rw[hf.2 h,qE (show kY u s<u.bM.length from (aD8 (fun d:gX=>d.cD == s) u.bM).2)]
 ·rw[aF (fun q=>h (hf.1.1 q.1)),aF (fun q=>h q.1)]
theorem aNl (hw:Wf u) (hn:Nm u) {d:Int} (h:d<u.bM.length):lH (gU u n) d=lH u d:=by
 unfold lH
 rw[qF hw hn h]
 have hin:=fun x hx=>iJ (u:=u) (d:=d) (x:=x) hx
 generalize chain u d=r at hin
 have key:∀ (l:List Int) (out:List Int),(∀ x∈l,0≤x∧x<u.bM.length)→l.foldl (fun out c=>(dc (gU u n) c).cK.foldl (iA (gU u n)) out) out=l.foldl (fun out c=>(dc u c).cK.foldl (iA u) out) out:=by
  intro l
  induction l with
  | nil=>exact fun _ _=>rfl
  | cons x l ih =>
    intro out hx
    rw[List.foldl_cons,List.foldl_cons,ih _ (fun y hy=>hx y (aT _ hy)),mU (hx x (bH ..))]
    have:iA (gU u n)=iA u:=funext fun o=>funext fun s=>aRw o s
    rw[this]
 exact key r [] hin
theorem aRx (hw:Wf u) (hn:Nm u) {d:Int} (h:d<u.bM.length) (s:Bytes):aE1 (gU u n) d s=aE1 u d s:=by
 unfold aE1
 rw[aE4 hw hn h]
 split
 ·rename_i e
  have:=(oG e).1.1
  rw[aE5 (by omega)]
 ·rfl
theorem aRy (hw:Wf u) (hn:Nm u) {d:Int} (h:0≤d∧d<u.bM.length) (hk:kd u d=2):desc (gU u n) d=desc u d:=by
 have hsf:sfs (gU u n) d=sfs u d:=by unfold sfs;rw[aNl hw hn h.2]
 unfold desc
 rw[qF hw hn h.2,aRu hw hn h,aVu hw hn h.2,hsf]
 have h1:(if 1<(chain u d).length then num (gU u n) ((chain u d).getD 1 default) 2 else -1)=(if 1<(chain u d).length then num u ((chain u d).getD 1 default) 2 else -1):=by
  split
  ·rename_i e
   rw[aE3 (iJ (u:=u) (d:=d) (c9 (d:=default) e)).2]
  ·rfl
 have h2:((qY u d).map fun s=>vU (gU u n) (nM (gU u n) d s).1)=(qY u d).map fun s=>vU u (nM u d s).1:=List.map_congr_left fun s hs=>by
  have:=(oG (aBl hk hs)).1.1
  rw[aE4 hw hn h.2,aE5 (by omega)]
 have h3:((qY u d).map fun s=>lV (sC (gU u n) (nM (gU u n) d s).1))=(qY u d).map fun s=>lV (sC u (nM u d s).1):=List.map_congr_left fun s hs=>by
  rw[aE4 hw hn h.2,aIi (oG (aBl hk hs)).1.1]
 have h4:((sfs u d).map fun f=>aGr (gU u n) d f)=(sfs u d).map fun f=>aGr u d f:=List.map_congr_left fun f hf=>by
  have hi:=aNe hf
  unfold aGr
  rw[aE3 hi.2,mU hi]
  have:(fun m:iT=>aE1 (gU u n) d m.cD)=fun m=>aE1 u d m.cD:=funext fun m=>aRx hw hn h.2 _
  rw[this]
 rw[h1,h2,h3,h4]
theorem aVx {d:Int} (h:0≤d∧d<u.bM.length) (s:gK) (x:fE):uS (gU u n) d s x=uS u d s x:=by
 unfold uS lnk
 rw[aVw h,aRs (.inr rfl)]
theorem aVy (hw:Wf u) (hn:Nm u) {k:Nat} (h:k<u.bM.length) (s:gK):stp (gU u n) s k=stp u s k:=by
 have hk:=aCe (u:=u) (d:=k) ⟨by omega,by omega⟩
 rw[dc,Int.toNat_natCast] at hk
 unfold stp
 rw[aCg h]
 by_cases e1:(u.bM.getD k default).bR=1
 ·rw[aH e1,aH e1]
 rw[aF e1,aF e1]
 by_cases e2:(u.bM.getD k default).bR=2
 ·rw[aH e2,aH e2,aRy hw hn ⟨by omega,by omega⟩ (by rw[hk];exact e2)]
 rw[aF e2,aF e2]
 by_cases e3:(u.bM.getD k default).bR=3
 ·rw[aH e3,aH e3]
  have:uS (gU u n) k=uS u k:=funext fun s=>funext fun x=>aVx ⟨by omega,by omega⟩ s x
  rw[this]
 rw[aF e3,aF e3]
 by_cases e4:(u.bM.getD k default).bR=4
 ·rw[aH e4,aH e4]
  have ht:=(hw k ⟨by omega,by omega⟩).tsk (by rw[hk];exact e4)
  rw[dc,Int.toNat_natCast] at ht
  have hi:=gA ht (by decide)
  rw[vX.1 hi.1,aE5 (by dsimp only;omega)]
 ·rw[aF e4,aF e4]
theorem aNm (hw:Wf u) (hn:Nm u) (s:gK):∀ k:Nat,k≤u.bM.length→lay (gU u n) k s=lay u k s
 | 0,_=>rfl
 | k+1,h=>by rw[mT,mT,aNm hw hn s k (by omega),aVy hw hn (by omega)]
end
end Go.Proofs.YtdbfbedholdjaaaGreat

namespace Go.Proofs.YtdbfbedholdjaaaGreat
open Go Go.Dl
variable [dK]
set_option maxRecDepth 100000
set_option maxHeartbeats 8000000
theorem zQ {K:Nat} {a:List Int} (hK:100000000<K) (hl:a.length≤100000000):cR (F32 K a a) (fun v=>v=true):=by
 refine cR.of ?_
 unfold F32
 refine bL.bO (bL.dN (by simp) ?_)
 refine bL.dI (bL.bN (bL.c7 ?_)) (fun _=>tl rfl)
 refine bL.up a.length (by omega) (fun i hi=>?_) (bL.bO (bL.dN (by simp) (tl (sE.l trivial))))
 refine bL.bO (bL.dV (by simpa using hi) ?_)
 refine bL.dI (bL.bN (bL.bW (bT (by omega)) (bL.bW (bT (by omega)) (bL.bX (bL.bO (bL.dN (by simp) (tr trivial))))))) (fun _=>?_)
 rw[wr (by omega) (by omega)]
 exact tr ⟨rfl,trivial⟩
theorem aNo {K:Nat} {a:List jU} (hK:100000000<K) (hl:a.length≤100000000):cR (F96 K a a) (fun v=>v=true):=by
 refine cR.of ?_
 unfold F96
 refine bL.bO (bL.dN (by simp) ?_)
 refine bL.dI (bL.bN (bL.c7 ?_)) (fun _=>tl rfl)
 refine bL.up a.length (by omega) (fun i hi=>?_) (bL.bO (bL.dN (by simp) (tl (sE.l trivial))))
 refine bL.bO (bL.dV (by simpa using hi) ?_)
 refine bL.dI (bL.bN (bL.bW (bT (by omega)) (bL.bW (bT (by omega)) (bL.bX (bL.bO (bL.dN (by simp) (tr trivial))))))) (fun _=>?_)
 rw[wr (by omega) (by omega)]
 exact tr ⟨rfl,trivial⟩
theorem aVz {K:Nat} {a:List aDC} (hK:100000000<K) (hl:a.length≤100000000):cR (F98 K a a) (fun v=>v=true):=by
 refine cR.of ?_
 unfold F98
 refine bL.bO (bL.dN (by simp) ?_)
 refine bL.dI (bL.bN (bL.c7 ?_)) (fun _=>tl rfl)
 refine bL.up a.length (by omega) (fun i hi=>?_) (bL.bO (bL.dN (by simp) (tl (sE.l trivial))))
 refine bL.bO (bL.dV (by simpa using hi) ?_)
 refine bL.dI (bL.bN (bL.bW (bT (by omega)) (bL.bW (bT (by omega)) (bL.bX (bL.bO (bL.dN (by simp) (tr trivial))))))) (fun _=>?_)
 rw[wr (by omega) (by omega)]
 exact tr ⟨rfl,trivial⟩
structure Sc (x:S56):Prop where
 i:x.dU.length≤100000000
 v:x.pJ.length≤100000000
 s:x.rO.length≤1000
 t:x.fZ.length≤100000000
 l:∀ t∈x.fZ,t.zR.length≤100000000
theorem aVA {K:Nat} {x:S56} (hK:100000000<K) (h:Sc x):cR (F97 K x x) (fun v=>v=true):=by
 obtain ⟨h1,h2,h3,h4,h5⟩:=h
 refine cR.of ?_
 unfold F97
 refine bL.aDB (w:=false) (by simp) ?_
 refine bL.cJ (by decide) (zQ hK h1) ?_
 rintro _ rfl
 refine bL.cJ (by decide) (zQ hK h2) ?_
 rintro _ rfl
 refine bL.cJ (by decide) (aJL (by omega) h3) ?_
 rintro _ rfl
 refine bL.aDB (w:=false) (by simp) ?_
 refine bL.dN (by decide) ?_
 refine bL.dI (bL.bN (bL.c7 ?_)) (fun _=>tl rfl)
 refine bL.up x.fZ.length (by omega) (fun i hi=>?_) (bL.bO (bL.dN (by simp) (tl (sE.l trivial))))
 have hb:=bT (show 0≤(i:Int)∧(i:Int)<x.fZ.length by omega)
 refine bL.bO (bL.dV (by simpa using hi) ?_)
 refine bL.dI (bL.bN (bL.bW hb (bL.bW hb (bL.bW (by rw[hb,Bool.or_true]) (bL.bW (by rw[hb,Bool.or_true]) (bL.bX (bL.aDB (w:=false) (by simp) ?_))))))) (fun _=>by rw[wr (by omega) (by omega)];exact tr ⟨rfl,trivial⟩)
 refine bL.cJ (by decide) (zQ hK (h5 _ (c9 (d:=default) (by rw[Int.toNat_natCast];exact hi)))) ?_
 rintro _ rfl
 exact bL.dN (by decide) (tr trivial)
theorem aVB {K:Nat} {x:uF} (hK:100000000<K) (h:x.aIj.length≤100000000):cR (F54 K x x) (fun v=>v=true):=by
 refine cR.of ?_
 unfold F54
 refine bL.aDB (w:=true) (by simp) ?_
 refine bL.cJ (by decide) (aVz hK h) ?_
 rintro _ rfl
 exact tl rfl
structure Si (x:gK):Prop where
 f:x.cK.length≤100000000∧∀ t∈x.cK,t.length≤1000
 c:x.cS.length≤100000000∧∀ t∈x.cS,Sc t
 o:x.dQ.length≤100000000∧∀ t∈x.dQ,t.aIj.length≤100000000
 n:x.eM.length≤100000000
 i:x.dU.length≤100000000
 b:x.bY.length≤100000000
 ii:x.iK.length≤100000000
 oo:x.fJ.length≤100000000
 j:x.eV.length≤100000000
theorem aVC {K:Nat} {x:gK} (hK:100000000<K) (h:Si x):cR (F53 K x x) (fun v=>v=true):=by
 refine cR.of ?_
 unfold F53
 refine bL.aDB (w:=false) (by simp) ?_
 refine bL.cJ (by decide) (zQ hK h.n) ?_
 rintro _ rfl
 refine bL.aDB (w:=false) (by simp) ?_
 refine bL.cJ (by decide) (zQ hK h.i) ?_
 rintro _ rfl
 refine bL.cJ (by decide) (zQ hK h.b) ?_
 rintro _ rfl
 refine bL.cJ (by decide) (aNo hK h.ii) ?_
 rintro _ rfl
 refine bL.cJ (by decide) (aNo hK h.oo) ?_
 rintro _ rfl
 refine bL.aDB (w:=false) (by simp) ?_
 refine bL.dN (by decide) ?_
 refine bL.dI (bL.bN (bL.c7 ?_)) (fun _=>bL.dI (bL.bN (bL.c7 ?_)) (fun _=>bL.dI (bL.bN (bL.c7 ?_)) (fun _=>tl rfl)))
 ·have hl:=h.f.1
  refine bL.up x.cK.length (by omega) (fun i hi=>?_) (bL.bO (bL.dN (by simp) (tl (sE.l trivial))))
  have hb:=bT (show 0≤(i:Int)∧(i:Int)<x.cK.length by omega)
  refine bL.bO (bL.dV (by simpa using hi) ?_)
  refine bL.dI (bL.bN (bL.bW hb (bL.bW hb (bL.bX ?_)))) (fun _=>by rw[wr (by omega) (by omega)];exact tr ⟨rfl,trivial⟩)
  refine bL.cJ (by decide) (aJL (by omega) (h.f.2 _ (c9 (d:=default) (by rw[Int.toNat_natCast];exact hi)))) ?_
  rintro _ rfl
  exact bL.dN (by decide) (tr trivial)
 ·have hl:=h.c.1
  refine bL.up x.cS.length (by omega) (fun i hi=>?_) (bL.bO (bL.dN (by simp) (tl (sE.l trivial))))
  have hb:=bT (show 0≤(i:Int)∧(i:Int)<x.cS.length by omega)
  refine bL.bO (bL.dV (by simpa using hi) ?_)
  refine bL.dI (bL.bN (bL.bW hb (bL.bW hb (bL.bX ?_)))) (fun _=>by rw[wr (by omega) (by omega)];exact tr ⟨rfl,trivial⟩)
  refine bL.cJ (by decide) (aVA hK (h.c.2 _ (c9 (d:=default) (by rw[Int.toNat_natCast];exact hi)))) ?_
  rintro _ rfl
  exact bL.dN (by decide) (tr trivial)
 ·have hl:=h.j
  refine bL.up x.eV.length (by omega) (fun i hi=>?_) (bL.bO (bL.dN (by simp) (tl (sE.l trivial))))
  have hb:=bT (show 0≤(i:Int)∧(i:Int)<x.eV.length by omega)
  refine bL.bO (bL.dV (by simpa using hi) ?_)
  exact bL.dI (bL.bN (bL.bW hb (bL.bW hb (bL.bX (bL.bO (bL.dN (by simp) (tr trivial))))))) (fun _=>by rw[wr (by omega) (by omega)];exact tr ⟨rfl,trivial⟩)
theorem aVe {K:Nat} {x:gK} (hK:100000000<K) (h:Si x):cR (F16 K x x) (fun v=>v=true):=by
 refine cR.of ?_
 unfold F16
 refine bL.call (aVC hK h) ?_
 rintro _ rfl
 refine bL.bO (bL.dN (by simp) ?_)
 refine bL.dI (bL.bN (bL.c7 ?_)) (fun _=>tl rfl)
 have hl:=h.o.1
 refine bL.up x.dQ.length (by omega) (fun i hi=>?_) (bL.bO (bL.dN (by simp) (tl (sE.l trivial))))
 have hb:=bT (show 0≤(i:Int)∧(i:Int)<x.dQ.length by omega)
 refine bL.bO (bL.dV (by simpa using hi) ?_)
 refine bL.dI (bL.bN (bL.bW hb (bL.bW hb (bL.bX ?_)))) (fun _=>by rw[wr (by omega) (by omega)];exact tr ⟨rfl,trivial⟩)
 refine bL.cJ (by decide) (aVB hK (h.o.2 _ (c9 (d:=default) (by rw[Int.toNat_natCast];exact hi)))) ?_
 rintro _ rfl
 exact bL.dN (by decide) (tr trivial)
end Go.Proofs.YtdbfbedholdjaaaGreat

namespace Go.Proofs.YtdbfbedholdjaaaGreat
open Go Go.Dl
variable [dK]
set_option maxRecDepth 100000
set_option maxHeartbeats 8000000
def sGI (s:gK) (g:Bytes) (i:List Int):gK:=⟨s.cK,s.cS,s.dQ,s.eM,g,i,s.bY,s.iK,s.fJ,s.eV,s.fD,s.fW⟩
theorem aVD {u:cM} {d:Int} (s:gK) (g:Bytes) (i:List Int) (x:fE):uS u d (sGI s g i) x=sGI (uS u d s x) g i:=by
 unfold uS
 by_cases e1:x.cO.bR=6
 ·rw[aH e1,aH e1];rfl
 rw[aF e1,aF e1]
 by_cases e2:x.cO.bR=7
 ·rw[aH e2,aH e2];rfl
 rw[aF e2,aF e2]
 by_cases e3:x.kO=1
 ·rw[aH e3,aH e3];rfl
 rw[aF e3,aF e3]
 by_cases e4:x.kO=2
 ·rw[aH e4,aH e4];rfl
 rw[aF e4,aF e4]
theorem aJM {u:cM} {d:Int} (g:Bytes) (i:List Int):∀ (l:List fE) (s:gK),l.foldl (uS u d) (sGI s g i)=sGI (l.foldl (uS u d) s) g i
 | [],s=>rfl
 | x::l,s=>by rw[List.foldl_cons,List.foldl_cons,aVD,aJM g i l]
theorem aVE {u:cM} (s:gK) (g:Bytes) (i:List Int) (k:Nat):stp u (sGI s g i) k=sGI (stp u s k) g i:=by
 unfold stp
 by_cases e1:(u.bM.getD k default).bR=1
 ·rw[aH e1,aH e1];rfl
 rw[aF e1,aF e1]
 by_cases e2:(u.bM.getD k default).bR=2
 ·rw[aH e2,aH e2];rfl
 rw[aF e2,aF e2]
 by_cases e3:(u.bM.getD k default).bR=3
 ·rw[aH e3,aH e3,aJM]
 rw[aF e3,aF e3]
 by_cases e4:(u.bM.getD k default).bR=4
 ·rw[aH e4,aH e4];rfl
 rw[aF e4,aF e4]
theorem aNp {u:cM} (g:Bytes) (i:List Int) (s:gK):∀ k:Nat,lay u k (sGI s g i)=sGI (lay u k s) g i
 | 0=>rfl
 | k+1=>by rw[mT,mT,aNp g i s k,aVE]
def rT (u:cM):gK:=lay u u.bM.length (im0 [] [])
theorem aIc (u:cM):img u=aTx (sGI (rT u) (eL (pv u.bM)) (inits (pv u.bM))) ((iW u).map (oF u)):=by
 unfold img rT
 rw[show im0 (eL (pv u.bM)) (inits (pv u.bM))=sGI (im0 [] []) (eL (pv u.bM)) (inits (pv u.bM)) from rfl,aNp]
theorem aYa {u:cM} {n:Int}:pv (gU u n).bM=pv u.bM++gV n:=by
 show pv (u.bM++[gD n])=_
 unfold pv
 rw[List.flatMap_append]
 rfl
theorem aIk (n:Int):eL (gV n)=[105]:=rfl
theorem aNq (n:Int):inits (gV n)=[n]:=rfl
def grow (r:gK) (n:Int):gK:=⟨r.cK,r.cS,r.dQ++[gC],r.eM,r.dS++[105],r.dU++[n],r.bY++[3],r.iK,r.fJ,r.eV,r.fD,r.fW⟩
theorem aVd {u:cM} {n:Int} (hw:Wf u) (hn:Nm u):img (gU u n)=grow (img u) n:=by
 rw[aIc,aIc u,aYa,aAx,aD3,aIk,aNq,aCh,List.map_append]
 have h1:rT (gU u n)=stp (gU u n) (rT u) u.bM.length:=by
  unfold rT
  rw[vW,mT,aNm hw hn _ _ (aJ _)]
 have h2:(iW u).map (oF (gU u n))=(iW u).map (oF u):=List.map_congr_left fun w hw2=>aNj (aGt hw2)
 have h3:stp (gU u n) (rT u) u.bM.length=⟨(rT u).cK,(rT u).cS,(rT u).dQ,(rT u).eM,(rT u).dS,(rT u).dU,(rT u).bY++[3],(rT u).iK,(rT u).fJ,(rT u).eV,(rT u).fD,(rT u).fW⟩:=by
  unfold stp
  rw[uE]
  rfl
 rw[h1,h2,h3]
 rfl
end Go.Proofs.YtdbfbedholdjaaaGreat

namespace Go.Proofs.YtdbfbedholdjaaaGreat
open Go Go.Dl
variable [dK]
set_option maxRecDepth 100000
set_option maxHeartbeats 8000000
def cv1 (x a:Int) (s:Bytes) (k:Int):List fE→Int→Int ⊕ Int
 | [],n=>.inr n
 | v::r,n=>if v.cO.bR≠k then cv1 x a s k r n else if x=a∧v.cD=s then .inl n else cv1 x a s k r (n+1)
def co1 (u:cM) (a:Int) (s:Bytes) (k:Int):List Int→Int→Int
 | [],_=>-1
 | x::r,n=>match cv1 x a s k (dc u x).cH n with
   | .inl m=>m
   | .inr m=>co1 u a s k r m
theorem aU6 {K:Nat} {u:cM} {d k:Int} {s:Bytes} (hK:100000<K) (h:Sm u) (hw:Wf u):cR (F56 K u d s k) (fun v=>v=if kd u d=3 then co1 u d s k (prs u u.bM.length) 0 else -1):=by
 refine cR.of ?_
 unfold F56
 refine bL.call (uC (by decide)) ?_
 rintro _ rfl
 refine bL.ite (fun e=>tl ?_) (fun e=>?_)
 ·simp only[aP,beq_eq_false_iff_ne,ne_eq] at e
  rw[aF e]
 simp only[aP,Bool.not_eq_false,beq_iff_eq] at e
 rw[aH e]
 have hl:=hw.len'
 refine bL.call (aM5 hK hw) ?_
 rintro _ rfl
 have hpi:∀ x∈prs u u.bM.length,0≤x∧x<u.bM.length:=fun x hx=>tB _ hx
 have hpn:=aBi u u.bM.length
 generalize prs u u.bM.length=r at hpi hpn
 refine bL.bZ (fun _=>co1 u d s k r 0 = -1) (bL.bN (bL.c7 ?_)) (fun v hv=>tl hv.symm)
 refine bL.upN r.length (fun i (t:Int × Int)=>t.2=i∧0≤t.1∧t.1≤10 * i∧co1 u d s k (r.drop i) t.1=co1 u d s k r 0) ⟨rfl,by decide,by decide,rfl⟩ (by omega) ?_ ?_
 ·rintro i hi ⟨c,t⟩ ⟨g0,g1,g2,g3⟩
  dsimp only at g0 g1 g2 g3 ⊢
  subst g0
  rw[lF default hi] at g3
  have hx:=hpi _ (c9 (d:=default) hi)
  refine bL.bO (bL.dV (by simpa using hi) ?_)
  rw[Int.toNat_natCast]
  generalize r.getD i default=x at g3 hx
  have hxv:=(hw.sz x).v
  refine bL.bZ (fun v:Int=>0≤v∧v≤10 * (i+1)∧co1 u d s k (r.drop (i+1)) v=co1 u d s k r 0) (bL.bN (bL.bW (bT (by omega)) (bL.bX (bL.bW (bT hx) (bL.bX (bL.bO (bL.bO ?_))))))) (fun v hv=>by rw[wr (by omega) (by omega)];exact tr ⟨by dsimp only;omega,hv.1,by dsimp only;omega,hv.2.2⟩)
  have hfv:(u.bM.getD x.toNat default).cH=(dc u x).cH:=rfl
  rw[hfv]
  rw[co1] at g3
  generalize (dc u x).cH=l at hxv g3
  refine bL.bZ (fun v:Int=>0≤v∧v≤10 * (i+1)∧co1 u d s k (r.drop (i+1)) v=co1 u d s k r 0) (bL.bN (bL.c7 ?_)) (fun v hv=>tr hv)
  refine bL.upN l.length (fun j (t:Int × Int)=>t.2=j∧c≤t.1∧t.1≤c+j∧cv1 x d s k (l.drop j) t.1=cv1 x d s k l c) ⟨rfl,by dsimp only;omega,by dsimp only;omega,rfl⟩ (by omega) ?_ ?_
  ·rintro j hj ⟨c2,t2⟩ ⟨k0,k1,k2,k3⟩
   dsimp only at k0 k1 k2 k3 ⊢
   subst k0
   rw[lF default hj] at k3
   refine bL.dV (by simpa using hj) ?_
   refine bL.bZ (fun v:Int=>c≤v∧v≤c+(j+1)∧cv1 x d s k (l.drop (j+1)) v=cv1 x d s k l c) (bL.bN (bL.bW (bT (by omega)) (bL.bX (bL.bO ?_)))) (fun v hv=>by rw[wr (by omega) (by omega)];exact tr ⟨by dsimp only;omega,hv.1,by dsimp only;omega,hv.2.2⟩)
   rw[Int.toNat_natCast]
   generalize l.getD j default=y at k3
   rw[cv1] at k3
   refine bL.ite (fun e1=>?_) (fun e1=>bL.bO ?_)
   ·simp only[bne_iff_ne,ne_eq] at e1
    rw[aH e1] at k3
    exact tl (sE.l ⟨k1,by omega,k3⟩)
   ·simp only[bne_iff_ne,ne_eq,Decidable.not_not] at e1
    rw[aF (fun q=>q e1)] at k3
    refine bL.ite (fun e2=>?_) (fun e2=>?_)
    ·simp only[aC,beq_iff_eq] at e2
     rw[aH e2] at k3
     rw[← k3] at g3
     exact tl g3
    ·simp only[aC,beq_iff_eq] at e2
     rw[aF e2] at k3
     rw[wr (by omega) (by omega)]
     exact tr ⟨by omega,by omega,k3⟩
  ·rintro ⟨c2,t2⟩ ⟨k0,k1,k2,k3⟩
   dsimp only at k0 k1 k2 k3 ⊢
   subst k0
   rw[List.drop_length,cv1] at k3
   rw[← k3] at g3
   refine bL.dN (by simp) (tl ?_)
   exact ⟨by omega,by omega,g3⟩
 ·rintro ⟨c,t⟩ ⟨g0,g1,g2,g3⟩
  dsimp only at g0 g1 g2 g3 ⊢
  subst g0
  rw[List.drop_length,co1] at g3
  exact bL.bO (bL.dN (by simp) (tl g3.symm))
theorem aU7 {K:Nat} {u:cM} {d:Int} {s:Bytes} (hK:100000<K) (h:Sm u) (hw:Wf u):cR (F18 K u d s) (fun v=>v=if kd u d=3 then co1 u d s 7 (prs u u.bM.length) 0 else -1):=by
 refine cR.of ?_
 unfold F18
 refine bL.call (aU6 hK h hw) ?_
 rintro _ rfl
 exact tl rfl
theorem zN {x a:Int} {s:Bytes} (hx:x≠a):∀ (l:List fE) (n:Int),cv1 x a s 7 l n = .inr (n+(l.countP isB:Nat))
 | [],n=>by rw[cv1];simp
 | v::r,n=>by
   rw[cv1]
   by_cases e:v.cO.bR=7
   ·have hb:isB v=true:=by rw[aJC];exact e
    rw[aF (fun q=>q e),aF (fun q=>hx q.1),zN hx r,List.countP_cons,hb]
    congr 1
    simp only[if_true];omega
   ·have hb:¬ isB v=true:=by rw[aJC];exact e
    rw[aH e,zN hx r,List.countP_cons,aF hb]
    rfl
theorem aJD {u:cM} {a:Int} {s:Bytes} {r:List Int}:∀ (l:List Int) (n:Int),(∀ x∈l,x≠a)→co1 u a s 7 (l++r) n=co1 u a s 7 r (n+((varsOf u l).countP isB:Nat))
 | [],n,_=>by simp [varsOf]
 | x::l,n,h=>by
   rw[List.cons_append,co1,zN (h x (bH ..))]
   show co1 u a s 7 (l++r) _=_
   rw[aJD l _ fun y hy=>h y (aT _ hy)]
   congr 1
   unfold varsOf
   rw[List.flatMap_cons,List.countP_append]
   omega
theorem aCc {u:cM}:∀ k:Nat,k≤u.bM.length→varsOf u (prs u k)=pv (u.bM.take k)
 | 0,_=>rfl
 | k+1,h=>by
   rw[oE,vV,aCc k (by omega),aM6 (by omega)]
   split
   ·rename_i e
    congr 1
    simp [varsOf,dc]
   ·simp [varsOf]
theorem aGp {u:cM} {d:Int}:∀ {l:List Int},(∀ x∈l,x<d)→kN u d l=jT (varsOf u l)
 | [],_=>rfl
 | x::l,h=>by
   rw[kN,aH (h x (bH ..)),aGp fun y hy=>h y (aT _ hy)]
   unfold varsOf
   rw[List.flatMap_cons,aCd]
end Go.Proofs.YtdbfbedholdjaaaGreat

namespace Go.Proofs.YtdbfbedholdjaaaGreat
open Go Go.Dl
variable [dK]
set_option maxRecDepth 100000
set_option maxHeartbeats 8000000
theorem aU8 {u:cM} (h:Sm u) (hw:Wf u):Im u (img u):=by
 obtain ⟨v,h1,h2⟩:=aU9 (K:=200000) (by omega) h hw
 obtain ⟨v',h3,h4⟩:=aM7 (K:=200000) (by omega) h hw
 rw[h1] at h3
 injection h3 with h3
 rw[← h4,← h3];exact h2
theorem aRl {u:cM} {d:Int} (h:Sm u) (hw:Wf u) (hk:kd u d=2):Sc (desc u d):=by
 obtain ⟨v,_,rfl,hle⟩:=xN (K:=200000) (by omega) h hw hk
 have h1:=aRm hw d
 have h2:=uD u d
 have h3:=hw.len'
 have h4:=mL (rS u d)
 refine ⟨?_,?_,?_,?_,?_⟩
 ·show (inits (rS u d)).length≤_
  rw[qD];omega
 ·show ((qY u d).map _).length≤_
  rw[aW];omega
 ·show ((qY u d).map _).length≤_
  rw[aW];omega
 ·show ((sfs u d).map _).length≤_
  rw[aW]
  unfold sfs
  rw[List.length_mergeSort];omega
 ·intro t ht
  obtain ⟨f,_,rfl⟩:=List.mem_map.1 (show t∈(sfs u d).map fun f=>aGr u d f from ht)
  have:=(hw.sz f).m
  show ((dc u f).bQ.map _).length≤_
  rw[aW];omega
structure Mk (s:gK):Prop where
 f:∀ t∈s.cK,t.length≤1000
 c:∀ t∈s.cS,Sc t
theorem aVa {u:cM} (h:Sm u) (hw:Wf u) {k:Nat} (hk:k<u.bM.length) {s:gK} (hs:Mk s):Mk (stp u s k):=by
 have hkd:=aCe (u:=u) (d:=k) ⟨by omega,by omega⟩
 have hm:=(hw.sz (k:Int)).m
 rw[dc,Int.toNat_natCast] at hkd hm
 obtain ⟨h1,h2⟩:=hs
 unfold stp
 split
 ·refine ⟨fun t ht=>?_,h2⟩
  rcases aX.1 ht with ht | ht
  ·exact h1 t ht
  ·rw[aL.1 ht,aW];omega
 split
 ·rename_i e1 e2
  refine ⟨h1,fun t ht=>?_⟩
  rcases aX.1 ht with ht | ht
  ·exact h2 t ht
  ·rw[aL.1 ht];exact aRl h hw (by rw[hkd];exact e2)
 split
 ·have hp:=aEW u k (u.bM.getD k default).cH s
  exact ⟨by rw[hp.f];exact h1,by rw[hp.c];exact h2⟩
 split
 ·exact ⟨h1,h2⟩
 ·exact ⟨h1,h2⟩
theorem aM8 {u:cM} (h:Sm u) (hw:Wf u) (g:Bytes) (i:List Int):∀ k,k≤u.bM.length→Mk (lay u k (im0 g i))
 | 0,_=>⟨fun t ht=>(by cases ht),fun t ht=>(by cases ht)⟩
 | k+1,hk=>by rw[mT];exact aVa h hw (by omega) (aM8 h hw g i k (by omega))
theorem aD5 {u:cM}:(img u).dS=eL (pv u.bM)∧(img u).dU=inits (pv u.bM):=by
 rw[aIc];exact ⟨rfl,rfl⟩
theorem aRn {u:cM} {n:Int} (h:Sm u) (hw:Wf u):Si (grow (img u) n):=by
 have hl:=hw.len'
 obtain ⟨m1,m2,m3,⟨t1,t2,t3,t4⟩,m5⟩:=aId hw (eL (pv u.bM)) (inits (pv u.bM)) u.bM.length
 obtain ⟨k1,k2⟩:=aM8 h hw (eL (pv u.bM)) (inits (pv u.bM)) u.bM.length (aJ _)
 have hw2:=(aD5 (u:=u)).2
 have hpv:=zO hw.all
 have hrs:=mL (pv u.bM)
 have sF:=uB hw
 refine ⟨⟨?_,k1⟩,⟨?_,k2⟩,⟨?_,fun t ht=>?_⟩,?_,?_,?_,?_,?_,?_⟩
 ·exact aR m1 (by omega)
 ·exact aR m2 (by omega)
 ·show ((iW u).map (oF u)++[gC]).length≤_
  rw[aD,aW,List.length_singleton];omega
 ·have ht:t∈(iW u).map (oF u)++[gC]:=ht
  rcases aX.1 ht with ht | ht
  ·obtain ⟨w,_,rfl⟩:=List.mem_map.1 ht
   unfold oF
   split <;> exact Nat.zero_le _
  ·rw[aL.1 ht];exact Nat.zero_le _
 ·exact aR t1 (by omega)
 ·show ((img u).dU++[n]).length≤_
  rw[hw2,aD,qD,List.length_singleton];omega
 ·show (_++[(3:Int)]).length≤_
  rw[aD,List.length_singleton]
  exact aR (Nat.add_le_add_right t2 1) (by omega)
 ·exact aR t3 (by omega)
 ·exact aR t4 (by omega)
 ·exact aR m3 (by omega)
section
variable {u:cM} {n:Int}
theorem aIe:dc (gU u n) u.bM.length=gD n:=by unfold dc;rw[Int.toNat_natCast];exact uE
theorem aX0:plc (gV n) [122] 0=0:=rfl
theorem aX1:plc (gV n) [116] 0 = -1:=rfl
theorem aRo:glb (gU u n) u.bM.length [122]=jT (pv u.bM):=by
 unfold glb
 rw[aEX,aIe,aEY,show (gD n).cH=gV n from rfl,aX0,aH ⟨rfl,Int.le_refl _⟩,xO,aEZ fun x hx=>tB _ hx,aGp fun x hx=>(tB _ hx).2,aCc _ (aJ _),List.take_length]
 have:kN (gU u n) u.bM.length [(u.bM.length:Int)]=0:=by
  rw[kN,kN,aF (by omega)]
 rw[this];omega
theorem aJE:glb (gU u n) u.bM.length [116] = -1:=by
 unfold glb
 rw[aIe,show (gD n).cH=gV n from rfl,aX1,aF (fun q=>absurd q.2 (by decide))]
theorem aM9:varsOf (gU u n) (prs u u.bM.length)=pv u.bM:=by
 rw[zP fun x hx=>tB _ hx,aCc _ (aJ _),List.take_length]
theorem aNa:co1 (gU u n) u.bM.length [116] 7 (prs (gU u n) (gU u n).bM.length) 0=((pv u.bM).countP isB:Nat):=by
 rw[aEY,aJD _ _ (fun x hx=>by have:=tB _ hx;omega),aM9,co1,aIe]
 show (match cv1 (u.bM.length:Int) u.bM.length [116] 7 (gV n) (0+((pv u.bM).countP isB:Nat)) with
  | .inl m=>m
  | .inr m=>co1 (gU u n) u.bM.length [116] 7 [] m)=_
 rw[cv1,aF (fun q=>q rfl),aH ⟨rfl,rfl⟩]
 show (0+(((pv u.bM).countP isB:Nat):Int))=_
 omega
end
theorem aX2 (a:Int):∃ v,bV (F15 200000000 a 100)=some v:=⟨_,rfl⟩
theorem aVb {s:Bytes} {a1:Int}:cR (F5 200000000 s a1) (fun v=>v=true):=by
 refine cR.of ?_
 unfold F5
 refine bL.bO (bL.ite (fun e=>?_) (fun e=>?_))
 ·refine bL.call aIf ?_
  rintro _ rfl
  exact tl rfl
 refine bL.call (aVc (by omega)) (fun r3 h3=>?_)
 refine bL.bO (bL.ite (fun e=>?_) (fun e=>?_))
 ·refine bL.call aIf ?_
  rintro _ rfl
  exact tl rfl
 simp only[aO,aB,Int.ofNat_eq_natCast,not_or] at e
 have aAI:r3.2=[]:=List.length_eq_zero_iff.1 (by omega)
 have hlt:r3.1.bM.length<12:=by omega
 obtain ⟨h,hw,hn,hs⟩:=h3 aAI
 generalize r3.1=u at h hw hn hs hlt
 obtain ⟨n,hn6⟩:=aX2 a1
 have aX3:cR (F15 200000000 a1 100) (fun v=>v=n):=⟨n,hn6,rfl⟩
 refine bL.call aX3 (fun v6 hv6=>?_)
 rw[hv6]
 have h':=aX4 (n:=n) hs
 have jN:=aX5 (n:=n) hw hn hlt
 have him:=aU8 h hw
 have hwd:=aD5 (u:=u)
 have hpv:=zO hw.all
 have hrs:=mL (pv u.bM)
 have hil:(img u).dU.length=jT (pv u.bM):=by rw[hwd.2,qD]
 have hgl:(img u).dS.length=jT (pv u.bM):=by rw[hwd.1,lG]
 have hbl:=him.bl
 have hcp:(pv u.bM).countP isB≤(pv u.bM).length:=List.countP_le_length
 have mG:(img u).dQ.length=(iW u).length:=aW _
 have sF:=uB hw
 refine bL.bW (cP (by omega)) (bL.bX (bL.bW (cP (by rw[List.length_singleton];omega)) (bL.bX ?_)))
 refine bL.call (aM7 (by omega) h hw) ?_
 rintro _ rfl
 refine bL.call (aM7 (by omega) h' jN) ?_
 rintro _ rfl
 rw[aVd hw hn]
 refine bL.bW (cP (by rw[hgl];simp;omega)) (bL.bX (bL.bW (cP (by omega)) (bL.bX ?_)))
 refine bL.call aX3 (fun v6 hv6=>?_)
 rw[hv6]
 refine bL.bW (cP (by rw[List.length_singleton];omega)) (bL.bX (bL.bW (cP (by omega)) (bL.bX (bL.bW (cP (by rw[List.length_singleton];omega)) (bL.bX (bL.bW (cP (by omega)) (bL.bX (bL.bW (cP (by rw[List.length_singleton];omega)) (bL.bX ?_)))))))))
 refine bL.cJ (by decide) (show cR (F16 200000000 (grow (img u) n) (grow (img u) n)) (fun v=>v=true) from aVe (by omega) (aRn h hw)) ?_
 rintro _ rfl
 refine bL.cJ (by decide) (aIg (by omega) h' jN) ?_
 rintro _ rfl
 refine bL.aDB (w:=true) ?_ ?_
 ·rw[show (Int.ofNat u.bM.length)=(u.bM.length:Int) from rfl,aRo,aD,List.length_singleton,hil]
  rw[show IntKind.i64.wrap ((Int.ofNat (jT (pv u.bM)+1)) - 1)=jT (pv u.bM) from by rw[show (Int.ofNat (jT (pv u.bM)+1))=((jT (pv u.bM)+1:Nat):Int) from rfl,wr (by omega) (by omega)];omega]
  simp
 refine bL.cJ (by decide) (aU7 (by omega) h' jN) ?_
 rintro _ rfl
 refine bL.aDB (w:=true) ?_ ?_
 ·rw[show (Int.ofNat u.bM.length)=(u.bM.length:Int) from rfl,aEX,aH rfl,aNa,aD,List.length_singleton,hbl]
  rw[show IntKind.i64.wrap ((Int.ofNat ((pv u.bM).countP isB+1)) - 1)=((pv u.bM).countP isB:Nat) from by rw[show (Int.ofNat ((pv u.bM).countP isB+1))=(((pv u.bM).countP isB+1:Nat):Int) from rfl,wr (by omega) (by omega)];omega]
  simp
 refine bL.cJ (by decide) (aET (by omega) jN) ?_
 rintro _ rfl
 refine bL.aDB (w:=true) ?_ ?_
 ·rw[show (⟨(Int.ofNat u.bM.length),(-1)⟩:dR)=gW u from rfl,aNb,aD,List.length_singleton,mG]
  rw[show IntKind.i64.wrap ((Int.ofNat ((iW u).length+1)) - 1)=(iW u).length from by rw[show (Int.ofNat ((iW u).length+1))=(((iW u).length+1:Nat):Int) from rfl,wr (by omega) (by omega)];omega]
  simp
 refine bL.cJ (by decide) (aIg (by omega) h' jN) ?_
 rintro _ rfl
 refine bL.cJ ?_ aIf ?_
 ·rw[show (Int.ofNat u.bM.length)=(u.bM.length:Int) from rfl,aJE];decide
 rintro _ rfl
 refine tl ?_
 rw[show (Int.ofNat u.bM.length)=(u.bM.length:Int) from rfl,aJE];decide
theorem aRp (s:Bytes) (a1:Int):bV (F5 200000000 s a1)=some true:=by
 obtain ⟨v,hv,rfl⟩:=aVb (s:=s) (a1:=a1)
 exact hv
end Go.Proofs.YtdbfbedholdjaaaGreat
