/- No conditions. -/
import Derived.Test.YtidjangjfekfjaaGreatDoorGPa
set_option linter.unusedVariables false
set_option linter.unusedSimpArgs false
set_option linter.unusedSectionVars false
namespace Go.Proofs.YtidjangjfekfjaaGreatDoor.ex
open Go Go.Dl
set_option maxHeartbeats 8000000
set_option maxRecDepth 100000
variable {T:List fS} {e:Int} {i:Nat} {k a:Int} {K:Nat}
abbrev zN:List Bytes:=opsL++[[91],[46]]
abbrev aKw:List Bytes:=pS++(opsL++[[78,79,84],[41],[91],[93],[44],[46]])
theorem kwA:aKw.all kwb=true:=by kernel_rfl
theorem pK {w:Bytes} (h:w∈aKw):Kw w:=kw (aW.1 kwA w h)
def Hd (T:List fS) (i:Nat):Prop:=fY T i=true∧cW T i [[45]]=false∧cW T i [[78,79,84]]=false
theorem aGW {w:Bytes} (h:Tw T i w) (ho:w∈pS):Hd T i:=by
 have hk:Kw w:=pK (bO _ ho)
 have o1:∀ w∈pS,w∈qU∧w ∉ ([[45]]:List Bytes)∧w ∉ ([[78,79,84]]:List Bytes):=by decide
 obtain ⟨o1,o2,o3⟩:=o1 w ho
 refine ⟨?_,by rw[h.cW hk];exact decide_eq_false o2,by rw[h.cW hk];exact decide_eq_false o3⟩
 unfold fY
 rw[h.cW hk,decide_eq_true o1,Bool.or_true]
theorem aKx {w:Bytes} {q n:Int} (h:Tw T i w) (hi:lx.Is q w n) (hq:q=1∨q=3):Hd T i:=by
 refine ⟨?_,h.noL hi hq _,h.noL hi hq _⟩
 unfold fY
 rw[h.eV hi,h.eV hi]
 rcases hq with rfl | rfl <;> simp
theorem aKy {x:dM} (hx:Sx x) (h:At T i (wH x)):Hd T i:=by
 cases hp:np x.b9
 rotate_left
 ·rw[aR0 hp] at h
  exact aGW h.1 (by decide)
 rw[zM hp] at h
 cases hx with
 | num n hn=>rw[aFj] at h;exact aKx h.1 (lM hn) (.inr rfl)
 | lit k hk =>
   rw[aAF hk] at h
   refine aGW h.1 ?_
   rcases hk with rfl | rfl | rfl <;> decide
 | name w hw=>rw[zK] at h;exact aKx h.1 hw (.inl rfl)
 | index w a hw ha=>rw[vT] at h;exact aKx h.1 hw (.inl rfl)
 | sign k a hk ha=>rcases hk with rfl | rfl <;> cases hp
 | bin n a b h1 h2 ha hb=>cases hp
 | of k w hk hw =>
   rw[aGU w hk] at h
   refine aGW h.1 ?_
   rcases hk with rfl | rfl | rfl <;> decide
 | cast w a hw ha=>rw[aGT] at h;exact aGW h.1 (by decide)
 | call w wh ag hw hwh hag hl=>rw[tL] at h;exact aKx h.1 hw (.inl rfl)
 | own n wh ag hn hwh hag hl =>
   rw[aAG wh ag hn] at h
   refine aGW h.1 ?_
   rcases hn with rfl | rfl <;> decide
theorem aNi {x:dM} (hx:Sx x) (h:At T i (pr.gC x)):fY T i=true:=by
 cases hp:np x.b9
 ·exact (aKy hx (by rw[zM hp];exact h)).1
 cases hx with
 | num n hn=>cases hp
 | lit k hk=>rcases hk with rfl | rfl | rfl <;> cases hp
 | name w hw=>cases hp
 | index w a hw ha=>cases hp
 | sign k a hk ha =>
   rw[zL a hk] at h
   have h1:=h.1
   unfold fY
   rcases hk with rfl | rfl
   ·rw[h1.cW (pK (by decide)),bK]
    exact .inr (by decide)
   ·rw[h1.cW (pK (by decide)),bK]
    exact .inr (by decide)
 | bin n a b q1 q2 ha hb =>
   rw[aCz,aH,At.app] at h
   exact (aKy ha h.1).1
 | of k w hk hw=>rcases hk with rfl | rfl | rfl <;> cases hp
 | cast w a hw ha=>cases hp
 | call w wh ag hw hwh hag hl=>cases hp
 | own n wh ag hn hwh hag hl=>cases hp
theorem aWb (s1:fY T i=true):cW T i [[41]]=false:=by
 cases hq:cW T i [[41]]
 ·rfl
 ·exfalso
  unfold fY at s1
  unfold cW at hq s1
  unfold eV at s1
  simp only[aK,bQ,aS,bK,beq_iff_eq] at hq s1
  obtain ⟨⟨q1,q2⟩,q3⟩:=hq
  rw[q3] at s1
  rcases s1 with (⟨_,s1⟩ | ⟨_,s1⟩) | ⟨_,s1⟩
  ·omega
  ·omega
  ·exact absurd s1 (by decide)
def RE (x:dM):Prop:=∀ (T:List fS) (e:Int) (i:Nat) (d:Int) (K:Nat),T.length≤100000→1≤d→d≤7→At T i (pr.gC x)→cW T (i+(pr.gC x).length) zN=false→200+4 * pr.sz x≤K →
 ((nd x:Int)+d≤7→b5 (uN K (P T e i) d)=some (x,P T e (i+(pr.gC x).length)))∧(¬ (nd x:Int)+d≤7→∃ v j a,b5 (uN K (P T e i) d)=some (v,PE T e j 4 a))
def RO (b:Nat) (x:dM):Prop:=∀ (T:List fS) (e:Int) (i:Nat) (d:Int) (K:Nat),T.length≤100000→1≤d→d≤6→At T i (wH x)→cW T (i+(wH x).length) [[91],[46]]=false→b+4 * pr.sz x≤K →
 ((n7 x:Int)+d≤7→b5 (F38 (K+1) (P T e i) d)=some (x,P T e (i+(wH x).length)))∧(¬ (n7 x:Int)+d≤7→∃ v j a,b5 (F38 (K+1) (P T e i) d)=some (v,PE T e j 4 a))
theorem aCC {x:dM} (hx:RE x) (hT:T.length≤100000) (d:Int) (l r:Bytes) (hl:Kw l) (hr:Kw r) (hs:r ∉ zN) (lX:At T i ([l]++pr.gC x++[r])) (hd:1≤d) (rW:d≤6) (hK:200+4 * pr.sz x≤K) :
 ((nd x:Int)+1+d≤7→b5 (F70 (K+1) (P T e i) d l r)=some (x,P T e (i+(pr.gC x).length+2)))∧(¬ (nd x:Int)+1+d≤7→∃ v j a,b5 (F70 (K+1) (P T e i) d l r)=some (v,PE T e j 4 a)):=by
 rw[At.app,At.app,At.one,At.one] at lX
 obtain ⟨⟨h1,h2⟩,h3⟩:=lX
 simp only[aB,aC,aD] at h2 h3
 have g1:cW T i [l]=true:=by rw[h1.cW hl];simp
 rw[s73 hT (by omega) d l r g1,wrap64 (by omega) (by omega)]
 have h3':Tw T (i+1+(pr.gC x).length) r:=by rw[show i+1+(pr.gC x).length=i+(0+1+(pr.gC x).length) by omega];exact h3
 obtain ⟨r1,r2⟩:=hx T e (i+1) (d+1) K hT (by omega) (by omega) h2 (by rw[h3'.cW hr];exact decide_eq_false hs) hK
 refine ⟨fun h=>?_,fun h=>?_⟩
 ·rw[r1 (by omega),aA]
  dsimp only
  rw[aBs hT (by omega) (by rw[h3'.cW hr];simp),aQ,show i+1+(pr.gC x).length+1=i+(pr.gC x).length+2 by omega]
 ·obtain ⟨v,j,a,hv⟩:=r2 (by omega)
  rw[hv,aA]
  dsimp only
  rw[vP (by omega),aQ]
  exact ⟨_,_,_,rfl⟩
theorem aNj (hT:T.length≤100000) (d:Int) (hd:1≤d) (rW:d≤6) (hK:150<K):∀ (r:List dM) (x:dM) (l:List dM) (i q:Nat),(∀ y∈x::r,RE y∧200+4 * pr.sz y≤K)→l.length+r.length+1≤3→r.length+2≤q→At T i (jE (x::r)++[[41]]) →
 ((∀ y∈x::r,(nd y:Int)+1+d≤7)→iter q (mT K d) (P T e i,l,true)=some (.inl (P T e (i+(jE (x::r)).length),l++x::r))) ∧
 (¬ (∀ y∈x::r,(nd y:Int)+1+d≤7)→∃ l' j a,iter q (mT K d) (P T e i,l,true)=some (.inl (PE T e j 4 a,l')))
 | r,x,l,i,q,hR,hl,hq,lX=>by
   obtain ⟨q',rfl⟩:∃ z,q=z+2:=⟨q - 2,by omega⟩
   have hx:=hR x (bR ..)
   have aZb:At T i (pr.gC x)∧At T (i+(pr.gC x).length) ((r.flatMap fun y=>[44]::pr.gC y)++[[41]]):=by
    unfold jE at lX
    rw[aH,At.app] at lX
    exact lX
   obtain ⟨h1,h2⟩:=aZb
   have aWc:∃ w,Tw T (i+(pr.gC x).length) w∧(w=[44]∨w=[41]):=by
    cases r with
    | nil=>exact ⟨_,h2.1,.inr rfl⟩
    | cons y r=>rw[bG] at h2;exact ⟨_,h2.1,.inl rfl⟩
   have hstop:cW T (i+(pr.gC x).length) zN=false:=by
    obtain ⟨w,hw,hw'⟩:=aWc
    rcases hw' with rfl | rfl
    ·rw[hw.cW (pK (by decide))];decide
    ·rw[hw.cW (pK (by decide))];decide
   obtain ⟨r1,r2⟩:=hx.1 T e i (d+1) K hT (by omega) (by omega) h1 hstop hx.2
   have hnf:¬ ((3≤l.length∧d<6)∧fY T i=true):=fun g=>by omega
   by_cases hok:(nd x:Int)+1+d≤7
   ·have f1:=r1 (by omega)
    cases r with
    | nil =>
      have hc:cW T (i+(pr.gC x).length) [[44]]=false:=by
       have:Tw T (i+(pr.gC x).length) [41]:=h2.1
       rw[this.cW (pK (by decide))];decide
      have e1:=pJ (T:=T) (e:=e) (i:=i) (K:=K) (by omega) hnf ⟨hd,by omega⟩ (by omega) f1 (nJ hT (by omega) hc)
      refine ⟨fun _=>?_,fun h=>absurd (fun y hy=>?_) h⟩
      ·unfold iter;rw[e1];dsimp only;unfold iter;rw[vQ]
       simp [jE]
      ·rw[aS.1 hy];exact hok
    | cons y r =>
      rw[bG] at h2
      have h2':Tw T (i+(pr.gC x).length) [44]∧At T (i+(pr.gC x).length+1) (jE (y::r)++[[41]]):=by
       unfold jE
       exact h2
      obtain ⟨c1,c2⟩:=h2'
      have hc:cW T (i+(pr.gC x).length) [[44]]=true:=by rw[c1.cW (pK (by decide))];decide
      have e1:=pJ (T:=T) (e:=e) (i:=i) (K:=K) (by omega) hnf ⟨hd,by omega⟩ (by omega) f1 (sN hT (by omega) hc)
      obtain ⟨z1,z2⟩:=aNj hT d hd rW hK r y (l++[x]) (i+(pr.gC x).length+1) (q'+1) (fun y' hy=>hR y' (aV _ hy)) (by simp at hl ⊢;omega) (by simp at hq ⊢;omega) c2
      have hlen:(jE (x::y::r)).length=(pr.gC x).length+1+(jE (y::r)).length:=by simp [jE];omega
      refine ⟨fun h=>?_,fun h=>?_⟩
      ·have:=z1 fun y' hy=>h y' (aV _ hy)
       unfold iter;rw[e1]
       dsimp only
       rw[this,hlen]
       simp [Nat.add_assoc]
      ·obtain ⟨l',j,a,hz⟩:=z2 fun g=>h fun y' hy=>by
        rcases aT.1 hy with rfl | hy
        ·exact hok
        ·exact g y' hy
       refine ⟨l',j,a,?_⟩
       conv=>lhs;unfold iter
       rw[e1];exact hz
   ·obtain ⟨v,j,a,hv⟩:=r2 (by omega)
    have e1:=pJ (T:=T) (e:=e) (i:=i) (K:=K) (by omega) hnf ⟨hd,by omega⟩ (by omega) hv lS
    refine ⟨fun h=>absurd (h x (bR ..)) hok,fun _=>⟨l++[v],j,a,?_⟩⟩
    unfold iter;rw[e1];dsimp only;unfold iter;rw[vQ]
 termination_by r=>r.length
theorem aCD (hT:T.length≤100000) (d:Int) (hd:1≤d) (rW:d≤6) (hK:150<K) (e0:dM) (hk:e0.b9=13) (wh:Bytes) (ag:List dM) (hwh:Wd wh) (hR:∀ y∈ag,RE y∧200+4 * pr.sz y≤K) (hl:ag.length≤3) (hag:∀ y∈ag,Sx y)
 (lX:At T i ([[46],wh,[40]]++jE ag++[[41]])) :
 ((∀ y∈ag,(nd y:Int)+1+d≤7)→b5 (F72 (K+1) (P T e i) e0 d)=some (⟨13,e0.fN,e0.cA,wh,ag⟩,P T e (i+(jE ag).length+4))) ∧
 (¬ (∀ y∈ag,(nd y:Int)+1+d≤7)→∃ v j a,b5 (F72 (K+1) (P T e i) e0 d)=some (v,PE T e j 4 a)):=by
 rw[aH,aM,aM,aM,aL] at lX
 obtain ⟨h1,h2,h3,h4⟩:=lX
 have g1:cW T i [[46]]=true:=by rw[h1.cW (pK (by decide))];decide
 have g2:eV T (i+1) 1=true:=by rw[h2.eV hwh];rfl
 have g3:cW T (i+1+1) [[40]]=true:=by rw[h3.cW (pK (by decide))];decide
 rw[s75 hT (by omega) e0 d hk g1 g2 g3,h2.text]
 unfold aAD
 cases ag with
 | nil =>
   have g4:cW T (i+1+1+1) [[41]]=true:=by
    have:Tw T (i+1+1+1) [41]:=h4.1
    rw[this.cW (pK (by decide))];decide
   rw[sN hT (by omega) g4,aA]
   simp only[if_true]
   exact ⟨fun _=>by simp [jE,b5],fun h=>absurd (fun y hy=>by cases hy) h⟩
 | cons x r =>
   have aZc:At T (i+1+1+1) (pr.gC x)∧At T (i+1+1+1+(pr.gC x).length) ((r.flatMap fun y=>[44]::pr.gC y)++[[41]]):=by
    unfold jE at h4
    rw[aH,At.app] at h4
    exact h4
   have g4:cW T (i+1+1+1) [[41]]=false:=aWb (aNi (hag x (bR ..)) aZc.1)
   rw[nJ hT (by omega) g4,aA]
   simp only[aE,if_false]
   obtain ⟨z1,z2⟩:=aNj (T:=T) (e:=e) hT d hd rW hK r x [] (i+1+1+1) K hR (by simp at hl ⊢;omega) (by simp at hl;omega) h4
   refine ⟨fun h=>?_,fun h=>?_⟩
   ·rw[z1 h]
    simp only[aQ,cC,cD,aL]
    have h5:Tw T (i+1+1+1+(jE (x::r)).length) [41]:=by
     rw[At.app] at h4
     exact h4.2.1
    rw[aBs hT (by omega) (by rw[h5.cW (pK (by decide))];decide)]
    simp only[aA,dS]
    rw[show i+1+1+1+(jE (x::r)).length+1=i+(jE (x::r)).length+4 by omega]
   ·obtain ⟨l',j,a,hz⟩:=z2 h
    rw[hz]
    simp only[aQ,cC,cD]
    rw[vP (by omega)]
    exact ⟨_,_,_,rfl⟩
end Go.Proofs.YtidjangjfekfjaaGreatDoor.ex

namespace Go.Proofs.YtidjangjfekfjaaGreatDoor.ex
open Go Go.Dl
set_option maxHeartbeats 8000000
set_option maxRecDepth 100000
variable {T:List fS} {e:Int} {i:Nat} {k a:Int} {K:Nat}
theorem yB {k n:Int} {w s:Bytes} {l:List dM} {x:dM} (h:x∈l):pr.sz x+1≤pr.sz ⟨k,n,w,s,l⟩:=by
 rw[pr.oB ⟨k,n,w,s,l⟩]
 have:=pr.zO l x h
 show pr.sz x+1≤1+w.length+s.length+pr.sO l
 omega
theorem rO {w:Bytes} {d:Int} (h:Tw T i w) (hk:Kw w) :
 o40 K T e i d=if w=[84,82,85,69] then some (⟨2,0,[],[],[]⟩,P T e (i+1))
  else if w=[70,65,76,83,69] then some (⟨3,0,[],[],[]⟩,P T e (i+1))
  else if w=[78,85,76,76] then some (⟨4,0,[],[],[]⟩,P T e (i+1))
  else if w=[82,69,70] then (b5 (F68 K (P T e (i+1)))).map fun r=>(⟨10,0,r.1,[],[]⟩,r.2)
  else if w=[68,79,78,69] then (b5 (F68 K (P T e (i+1)))).map fun r=>(⟨11,0,r.1,[],[]⟩,r.2)
  else if w=[67,79,85,78,84] then (b5 (F68 K (P T e (i+1)))).map fun r=>(⟨12,0,r.1,[],[]⟩,r.2)
  else if w=[65,83] then
   if eV T (i+1) 1=true then (b5 (F70 K (P T e (i+1+1)) d [40] [41])).map fun q=>(⟨14,0,(tok T e (i+1)).eG,[],[q.1]⟩,q.2)
   else (b5 (F70 K (PE T e (i+1) 3 (tok T e (i+1)).kQ) d [40] [41])).map fun q=>(⟨14,0,[],[],[q.1]⟩,q.2)
  else if w=[40] then b5 (F70 K (P T e i) d [40] [41])
  else if w=[84,72,73,83]∨w=[83,85,80,69,82] then b5 (F71 K (P T e i) d)
  else some (⟨5,0,(tok T e i).eG,[],[]⟩,PE T e i 3 (tok T e i).kQ):=by
 unfold o40
 rw[h.kwK hk (.inr rfl),aG (by simp)]
 have hL:∀ l:List Bytes,(cW T i l=true)=(w∈l):=fun l=>by rw[h.cW hk];simp
 simp only[hL,aS,aT,List.not_mem_nil,or_false]
 rw[h.kwK hk (.inl rfl)]
 simp only[aE,if_false]
theorem aIU {w:Bytes} {d:Int} (h:Tw T i w) (hw:Wd w) :
 o40 K T e i d=if cW T (i+1) [[91]]=true then (b5 (F70 K (P T e (i+1)) d [91] [93])).map fun q=>(⟨6,0,w,[],[q.1]⟩,q.2)
  else if cW T (i+1) [[46]]=true then b5 (F72 K (P T e (i+1)) ⟨13,0,w,[],[]⟩ d)
  else some (⟨5,0,w,[],[]⟩,P T e (i+1)):=by
 unfold o40
 have hL:∀ l:List Bytes,cW T i l=false:=fun l=>h.noL hw (.inl rfl) l
 rw[h.eV hw,h.eV hw]
 simp only[hL,h.text]
 rfl
theorem aNk {x:dM} (hx:Sx x) (hp:np x.b9=false) (IH:∀ y,pr.sz y<pr.sz x→Sx y→RE y):RO 198 x:=by
 intro T e i d K hT hd rW lX hf hK
 rw[zM hp] at lX hf
 rw[zM hp,aKv hp,s40 hT (by omega)]
 have hend:i+(pr.gC x).length≤i+(pr.gC x).length:=aR _
 cases hx with
 | num n hn =>
   rw[aFj] at lX hf ⊢
   have h:=lX.1
   rw[rN rfl]
   refine ⟨fun _=>?_,fun g=>absurd (by omega) g⟩
   unfold o40
   rw[h.eV (lM hn),aJ (show ((3:Int) == 3)=true from rfl),h.num (lM hn)]
   rfl
 | lit k hk =>
   rw[aAF hk] at lX hf ⊢
   have h:=lX.1
   refine ⟨fun _=>?_,fun g=>absurd ?_ g⟩
   ·rcases hk with rfl | rfl | rfl
    ·rw[rO h (pK (by decide))];rfl
    ·rw[rO h (pK (by decide))];rfl
    ·rw[rO h (pK (by decide))];rfl
   ·rw[rN (by rcases hk with rfl | rfl | rfl <;> rfl)];omega
 | name w hw =>
   rw[zK] at lX hf ⊢
   rw[rN rfl]
   refine ⟨fun _=>?_,fun g=>absurd (by omega) g⟩
   rw[aIU lX.1 hw]
   have f1:cW T (i+1) [[91]]=false:=gV hf (by simp)
   have f2:cW T (i+1) [[46]]=false:=gV hf (by simp)
   rw[f1,f2];rfl
 | sign k a hk ha=>rcases hk with rfl | rfl <;> cases hp
 | bin n a b h1 h2 ha hb=>cases hp
 | of k w hk hw =>
   rw[aGU w hk] at lX hf ⊢
   obtain ⟨h1,h2,h3,h4,_⟩:=lX
   have hb:b5 (F68 K (P T e (i+1)))=some (w,P T e (i+4)):=by
    rw[s71 hT (by omega),h2.cW (pK (by decide)),h3.eV hw,h4.cW (pK (by decide)),h3.text]
    rfl
   refine ⟨fun _=>?_,fun g=>absurd ?_ g⟩
   ·rcases hk with rfl | rfl | rfl
    ·rw[rO h1 (pK (by decide)),hb];rfl
    ·rw[rO h1 (pK (by decide)),hb];rfl
    ·rw[rO h1 (pK (by decide)),hb];rfl
   ·rw[rN (by rcases hk with rfl | rfl | rfl <;> rfl)];omega
 | cast w a hw ha =>
   have hsz:pr.sz a+1≤pr.sz ⟨14,0,w,[],[a]⟩:=yB (aS.2 rfl)
   obtain ⟨q,rfl⟩:∃ z,K=z+1:=⟨K - 1,by omega⟩
   rw[aGT] at lX hf ⊢
   rw[aH] at lX
   obtain ⟨h1,h2,h3⟩:=lX
   obtain ⟨z1,z2⟩:=aCC (e:=e) (IH a (by omega) ha) hT d [40] [41] (pK (by decide)) (pK (by decide)) (by decide) (i:=i+1+1) (by rw[aH];exact h3) hd rW (K:=q) (by omega)
   rw[aFk rfl,rO h1 (pK (by decide)),aG (by decide),aG (by decide),aG (by decide),aG (by decide),aG (by decide),aG (by decide),aJ rfl,h2.eV hw,aJ (show ((1:Int) == 1)=true from rfl),h2.text]
   refine ⟨fun g=>?_,fun g=>?_⟩
   ·rw[z1 (by omega),aQ]
    simp only[aB,aC,aD]
    rw[show i+1+1+(pr.gC a).length+2=i+(0+1+1+1+(pr.gC a).length+(0+1)) by omega]
   ·obtain ⟨v,j,b,hv⟩:=z2 (by omega)
    rw[hv];exact ⟨_,_,_,rfl⟩
 | index w a hw ha =>
   have hsz:pr.sz a+1≤pr.sz ⟨6,0,w,[],[a]⟩:=yB (aS.2 rfl)
   obtain ⟨q,rfl⟩:∃ z,K=z+1:=⟨K - 1,by omega⟩
   rw[vT] at lX hf ⊢
   rw[aH] at lX
   obtain ⟨h1,h2⟩:=lX
   obtain ⟨z1,z2⟩:=aCC (e:=e) (IH a (by omega) ha) hT d [91] [93] (pK (by decide)) (pK (by decide)) (by decide) (i:=i+1) (by rw[aH];exact h2) hd rW (K:=q) (by omega)
   have h3:Tw T (i+1) [91]:=h2.1
   rw[aFk rfl,aIU h1 hw,h3.cW (pK (by decide)),aJ (by decide)]
   refine ⟨fun g=>?_,fun g=>?_⟩
   ·rw[z1 (by omega),aQ]
    simp only[aB,aC,aD]
    rw[show i+1+(pr.gC a).length+2=i+(0+1+1+(pr.gC a).length+(0+1)) by omega]
   ·obtain ⟨v,j,b,hv⟩:=z2 (by omega)
    rw[hv];exact ⟨_,_,_,rfl⟩
 | call w wh ag hw hwh hag hl =>
   have hsz:∀ y∈ag,pr.sz y+1≤pr.sz ⟨13,0,w,wh,ag⟩:=fun y hy=>yB hy
   obtain ⟨q,rfl⟩:∃ z,K=z+1:=⟨K - 1,by omega⟩
   rw[tL] at lX hf ⊢
   rw[aH] at lX
   obtain ⟨h1,h2⟩:=lX
   have h3:Tw T (i+1) [46]:=h2.1
   obtain ⟨z1,z2⟩:=aCD (T:=T) (e:=e) (i:=i+1) hT d hd rW (K:=q) (by omega) ⟨13,0,w,[],[]⟩ rfl wh ag hwh (fun y hy=>⟨IH y (by have:=hsz y hy;omega) (hag y hy),by have:=hsz y hy;omega⟩) hl hag (by rw[aH];exact h2)
   rw[aIU h1 hw,h3.cW (pK (by decide)),h3.cW (pK (by decide)),aG (by decide),aJ (by decide)]
   have hiff:(nd ⟨13,0,w,wh,ag⟩:Int)+d≤7↔∀ y∈ag,(nd y:Int)+1+d≤7:=by
    have:=aFl (n:=0) (w:=w) (s:=wh) (ag:=ag) (m:=(7 - d).toNat)
    constructor
    ·intro g y hy
     have:=(this.1 (by omega)).2 y hy
     omega
    ·intro g
     have:=this.2 ⟨by omega,fun y hy=>by have:=g y hy;omega⟩
     omega
   refine ⟨fun g=>?_,fun g=>?_⟩
   ·rw[z1 (hiff.1 g)]
    simp only[aB,aC,aD]
    rw[show i+1+(jE ag).length+4=i+(0+1+1+1+1+(jE ag).length+(0+1)) by omega]
   ·exact z2 fun g'=>g (hiff.2 g')
 | own n wh ag hn hwh hag hl =>
   have hsz:∀ y∈ag,pr.sz y+1≤pr.sz ⟨13,n,[],wh,ag⟩:=fun y hy=>yB hy
   obtain ⟨q,rfl⟩:∃ z,K=z+2:=⟨K - 2,by omega⟩
   rw[aAG wh ag hn] at lX hf ⊢
   rw[aH] at lX
   obtain ⟨h1,h2⟩:=lX
   obtain ⟨z1,z2⟩:=aCD (T:=T) (e:=e) (i:=i+1) hT d hd rW (K:=q) (by omega) ⟨13,n,[],[],[]⟩ rfl wh ag hwh (fun y hy=>⟨IH y (by have:=hsz y hy;omega) (hag y hy),by have:=hsz y hy;omega⟩) hl hag (by rw[aH];exact h2)
   have ho:o40 (q+2) T e i d=b5 (F72 (q+1) (P T e (i+1)) ⟨13,n,[],[],[]⟩ d):=by
    rcases hn with rfl | rfl
    ·have h1':Tw T i [84,72,73,83]:=h1
     rw[rO h1' (pK (by decide)),aG (by decide),aG (by decide),aG (by decide),aG (by decide),aG (by decide),aG (by decide),aG (by decide),aG (by decide),aJ (by decide)]
     rw[s74 hT (by omega) d (by rw[h1'.cW (pK (by decide))];decide),h1'.cW (pK (by decide))];rfl
    ·have h1':Tw T i [83,85,80,69,82]:=h1
     rw[rO h1' (pK (by decide)),aG (by decide),aG (by decide),aG (by decide),aG (by decide),aG (by decide),aG (by decide),aG (by decide),aG (by decide),aJ (by decide)]
     rw[s74 hT (by omega) d (by rw[h1'.cW (pK (by decide))];decide),h1'.cW (pK (by decide))];rfl
   rw[ho]
   have hiff:(nd ⟨13,n,[],wh,ag⟩:Int)+d≤7↔∀ y∈ag,(nd y:Int)+1+d≤7:=by
    have:=aFl (n:=n) (w:=[]) (s:=wh) (ag:=ag) (m:=(7 - d).toNat)
    constructor
    ·intro g y hy
     have:=(this.1 (by omega)).2 y hy
     omega
    ·intro g
     have:=this.2 ⟨by omega,fun y hy=>by have:=g y hy;omega⟩
     omega
   refine ⟨fun g=>?_,fun g=>?_⟩
   ·rw[z1 (hiff.1 g)]
    simp only[aB,aC,aD]
    rw[show i+1+(jE ag).length+4=i+(0+1+1+1+1+(jE ag).length+(0+1)) by omega]
   ·exact z2 fun g'=>g (hiff.2 g')
theorem aNl {x:dM} (hx:Sx x) (hE:RE x) (IH:∀ y,pr.sz y<pr.sz x→Sx y→RE y):RO 202 x:=by
 cases hp:np x.b9
 ·intro T e i d K hT hd rW lX hf hK
  exact aNk hx hp IH T e i d K hT hd rW lX hf (by omega)
 ·intro T e i d K hT hd rW lX hf hK
  rw[aR0 hp] at lX hf ⊢
  obtain ⟨q,rfl⟩:∃ z,K=z+1:=⟨K - 1,by omega⟩
  have h1:Tw T i [40]:=lX.1
  obtain ⟨z1,z2⟩:=aCC (e:=e) hE hT d [40] [41] (pK (by decide)) (pK (by decide)) (by decide) lX hd rW (K:=q) (by omega)
  rw[aV8 hp,s40 hT (by omega),rO h1 (pK (by decide)),aG (by decide),aG (by decide),aG (by decide),aG (by decide),aG (by decide),aG (by decide),aG (by decide),aJ rfl]
  refine ⟨fun g=>?_,fun g=>z2 (by omega)⟩
  rw[z1 (by omega)]
  simp only[aB,aC,aD]
  rw[show i+(pr.gC x).length+2=i+(0+1+(pr.gC x).length+(0+1)) by omega]
theorem aKz:∀ n:Fin 14,first (fun x=>decide (opsL.getD n.val []∈[x])) opsL=n.val+1∧opsL.getD n.val []∈opsL∧opsL.getD n.val [] ∉ ([[91],[46]]:List Bytes):=by decide +kernel
theorem aEm {n:Nat} (h1:1≤n) (h2:n≤14):pr.named n pr.ops=opsL.getD (n - 1) []:=by
 unfold pr.named
 have hl:pr.ops.length=14:=rfl
 rw[aG (by rw[hl];omega),show ((n:Int) - 1).toNat=n - 1 by omega]
 rfl
theorem aTt {x:dM} (hx:Sx x) (IH:∀ y,pr.sz y<pr.sz x→Sx y→RE y):RE x:=by
 intro T e i d K hT hd hd7 lX hf hK
 obtain ⟨q,rfl⟩:∃ z,K=z+2:=⟨K - 2,by omega⟩
 have hst:=aNi hx lX
 have hnd:=aCy x
 rw[s19 hT (by omega)]
 unfold o19
 by_cases vS:6<d
 ·rw[aJ ⟨vS,hst⟩]
  exact ⟨fun g=>absurd g (by omega),fun _=>⟨_,_,_,rfl⟩⟩
 rw[aG (fun g=>vS g.1)]
 have rW:d≤6:=by omega
 have sgn:∀ (z:Int) (a:dM),z=7∨z=8→Sx a→pr.sz a+1≤pr.sz ⟨z,0,[],[],[a]⟩→pr.sz ⟨z,0,[],[],[a]⟩≤pr.sz x→At T (i+1) (wH a)→cW T (i+1+(wH a).length) zN=false →
  ((n7 a:Int)+d≤7→((b5 (F38 (q+1) (P T e (i+1)) d)).map fun r=>((⟨z,0,[],[],[r.1]⟩:dM),r.2))=some (⟨z,0,[],[],[a]⟩,P T e (i+1+(wH a).length))) ∧
  (¬ (n7 a:Int)+d≤7→∃ v j b,((b5 (F38 (q+1) (P T e (i+1)) d)).map fun r=>((⟨z,0,[],[],[r.1]⟩:dM),r.2))=some (v,PE T e j 4 b)):=by
  intro z a hz ha hsz a1u h1 h2
  obtain ⟨z1,z2⟩:=aNl ha (IH a (by omega) ha) (fun y hy=>IH y (by omega)) T e (i+1) d q hT hd rW h1 (gV h2 (by simp)) (by omega)
  refine ⟨fun g=>by rw[z1 g];rfl,fun g=>?_⟩
  obtain ⟨v,j,b,hv⟩:=z2 g
  rw[hv];exact ⟨_,_,_,rfl⟩
 cases hp:np x.b9
 ·obtain ⟨s1,s2,s3⟩:=aKy hx (by rw[zM hp];exact lX)
  rw[s2,s3,aG (by simp),aG (by simp)]
  obtain ⟨z1,z2⟩:=aNk hx hp IH T e i d q hT hd rW (by rw[zM hp];exact lX) (by rw[zM hp];exact gV hf (by simp)) (by omega)
  rw[zM hp,aKv hp] at z1
  rw[aKv hp] at z2
  refine ⟨fun g=>?_,fun g=>?_⟩
  ·rw[z1 g,aA,aIR hT (by omega)]
   unfold t19
   rw[gV (l:=opsL) hf (fun y hy=>bO _ hy)]
   rfl
  ·obtain ⟨v,j,b,hv⟩:=z2 g
   rw[hv,aA,aKs (by omega)]
   exact ⟨_,_,_,rfl⟩
 cases hx with
 | num n hn=>cases hp
 | lit k hk=>rcases hk with rfl | rfl | rfl <;> cases hp
 | name w hw=>cases hp
 | index w a hw ha=>cases hp
 | sign k a hk ha =>
   have hsz:pr.sz a+1≤pr.sz ⟨k,0,[],[],[a]⟩:=yB (aS.2 rfl)
   rw[zL a hk] at lX hf ⊢
   obtain ⟨h1,h2⟩:=lX
   have hlen:i+([if k=7 then [45] else [78,79,84]]++wH a:List Bytes).length=i+1+(wH a).length:=by simp;omega
   rw[hlen] at hf ⊢
   rw[aKu (by rcases hk with rfl | rfl <;> rfl)]
   rcases hk with rfl | rfl
   ·have h1':Tw T i [45]:=h1
    rw[h1'.cW (pK (by decide)),aJ (by decide)]
    exact sgn 7 a (.inl rfl) ha hsz (aR _) h2 hf
   ·have h1':Tw T i [78,79,84]:=h1
    rw[h1'.cW (pK (by decide)),aG (by decide),h1'.cW (pK (by decide)),aJ (by decide)]
    exact sgn 8 a (.inr rfl) ha hsz (aR _) h2 hf
 | bin n a b q1 q2 ha hb =>
   have hsa:pr.sz a+1≤pr.sz ⟨9,n,[],[],[a,b]⟩:=yB (by simp)
   have hsb:pr.sz b+1≤pr.sz ⟨9,n,[],[],[a,b]⟩:=yB (by simp)
   rw[aCz,aEm q1 q2] at lX hf ⊢
   rw[aH,At.app,aM,aL] at lX
   obtain ⟨h1,h2,h3⟩:=lX
   obtain ⟨o1,o2,o3⟩:=aKz ⟨n - 1,by omega⟩
   dsimp only at o1 o2 o3
   obtain ⟨w,hw⟩:∃ w,w=opsL.getD (n - 1) []:=⟨_,rfl⟩
   rw[← hw] at o1 o2 o3 h2 hf ⊢
   have hkw:Kw w:=pK (List.mem_append_right _ (bO _ o2))
   obtain ⟨s1,s2,s3⟩:=aKy ha h1
   rw[s2,s3,aG (by simp),aG (by simp)]
   obtain ⟨z1,z2⟩:=aNl ha (IH a (by omega) ha) (fun y hy=>IH y (by omega)) T e i d q hT hd rW h1 (by rw[h2.cW hkw];exact decide_eq_false o3) (by omega)
   have hlen:i+(wH a++[w]++wH b:List Bytes).length=i+(wH a).length+1+(wH b).length:=by simp;omega
   rw[hlen] at hf ⊢
   obtain ⟨y1,y2⟩:=aNl hb (IH b (by omega) hb) (fun y hy=>IH y (by omega)) T e (i+(wH a).length+1) d q hT hd rW h3 (gV hf (by simp)) (by omega)
   rw[aNg]
   by_cases ga:(n7 a:Int)+d≤7
   ·have hop:opN T (i+(wH a).length)=n:=by
     unfold opN
     have:(fun x=>cW T (i+(wH a).length) [x])=fun x=>decide (w∈[x]):=funext fun x=>h2.cW hkw [x]
     rw[this,o1];omega
    rw[z1 ga,aA,aIR hT (by omega)]
    unfold t19
    rw[h2.cW hkw,aJ (decide_eq_true o2),hop]
    refine ⟨fun g=>?_,fun g=>?_⟩
    ·rw[y1 (by omega)];rfl
    ·obtain ⟨v,j,c,hv⟩:=y2 (by omega)
     rw[hv];exact ⟨_,_,_,rfl⟩
   ·obtain ⟨v,j,c,hv⟩:=z2 ga
    rw[hv,aA,aKs (by omega)]
    exact ⟨fun g=>absurd g (by omega),fun _=>⟨_,_,_,rfl⟩⟩
 | of k w hk hw=>rcases hk with rfl | rfl | rfl <;> cases hp
 | cast w a hw ha=>cases hp
 | call w wh ag hw hwh hag hl=>cases hp
 | own n wh ag hn hwh hag hl=>cases hp
theorem aNm:∀ (n:Nat) (x:dM),pr.sz x≤n→Sx x→RE x
 | 0,x,h,_=>by
   have:=pr.oB x
   omega
 | n+1,x,h,hx=>aTt hx fun y hy hs=>aNm n y (by omega) hs
end Go.Proofs.YtidjangjfekfjaaGreatDoor.ex
