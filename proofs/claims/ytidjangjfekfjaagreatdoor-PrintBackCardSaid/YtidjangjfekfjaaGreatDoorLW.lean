/- No conditions. -/
import Derived.Test.YtidjangjfekfjaaGreatDoorLa
import Derived.Test.YtidjangjfekfjaaGreatDoorLP
import Derived.Test.YtidjangjfekfjaaGreatDoorLCw
set_option linter.unusedVariables false
set_option linter.unusedSimpArgs false
set_option linter.unusedSectionVars false
namespace Go.Proofs.YtidjangjfekfjaaGreatDoor
open Go Go.Proofs Go.Dl
set_option maxRecDepth 100000
theorem aC7 {p:UInt8→Bool} (h:(List.range 256).all (fun n=>p (UInt8.ofNat n))=true) (c:UInt8):p c=true:=by
 have:=aW.1 h c.toNat (List.mem_range.2 c.toNat_lt)
 simpa using this
theorem kL {α:Type} (l:List α) (d:α) (n:Nat) (h:n<l.length):l.drop n=l.getD n d::l.drop (n+1):=by
 rw[List.drop_eq_getElem_cons h]
 simp [List.getD,aN h]
theorem aEy {A T:Type} {f:T→Option (A ⊕ T)} (μ:T→Nat) (Q:T→A→Prop) (Inv:T→Prop)
 (h:∀ t,Inv t→(∃ t',f t=some (.inr t')∧Inv t'∧μ t'<μ t∧∀ a,Q t' a→Q t a)∨∃ a,f t=some (.inl a)∧Q t a):∀ (K:Nat) (t:T),Inv t→μ t<K→∃ a,iter K f t=some a∧Q t a
 | 0,t,_,hk=>absurd hk (by omega)
 | K+1,t,hi,hk=>by
   unfold iter
   rcases h t hi with ⟨t',h1,h2,h3,h4⟩ | ⟨a,h1,h2⟩
   ·rw[h1]
    simp only
    obtain ⟨a,h5,h6⟩:=aEy μ Q Inv h K t' h2 (by omega)
    exact ⟨a,h5,h4 a h6⟩
   ·rw[h1];exact ⟨a,rfl,h2⟩
theorem aHv {A T:Type} {f:T→Option (A ⊕ T)} {C:Option A→Prop} (μ:T→Nat) (Q:T→A→Prop) (Inv:T→Prop) {K:Nat} {t:T} (hi:Inv t) (hk:μ t<K)
 (h:∀ t,Inv t→(∃ t',f t=some (.inr t')∧Inv t'∧μ t'<μ t∧∀ a,Q t' a→Q t a)∨∃ a,f t=some (.inl a)∧Q t a) (hC:∀ a,Q t a→C (some a)):C (iter K f t):=by
 obtain ⟨a,h1,h2⟩:=aEy μ Q Inv h K t hi hk
 rw[h1];exact hC a h2
theorem aLZ (K:Nat) (b:UInt8):b5 (F91 K b)=some (lx.iJ b):=by
 have:=aC7 (p:=fun b=>decide (b5 (F91 K b)=some (lx.iJ b))) (by kernel_rfl) b
 simpa using this
theorem aHw (K:Nat) (b:UInt8):b5 (F93 K b)=some (lx.isDigit b):=by
 have:=aC7 (p:=fun b=>decide (b5 (F93 K b)=some (lx.isDigit b))) (by kernel_rfl) b
 simpa using this
theorem aOF (K:Nat) (b:UInt8):b5 (aL0 K b)=some (lx.fZ b):=by
 have:=aC7 (p:=fun b=>decide (b5 (aL0 K b)=some (lx.fZ b))) (by kernel_rfl) b
 simpa using this
theorem aFF (K:Nat) (src:Bytes) (a n:Nat) (tk:List fS) (h:a+n≤1000000):b5 (F88 K (⟨src,(a:Int),tk⟩:gI) (n:Int))=some (src.getD (a+n) 0,⟨src,(a:Int),tk⟩):=by
 unfold F88
 have e:IntKind.i64.wrap ((a:Int)+(n:Int))=((a+n:Nat):Int):=by rw[wrap64 (by omega) (by omega)];simp
 simp only[cY]
 rw[e]
 by_cases hh:src.length≤a+n
 ·rw[aJ (by simp;omega)]
  have:src.getD (a+n) 0=0:=by simp [List.getD,aZ hh]
  rw[this]
  rfl
 ·rw[aG (by simp;omega),dZ (vs:=[]) (eW (by omega)),cB]
  rfl
theorem aKL (K:Nat) (src:Bytes) (a:Nat) (tk:List fS) (p:UInt8→Bool) (hp:p 0=false) (g:Nat→UInt8→Option (Bool ⊕ Bool)) (hg:∀ K b,b5 (g K b)=some (p b)) (ha:a≤src.length) (hl:src.length≤500000) (hK:src.length+1<K) :
 iter K (fun (pG:Bytes × Int × (List fS) × Int)=>((b5 (F88 K (⟨pG.1,pG.2.1,pG.2.2.1⟩:gI) pG.2.2.2)).bind (fun lH=>((b5 (g K lH.1)).bind (fun oV=>(if oV=true then (cO (cN (some (.inr ((IntKind.i64.wrap (pG.2.2.2+1)))):Option ((Int ⊕ ((Bytes × Int × (List fS) × Int) ⊕ (Bytes × gI))) ⊕ Int))) (fun (u25:Int)=>(some (.inr (lH.2.dU,lH.2.eR,lH.2.bZ,u25))))) else (some (.inl (Sum.inl (lH.2.dU,lH.2.eR,lH.2.bZ,pG.2.2.2)))))))))) (src,(a:Int),tk,0) =
  some (Sum.inl (src,(a:Int),tk,(((src.drop a).takeWhile p).length:Int))):=by
 have:=aC8 (f:=fun (pG:Bytes × Int × (List fS) × Int)=>((b5 (F88 K (⟨pG.1,pG.2.1,pG.2.2.1⟩:gI) pG.2.2.2)).bind (fun lH=>((b5 (g K lH.1)).bind (fun oV=>(if oV=true then (cO (cN (some (.inr ((IntKind.i64.wrap (pG.2.2.2+1)))):Option ((Int ⊕ ((Bytes × Int × (List fS) × Int) ⊕ (Bytes × gI))) ⊕ Int))) (fun (u25:Int)=>(some (.inr (lH.2.dU,lH.2.eR,lH.2.bZ,u25))))) else (some (.inl (Sum.inl (lH.2.dU,lH.2.eR,lH.2.bZ,pG.2.2.2))))))))))
  (fun t=>src.length+1 - (a+t.2.2.2.toNat)) (fun t=>(Sum.inl (src,(a:Int),tk,(t.2.2.2.toNat:Int)+(((src.drop (a+t.2.2.2.toNat)).takeWhile p).length:Int)):(Bytes × Int × (List fS) × Int) ⊕ (Bytes × gI)))
  (fun t=>t.1=src∧t.2.1=(a:Int)∧t.2.2.1=tk∧0≤t.2.2.2∧a+t.2.2.2.toNat≤src.length) ?_ K (src,(a:Int),tk,0) (by simp;omega) (by simp;omega)
 ·rw[this]
  simp
 ·rintro ⟨s',a',t',i⟩ ⟨g1,g2,g3,g4,g5⟩
  dsimp only at g1 g2 g3 g4 g5
  subst g1;subst g2;subst g3
  obtain ⟨n,rfl⟩:∃ n:Nat,i=(n:Int):=⟨i.toNat,by omega⟩
  simp only[aY] at g5 ⊢
  rw[aFF K s' a n t' (by omega),aA]
  dsimp only
  rw[hg,aA]
  by_cases hn:a+n<s'.length
  ·have hd:=kL s' 0 (a+n) hn
   cases hb:p (s'.getD (a+n) 0) with
   | true =>
     left
     rw[aJ rfl,cH,cD,wrap64 (by omega) (by omega)]
     refine ⟨_,rfl,⟨rfl,rfl,rfl,by dsimp only;omega,by dsimp only;omega⟩,by dsimp only;omega,?_⟩
     dsimp only
     have e1:((n:Int)+1).toNat=n+1:=by omega
     rw[e1,hd,bX,hb,aJ rfl,show a+(n+1)=a+n+1 by omega]
     simp
     omega
   | false =>
     right
     rw[aG (by simp),hd,bX,hb,aG (by simp)]
     simp
  ·right
   have h0:s'.getD (a+n) 0=0:=by simp [List.getD,aZ (show s'.length≤a+n by omega)]
   rw[h0,hp,aG (by simp),List.drop_eq_nil_of_le (by omega)]
   simp
theorem aL2 (K:Nat) (src:Bytes) (a:Nat) (tk:List fS) (ha:a≤src.length) (hl:src.length≤500000) (hK:src.length+1<K) :
 b5 (v7 K (⟨src,(a:Int),tk⟩:gI))=some ((src.drop a).takeWhile lx.fZ,⟨src,(a:Int),tk⟩):=by
 unfold v7
 have h:=aKL K src a tk lx.fZ (by decide) aL0 aOF ha hl hK
 have ht:=(lx.jH (p:=lx.fZ) (src.drop a))
 have hlen:=ht.2
 simp only[List.length_drop] at hlen
 dsimp only
 rw[h]
 show b5 (cO (some (Sum.inr (src,(a:Int),tk,(((src.drop a).takeWhile lx.fZ).length:Int)))) _)=_
 rw[cD]
 dsimp only
 have e:IntKind.i64.wrap ((a:Int)+(((src.drop a).takeWhile lx.fZ).length:Int))=((a+((src.drop a).takeWhile lx.fZ).length:Nat):Int):=by rw[wrap64 (by omega) (by omega)];simp
 rw[e,dZ (vs:=[]) (by simp [jC];omega),cB]
 simp only[cY,b5,aY]
 rw[show a+((src.drop a).takeWhile lx.fZ).length - a=((src.drop a).takeWhile lx.fZ).length by omega,← ht.1]
theorem aL3 (K:Nat) (src:Bytes) (a:Nat) (tk:List fS) (ha:a≤src.length) (hl:src.length≤500000) (hK:src.length+1<K) :
 b5 (zX K (⟨src,(a:Int),tk⟩:gI))=some ((src.drop a).takeWhile lx.isDigit,⟨src,(a:Int),tk⟩):=by
 unfold zX
 have h:=aKL K src a tk lx.isDigit (by decide) F93 aHw ha hl hK
 have ht:=(lx.jH (p:=lx.isDigit) (src.drop a))
 have hlen:=ht.2
 simp only[List.length_drop] at hlen
 dsimp only
 rw[h]
 show b5 (cO (some (Sum.inr (src,(a:Int),tk,(((src.drop a).takeWhile lx.isDigit).length:Int)))) _)=_
 rw[cD]
 dsimp only
 have e:IntKind.i64.wrap ((a:Int)+(((src.drop a).takeWhile lx.isDigit).length:Int))=((a+((src.drop a).takeWhile lx.isDigit).length:Nat):Int):=by rw[wrap64 (by omega) (by omega)];simp
 rw[e,dZ (vs:=[]) (by simp [jC];omega),cB]
 simp only[cY,b5,aY]
 rw[show a+((src.drop a).takeWhile lx.isDigit).length - a=((src.drop a).takeWhile lx.isDigit).length by omega,← ht.1]
end Go.Proofs.YtidjangjfekfjaaGreatDoor

namespace Go.Proofs.YtidjangjfekfjaaGreatDoor
open Go Go.Proofs Go.Dl
set_option maxRecDepth 100000
def oP (src:Bytes) (a:Nat) (tk:List fS) (k:Int) (x:Bytes) (n:Int):mF × gI :=
 if 1500≤tk.length then ([(5,(a:Int))],⟨src,(a:Int),tk⟩) else ([],⟨src,((a+x.length:Nat):Int),tk++[⟨k,x,n,(a:Int)⟩]⟩)
def aBx (src:Bytes) (a:Nat) (tk:List fS):lx.wS→mF × gI
 | .skip n=>([],⟨src,((a+n:Nat):Int),tk⟩)
 | .err c=>([(c,(a:Int))],⟨src,(a:Int),tk⟩)
 | .tok k x n=>oP src a tk k x n
theorem zY (K:Nat) (src:Bytes) (a:Nat) (tk:List fS) (k:Int) (x:Bytes) (n:Int) (ha:a≤1000000) (hx:x.length≤1000000):b5 (F90 K (⟨src,(a:Int),tk⟩:gI) k x n)=some (oP src a tk k x n):=by
 unfold F90 oP
 simp only[cY]
 by_cases h:1500≤tk.length
 ·rw[aJ (by simp;omega),aJ h];rfl
 ·have e:IntKind.i64.wrap ((a:Int)+Int.ofNat x.length)=((a+x.length:Nat):Int):=by rw[wrap64 (by simp;omega) (by simp;omega)];simp
  rw[aG (by simp;omega),aG h,dZ (vs:=[]) (room_le (by simp;omega)),cB,e];rfl
theorem aGJ (K:Nat) (l:List Bytes) (x:Bytes) (hl:l.length≤1000000) (hK:l.length<K):∃ i,b5 (F40 K l x)=some i∧(0≤i↔x∈l):=by
 unfold F40
 simp only[cY]
 refine aHv (C:=fun o=>∃ i,b5 (cO (cN (o.map .inl)) _)=some i∧(0≤i↔x∈l)) (fun t:Int=>l.length - t.toNat)
  (fun t (a:Unit ⊕ Int)=>(∃ i,a = .inr i∧0≤i∧x∈l.drop t.toNat)∨(a = .inl ()∧x ∉ l.drop t.toNat)) (fun t=>0≤t∧t.toNat≤l.length) (by simp) (by simpa using hK) ?_ ?_
 ·rintro i ⟨g1,g2⟩
  obtain ⟨y,hy⟩:∃ y,y=l.getD i.toNat default:=⟨_,rfl⟩
  rw[← hy]
  obtain ⟨n,rfl⟩:∃ n:Nat,i=(n:Int):=⟨i.toNat,by omega⟩
  simp only[aY] at g2 hy ⊢
  by_cases hn:n<l.length
  ·have hd:=kL l default n hn
   rw[aJ (c:=decide _=true) (by simp;omega),dZ (vs:=[]) (eW hn),cB,hd,← hy]
   by_cases hx:x=y
   ·right
    rw[aJ (by simpa using hx)]
    exact ⟨_,rfl,.inl ⟨_,rfl,by omega,by rw[hx];exact bR ..⟩⟩
   ·left
    rw[aG (by simpa using hx)]
    refine ⟨((n+1:Nat):Int),?_,⟨by omega,by simp;omega⟩,by simp;omega,?_⟩
    ·rw[cH,cD,wrap64 (by omega) (by omega)];rfl
    ·intro a ha
     simp only[aY] at ha
     rcases ha with ⟨j,h1,h2,h3⟩ | ⟨h1,h2⟩
     ·exact .inl ⟨j,h1,h2,aV _ h3⟩
     ·exact .inr ⟨h1,fun h=>(aT.1 h).elim hx h2⟩
  ·right
   rw[aG (c:=decide _=true) (by simp;omega),List.drop_eq_nil_of_le (by omega)]
   exact ⟨_,rfl,.inr ⟨rfl,by simp⟩⟩
 ·rintro a (⟨i,rfl,h1,h2⟩ | ⟨rfl,h2⟩)
  ·exact ⟨i,rfl,fun _=>h2,fun _=>h1⟩
  ·exact ⟨-1,rfl,fun h=>absurd h (by decide),fun h=>absurd h h2⟩
theorem aJC:lx.aEv.length<4294967281∧lx.aEv.all (fun b=>decide (b.toNat<128))=true:=⟨of_decide_eq_true (by kernel_rfl),by kernel_rfl⟩
theorem aOG:lx.zP.length≤1000:=by
 have:decide (lx.zP.length≤1000)=true:=by kernel_rfl
 simpa using this
theorem keys_eq (K:Nat):b5 (aOH K)=some lx.zP:=by
 unfold aOH
 have e:b5 (aJx K lx.aEv)=some (Lib.fields lx.aEv):=by
  unfold aJx
  rw[aJ aJC];rfl
 show b5 ((b5 (aJx K lx.aEv)).bind _)=_
 rw[e];rfl
theorem aOI (K:Nat) (x:Bytes) (hK:1001<K):b5 (aOJ K x)=some (lx.isKey x):=by
 unfold aOJ F50
 have hl:=aOG
 rw[keys_eq,aA]
 obtain ⟨i,h1,h2⟩:=aGJ K lx.zP x (by omega) (by omega)
 rw[h1,aA]
 show some (decide (i ≥ 0))=_
 congr 1
 unfold lx.isKey
 rw[Bool.eq_iff_iff,bQ,bQ]
 exact h2
theorem aQW (K:Nat) (src:Bytes) (a:Nat) (tk:List fS) (ha:a≤src.length) (hl:src.length≤500000) (hK:src.length+1001<K) :
 b5 (F92 K (⟨src,(a:Int),tk⟩:gI))=some (aBx src a tk (lx.nD (src.drop a))):=by
 unfold F92 lx.nD
 rw[aL2 K src a tk ha hl (by omega),aA]
 have ht:=(lx.jH (p:=lx.fZ) (src.drop a)).2
 simp only[List.length_drop] at ht
 generalize (src.drop a).takeWhile lx.fZ=s at *
 simp only[cY]
 by_cases h1:s=[82,69,65,76]∨s=[76,82,69,65,76]
 ·rw[aJ (by simpa using h1),aJ h1];rfl
 ·rw[aG (by simpa using h1),aG h1,aOI K s (by omega),aA]
  by_cases h2:lx.isKey s=true
  ·rw[aJ h2,aJ h2,zY K src a tk 2 s 0 (by omega) (by omega)];rfl
  ·rw[aG h2,aG h2]
   by_cases h3:12<s.length
   ·rw[aJ (by simp;omega),aJ h3];rfl
   ·rw[aG (by simp;omega),aG h3,cH,cD,zY K src a tk 1 s 0 (by omega) (by omega)];rfl
theorem aL4 (K:Nat) (src:Bytes) (a:Nat) (tk:List fS) (ha:a≤src.length) (hl:src.length≤500000) (hK:src.length+1001<K) :
 b5 (F94 K (⟨src,(a:Int),tk⟩:gI))=some (aBx src a tk (lx.tJ (src.drop a))):=by
 unfold F94 lx.tJ
 rw[aL3 K src a tk ha hl (by omega),aA]
 have ht:=(lx.jH (p:=lx.isDigit) (src.drop a)).2
 simp only[List.length_drop] at ht
 generalize (src.drop a).takeWhile lx.isDigit=s at *
 have e34:b5 (aLW K s)=some (match Lib.atoiAll s with | .ok n=>(n,false) | .range=>(Lib.atoiSat s,true) | _=>(0,true)):=by
  unfold aLW
  rw[aJ (by omega)];rfl
 dsimp only
 rw[e34,aA]
 simp only[cY]
 cases ha2:Lib.atoiAll s with
 | range=>rfl
 | ok n =>
   dsimp +instances only
   by_cases h:5<s.length∨32768<n
   ·rw[aJ (c:=(_ || _)=true) (by simp;omega),aJ h];rfl
   ·rw[aG (c:=(_ || _)=true) (by simp;omega),aG h,zY K src a tk 3 s n (by omega) (by omega)];rfl
 | _=>rfl
theorem aJD (K:Nat) (src:Bytes) (a:Nat) (tk:List fS) (ha:a+2≤src.length) (hl:src.length≤500000) :
 b5 (F89 K (⟨src,(a:Int),tk⟩:gI))=some (aBx src a tk (lx.aBt (src.drop a))):=by
 unfold F89 lx.aBt
 have e:IntKind.i64.wrap ((a:Int)+2)=((a+2:Nat):Int):=by rw[wrap64 (by omega) (by omega)];simp
 dsimp only
 rw[e,dZ (vs:=[]) (by simp [jC];omega),cB]
 simp only[cY,aY,cE]
 have ed:(src.drop (a+2)).take ((Int.ofNat src.length:Int).toNat - (a+2))=(src.drop a).drop 2:=by
  rw[List.drop_drop,List.take_of_length_le (by simp)]
 rw[ed]
 have e31:b5 (aOw K ((src.drop a).drop 2) ([42,41]:Bytes))=some (Lib.index ((src.drop a).drop 2) [42,41]):=by
  unfold aOw
  rw[aJ (by simp;omega)];rfl
 rw[e31,aA,lx.uA]
 cases hc:lx.yN ((src.drop a).drop 2) with
 | none=>rfl
 | some n =>
   have h1:=lx.aFE _ _ hc
   have h2:=lx.uA.aBR _ _ hc
   simp only[List.length_drop] at h1
   dsimp only
   have e2:IntKind.i64.wrap ((n:Int) - 2+4)=((n+2:Nat):Int):=by rw[wrap64 (by omega) (by omega)];omega
   have e3:IntKind.i64.wrap ((a:Int)+((n+2:Nat):Int))=((a+(n+2):Nat):Int):=by rw[wrap64 (by omega) (by omega)];omega
   rw[aG (by simp;omega),e2,e3]
   rfl
theorem wO (b k:UInt8):((Int.ofNat b.toNat:Int) == Int.ofNat k.toNat)=decide (b=k):=by
 rw[Bool.eq_iff_iff,beq_iff_eq,bQ]
 constructor
 ·intro h;exact UInt8.toNat_inj.1 (Int.ofNat.inj h)
 ·rintro rfl;rfl
theorem aQX (K:Nat) (src:Bytes) (a:Nat) (tk:List fS) (ha:a<src.length) (hl:src.length≤500000) (hK:src.length+1001<K) :
 b5 (F61 K (⟨src,(a:Int),tk⟩:gI))=some (aBx src a tk (lx.step (src.drop a))):=by
 have p0:b5 (F88 K (⟨src,(a:Int),tk⟩:gI) 0)=some (src.getD a 0,⟨src,(a:Int),tk⟩):=aFF K src a 0 tk (by omega)
 have p1:b5 (F88 K (⟨src,(a:Int),tk⟩:gI) 1)=some (src.getD (a+1) 0,⟨src,(a:Int),tk⟩):=aFF K src a 1 tk (by omega)
 have hd:=kL src 0 a ha
 have hst:lx.step (src.drop a)=lx.iR (src.getD a 0) (src.getD (a+1) 0) (src.drop a):=by
  unfold lx.step
  have h1:(src.drop a).headD 0=src.getD a 0:=by rw[hd];rfl
  have h2:(src.drop a).tail.headD 0=src.getD (a+1) 0:=by
   rw[hd,List.tail_cons]
   by_cases h:a+1<src.length
   ·rw[kL src 0 (a+1) h];rfl
   ·rw[List.drop_eq_nil_of_le (by omega)];simp [List.getD,aZ (show src.length≤a+1 by omega)]
  rw[h1,h2]
 have hc2:src.getD (a+1) 0≠0→a+2≤src.length:=by
  intro h
  by_cases hh:a+1<src.length
  ·omega
  ·exact absurd (by simp [List.getD,aZ (show src.length≤a+1 by omega)]) h
 have h2:∀ c,src.getD (a+1) 0=c→c≠0→(src.drop a).take 2=[src.getD a 0,c]:=by
  intro c h h0
  have:=hc2 (by rw[h];exact h0)
  rw[hd,kL src 0 (a+1) (by omega),h];rfl
 rw[hst]
 unfold F61
 rw[p0,aA,p1,aA]
 dsimp +instances only[cY]
 clear p0 p1 hst
 have hlt:=aLZ K (src.getD a 0)
 have hdg:=aHw K (src.getD a 0)
 have hw:=aQW K src a tk (by omega) hl hK
 have hn:=aL4 K src a tk (by omega) hl hK
 have hcm:=fun h=>aJD K src a tk h hl
 generalize src.getD a 0=b at *
 generalize src.getD (a+1) 0=c at *
 have htk:∀ x:Bytes,x.length≤2→b5 (F90 K (⟨src,(a:Int),tk⟩:gI) 4 x 0)=some (oP src a tk 4 x 0):=fun x hx=>zY K src a tk 4 x 0 (by omega) (by omega)
 have e1:IntKind.i64.wrap ((a:Int)+1)=((a+1:Nat):Int):=by rw[wrap64 (by omega) (by omega)];simp
 have e2:IntKind.i64.wrap ((a:Int)+2)=((a+2:Nat):Int):=by rw[wrap64 (by omega) (by omega)];simp
 have hs2:∀ d,c=d→d≠0→(jC src.length (a:Int) (IntKind.i64.wrap ((a:Int)+2))=true) ∧
  ((src.drop (a:Int).toNat).take ((IntKind.i64.wrap ((a:Int)+2)).toNat - (a:Int).toNat)=[b,d]):=by
  intro d hcd hd0
  subst hcd
  have:=hc2 hd0
  refine ⟨by rw[e2];simp [jC];omega,?_⟩
  rw[e2]
  simp only[aY]
  rw[show a+2 - a=2 by omega]
  exact h2 c rfl hd0
 unfold lx.iR
 by_cases h0:b=32∨b=9∨b=10∨b=13
 ·rw[aJ h0,e1]
  rcases h0 with rfl | rfl | rfl | rfl <;> rfl
 rw[aG h0]
 by_cases h40:b=40
 ·rw[aJ h40]
  subst h40
  by_cases hc:c=42
  ·rw[aJ hc]
   subst hc
   rw[hcm (hc2 (by decide))]
   generalize aBx src a tk (lx.aBt (src.drop a))=o
   obtain ⟨o1,o2⟩:=o
   rfl
  ·rw[aG hc]
   have hcc:((Int.ofNat c.toNat:Int) == 42)=false:=(wO c 42).trans (decide_eq_false hc)
   rw[hcc,htk [40] (by simp)]
   show _=some (oP src a tk 4 [40] 0)
   generalize oP src a tk 4 [40] 0=o
   obtain ⟨o1,o2⟩:=o
   rfl
 rw[aG h40]
 have done:∀ x:Bytes,∀ f:(mF × gI)→Option ((mF × gI) ⊕ (mF × gI)),(∀ o,f o=some (.inl o))→b5 (f (oP src a tk 4 x 0))=some (aBx src a tk (.tok 4 x 0)):=by
  intro x f h
  rw[h];rfl
 by_cases h3:b=58∨b=63∨b=62
 ·rw[aJ h3]
  by_cases hc:c=61
  ·rw[aJ hc]
   obtain ⟨q1,q2⟩:=hs2 61 hc (by decide)
   subst hc
   have hx:=htk [b,61] (by simp)
   have hch:∀ {α:Type} (m:Option α),fI [jC src.length (a:Int) (IntKind.i64.wrap ((a:Int)+2))] m=m:=fun m=>by rw[dZ (vs:=[]) q1,cB]
   rw[q2,hx,hch,hch]
   show _=some (oP src a tk 4 [b,61] 0)
   generalize oP src a tk 4 [b,61] 0=o
   obtain ⟨o1,o2⟩:=o
   rcases h3 with rfl | rfl | rfl <;> rfl
  ·rw[aG hc]
   have hcc:((Int.ofNat c.toNat:Int) == 61)=false:=(wO c 61).trans (decide_eq_false hc)
   by_cases h63:b=63
   ·rw[aJ h63]
    subst h63
    rw[hcc];rfl
   ·rw[aG h63,hcc,htk [b] (by simp)]
    show _=some (oP src a tk 4 [b] 0)
    generalize oP src a tk 4 [b] 0=o
    obtain ⟨o1,o2⟩:=o
    rcases h3 with rfl | h3 | rfl
    ·rfl
    ·exact absurd h3 h63
    ·rfl
 rw[aG h3]
 by_cases h60:b=60
 ·rw[aJ h60]
  subst h60
  by_cases hc:c=61∨c=62
  ·rw[aJ hc]
   have hc0:c≠0:=by rcases hc with rfl | rfl <;> decide
   obtain ⟨q1,q2⟩:=hs2 c rfl hc0
   have hx:=htk [60,c] (by simp)
   have hch:∀ {α:Type} (m:Option α),fI [jC src.length (a:Int) (IntKind.i64.wrap ((a:Int)+2))] m=m:=fun m=>by rw[dZ (vs:=[]) q1,cB]
   rw[q2,hx,hch,hch]
   show _=some (oP src a tk 4 [60,c] 0)
   generalize oP src a tk 4 [60,c] 0=o
   obtain ⟨o1,o2⟩:=o
   rcases hc with rfl | rfl <;> rfl
  ·rw[aG hc]
   have hc1:((Int.ofNat c.toNat:Int) == 61)=false:=(wO c 61).trans (decide_eq_false fun h=>hc (.inl h))
   have aZt:((Int.ofNat c.toNat:Int) == 62)=false:=(wO c 62).trans (decide_eq_false fun h=>hc (.inr h))
   rw[hc1,aZt,htk [60] (by simp)]
   show _=some (oP src a tk 4 [60] 0)
   generalize oP src a tk 4 [60] 0=o
   obtain ⟨o1,o2⟩:=o
   rfl
 rw[aG h60]
 by_cases h46:b=46
 ·rw[aJ h46]
  subst h46
  by_cases hc:c=46
  ·rw[aJ hc]
   subst hc
   rw[htk [46,46] (by simp)]
   show _=some (oP src a tk 4 [46,46] 0)
   generalize oP src a tk 4 [46,46] 0=o
   obtain ⟨o1,o2⟩:=o
   rfl
  ·rw[aG hc]
   have hcc:((Int.ofNat c.toNat:Int) == 46)=false:=(wO c 46).trans (decide_eq_false hc)
   rw[hcc,htk [46] (by simp)]
   show _=some (oP src a tk 4 [46] 0)
   generalize oP src a tk 4 [46] 0=o
   obtain ⟨o1,o2⟩:=o
   rfl
 rw[aG h46]
 by_cases hp:b∈lx.mW
 ·rw[aJ hp,htk [b] (by simp)]
  show _=some (oP src a tk 4 [b] 0)
  generalize oP src a tk 4 [b] 0=o
  obtain ⟨o1,o2⟩:=o
  unfold lx.mW at hp
  simp only[aT,List.not_mem_nil,or_false] at hp
  rcases hp with rfl | rfl | rfl | rfl | rfl | rfl | rfl | rfl | rfl | rfl <;> rfl
 rw[aG hp]
 -- no sign
 unfold lx.mW at hp
 simp only[aT,List.not_mem_nil,or_false,not_or] at hp h0 h3
 have no:∀ k:UInt8,b≠k→((Int.ofNat b.toNat:Int) == Int.ofNat k.toNat)=false:=fun k h=>(wO b k).trans (decide_eq_false h)
 have n32:((Int.ofNat b.toNat:Int) == 32)=false:=no 32 h0.1
 have n9:((Int.ofNat b.toNat:Int) == 9)=false:=no 9 h0.2.1
 have n10:((Int.ofNat b.toNat:Int) == 10)=false:=no 10 h0.2.2.1
 have n13:((Int.ofNat b.toNat:Int) == 13)=false:=no 13 h0.2.2.2
 have n40:((Int.ofNat b.toNat:Int) == 40)=false:=no 40 h40
 have n58:((Int.ofNat b.toNat:Int) == 58)=false:=no 58 h3.1
 have n63:((Int.ofNat b.toNat:Int) == 63)=false:=no 63 h3.2.1
 have n62:((Int.ofNat b.toNat:Int) == 62)=false:=no 62 h3.2.2
 have n60:((Int.ofNat b.toNat:Int) == 60)=false:=no 60 h60
 have n46:((Int.ofNat b.toNat:Int) == 46)=false:=no 46 h46
 have n43:((Int.ofNat b.toNat:Int) == 43)=false:=no 43 hp.1
 have n45:((Int.ofNat b.toNat:Int) == 45)=false:=no 45 hp.2.1
 have n42:((Int.ofNat b.toNat:Int) == 42)=false:=no 42 hp.2.2.1
 have n47:((Int.ofNat b.toNat:Int) == 47)=false:=no 47 hp.2.2.2.1
 have n61:((Int.ofNat b.toNat:Int) == 61)=false:=no 61 hp.2.2.2.2.1
 have n41:((Int.ofNat b.toNat:Int) == 41)=false:=no 41 hp.2.2.2.2.2.1
 have n91:((Int.ofNat b.toNat:Int) == 91)=false:=no 91 hp.2.2.2.2.2.2.1
 have n93:((Int.ofNat b.toNat:Int) == 93)=false:=no 93 hp.2.2.2.2.2.2.2.1
 have n44:((Int.ofNat b.toNat:Int) == 44)=false:=no 44 hp.2.2.2.2.2.2.2.2.1
 have n59:((Int.ofNat b.toNat:Int) == 59)=false:=no 59 hp.2.2.2.2.2.2.2.2.2
 rw[n32,n9,n10,n13,n40,n58,n63,n62,n60,n46,n43,n45,n42,n47,n61,n41,n91,n93,n44,n59,hlt,hdg]
 cases lx.iJ b with
 | true =>
   rw[aJ (c:=true=true) rfl,hw]
   show _=some (aBx src a tk (lx.nD (src.drop a)))
   generalize aBx src a tk (lx.nD (src.drop a))=o
   obtain ⟨o1,o2⟩:=o
   rfl
 | false =>
   rw[aG (c:=false=true) (by simp)]
   cases lx.isDigit b with
   | true =>
     rw[aJ (c:=true=true) rfl,hn]
     show _=some (aBx src a tk (lx.tJ (src.drop a)))
     generalize aBx src a tk (lx.tJ (src.drop a))=o
     obtain ⟨o1,o2⟩:=o
     rfl
   | false =>
     rw[aG (c:=false=true) (by simp)]
     rfl
end Go.Proofs.YtidjangjfekfjaaGreatDoor

namespace Go.Proofs.YtidjangjfekfjaaGreatDoor
open Go Go.Proofs Go.Dl
set_option maxRecDepth 100000
theorem all_eq (K:Nat) (s:Bytes) (hl:s.length≤100000) (hK:200000<K):b5 (F33 K s)=some (lx.aLh s):=by
 unfold F33 lx.aLh
 simp only[cY]
 by_cases h0:6000<s.length
 ·rw[aJ (by simp;omega),aJ h0];rfl
 ·rw[aG (by simp;omega),aG h0]
  refine aHv (C:=fun o=>b5 (cO (cN (o.map .inl)) _)=some _) (fun t:Bytes × Int × List fS=>s.length - t.2.1.toNat)
   (fun t (a:(Bytes × Int × List fS) ⊕ ((List fS) × mF))=>match lx.lN (s.drop t.2.1.toNat) t.2.1.toNat t.2.2 with
    | .inl tk=>∃ x y,a = .inl (x,y,tk)
    | .inr (c,b)=>a = .inr ([],[(c,(b:Int))]))
   (fun t=>t.1=s∧0≤t.2.1∧t.2.1.toNat≤s.length) (by simp) (by simp;omega) ?_ ?_
  ·rintro ⟨s',i,tk⟩ ⟨g1,g2,g3⟩
   dsimp +instances only at g1 g2 g3 ⊢
   subst g1
   obtain ⟨n,rfl⟩:∃ n:Nat,i=(n:Int):=⟨i.toNat,by omega⟩
   simp only[aY] at g3 ⊢
   by_cases hn:n<s'.length
   ·rw[aJ (c:=decide _=true) (by simp;omega),aQX K s' n tk hn (by omega) (by omega),aA]
    have hne:s'.drop n≠[]:=by
     intro e
     have:=congrArg List.length e
     simp at this;omega
    have hf:=lx.fits hne
    cases hst:lx.step (s'.drop n) with
    | err c =>
      right
      rw[lx.aHt hne hst]
      refine ⟨_,?_,rfl⟩
      rfl
    | skip k =>
      left
      rw[hst] at hf
      obtain ⟨h1,h2⟩:=hf
      simp only[List.length_drop] at h2
      rw[lx.wJ hne hst]
      refine ⟨(s',((n+k:Nat):Int),tk),rfl,⟨rfl,by dsimp only;omega,by dsimp only;omega⟩,by dsimp only;omega,fun a ha=>?_⟩
      simp only[aY] at ha
      rw[List.drop_drop]
      exact ha
    | tok q x k =>
      rw[hst] at hf
      obtain ⟨h1,_,h3,_⟩:=hf
      simp only[List.length_drop] at h3
      have h4:1≤x.length:=by cases x with | nil=>exact absurd rfl h1 | cons b r=>simp
      rw[lx.aCE hne hst]
      by_cases h15:1500≤tk.length
      ·right
       rw[aJ h15]
       have e:aBx s' n tk (.tok q x k)=([(5,(n:Int))],⟨s',(n:Int),tk⟩):=by
        show oP _ _ _ _ _ _=_
        unfold oP
        rw[aJ h15]
       rw[e]
       exact ⟨_,rfl,rfl⟩
      ·left
       rw[aG h15]
       have e:aBx s' n tk (.tok q x k)=([],⟨s',((n+x.length:Nat):Int),tk++[⟨q,x,k,(n:Int)⟩]⟩):=by
        show oP _ _ _ _ _ _=_
        unfold oP
        rw[aG h15]
       rw[e]
       refine ⟨(s',((n+x.length:Nat):Int),tk++[⟨q,x,k,(n:Int)⟩]),rfl,⟨rfl,by dsimp only;omega,by dsimp only;omega⟩,by dsimp only;omega,fun a ha=>?_⟩
       simp only[aY] at ha
       rw[List.drop_drop]
       exact ha
   ·right
    rw[aG (c:=decide _=true) (by simp;omega),List.drop_eq_nil_of_le (by omega),lx.aC6]
    exact ⟨_,rfl,_,_,rfl⟩
  ·intro a ha
   have ha':match lx.lN s 0 [] with
    | .inl tk=>∃ x y,a = .inl (x,y,tk)
    | .inr (c,b)=>a = .inr ([],[(c,(b:Int))]):=ha
   have aW4:lx.aC5 (s.length+1) s 0 []=lx.lN s 0 []:=rfl
   rw[aW4]
   cases hx:lx.lN s 0 [] with
   | inl tk =>
     rw[hx] at ha'
     obtain ⟨x,y,rfl⟩:=ha'
     rfl
   | inr r =>
     obtain ⟨c,b⟩:=r
     rw[hx] at ha'
     subst ha'
     rfl
end Go.Proofs.YtidjangjfekfjaaGreatDoor

namespace Go.Proofs.YtidjangjfekfjaaGreatDoor
open Go Go.Proofs Go.Dl
theorem aJ6 (K:Nat) (s:Bytes) (hK:200000<K):b5 (F33 K s)=some (lx.aLh s):=by
 by_cases h:s.length≤100000
 ·exact all_eq K s h hK
 ·unfold F33 lx.aLh
  simp only[cY]
  rw[aJ (by simp;omega),aJ (by omega)];rfl
end Go.Proofs.YtidjangjfekfjaaGreatDoor
