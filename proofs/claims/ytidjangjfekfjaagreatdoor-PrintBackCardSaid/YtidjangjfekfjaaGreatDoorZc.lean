/- No conditions. -/
import Derived.Test.YtidjangjfekfjaaGreatDoorZb
import Derived.Test.YtidjangjfekfjaaGreatDoorSa
import Derived.Test.YtidjangjfekfjaaGreatDoorPP
import Derived.Test.YtidjangjfekfjaaGreatDoorLW
import Derived.Test.YtidjangjfekfjaaGreatDoorSb
set_option linter.unusedVariables false
set_option linter.unusedSimpArgs false
set_option linter.unusedSectionVars false
namespace Go.Proofs.YtidjangjfekfjaaGreatDoor.ex
open Pr (yT put)
open Go Go.Dl
set_option maxRecDepth 100000
section
variable {X:Type} [Pr X] {pv:X→List Bytes→Prop} {T:List fS} {e:Int} {K i:Nat} {b:Nat} {k a:Int} {l:List Bytes}
theorem Fo.rT {l:List Bytes} (h:Fo l T i) (h1:[45]∈l) (h3:[3]∈l):rT T i=false:=by
 unfold ex.rT
 rw[h.2.2 h3,gV (l:=[[45]]) h.1 (fun x hx=>by rw[aS.1 hx];exact h1)];rfl
theorem aK0 {n:Int} {l1 r l2:List Bytes} (h1 : -32768≤n) (h2:n≤32768) (hl:∀ x∈l1,x∈([[1],[3]]:List Bytes)∨Kw x) (h45:[45] ∉ l1) (h3:[3] ∉ l1):nh l1 (gT n++r) l2:=by
 unfold gT
 split
 ·exact cl (by decide) h45
 ·exact aH0 (lM (n:=n.toNat) (by omega)) (.inr rfl) hl h3 _ _
theorem aXq:∀ x∈uT,x∈([[1],[3]]:List Bytes)∨Kw x:=by
 intro x hx
 rcases aT.1 hx with rfl | hx
 ·exact .inl (by simp)
 ·exact .inr (aUJ x hx)
theorem Z.aUK {fl:X→List Bytes} {kk:Nat→cV→Bool→Option X} (hK:1000<K) (hb:1000<b) (hA:rT T i=true→Zx T e K i (fun K p=>kk K p true) (fun x t=>pv x t∧∃ n r,t=gT n++r∧-32768≤n∧n≤32768) fl b)
 (hB:rT T i=false→Zx T e K i (fun K p=>kk K p false) (fun x t=>pv x t∧nh [[45],[3]] t (fl x)) fl b):Zx T e K i (fun K p=>(cX true (b5 (zQ K p)) default).bind (kk K p)) pv fl b:=by
 cases h:rT T i
 ·refine Z.step0 (hB h) (by (try dsimp only);rw[cE,aJR (by omega),h];rfl) fun _ t T' e' i' K' g a1 a2 a3 a4=>?_
  try dsimp only
  rw[cE,aJR (by omega),(wA g a2 a3).rT (by simp) (by simp)];rfl
 ·refine Z.step0 (hA h) (by (try dsimp only);rw[cE,aJR (by omega),h];rfl) fun _ t T' e' i' K' g a1 a2 a3 a4=>?_
  obtain ⟨n,r,rfl,h1,h2⟩:=g
  have:rT T' i'=true:=by
   unfold rT
   unfold gT at a2
   split at a2
   ·have hw:Tw T' i' [45]:=a2.1
    rw[hw.cW (gR (by decide))];rfl
   ·have hw:Tw T' i' (Lib.decDigits n.toNat):=a2.1
    rw[hw.eV (lM (by omega)),bK]
    exact .inr rfl
  try dsimp only
  rw[cE,aJR (by omega),this];rfl
def aD4 (K:Nat) (dR:List Int) (p:cV):Option (Int × cV):=(cX true (b5 (zQ K p)) default).bind fun c=>(if c=true then b5 (qV K p (Int.ofNat dR.length) 8) else some p).bind fun p=>(b5 (mC K p)).bind fun q=>some (q.1,q.2)
theorem aXr (dR:List Int):aD4 K dR (PE T e i k a)=some (0,PE T e i k a):=by
 unfold aD4
 rw[cE,aPt,aA]
 simp only[aE,if_false,aA,xJ]
def okN (n:Int):Prop:=-32768≤n∧n≤32768
theorem aPu (n:Int):gT n≠[]:=by unfold gT;split <;> simp
theorem aXt (hs:Ts T) (hT:T.length≤1500) (hK:100000<K) (hb:100001≤b) (dR:List Int):Z T e K i (fun K q=>aD4 K dR q) (fun x t=>okN x.1∧t=gT x.1) [] b:=by
 unfold aD4
 refine Z.aUK (by omega) (by omega) (fun h=>?_) (fun h=>?_)
 ·simp only[if_true]
  refine Z.room (fun j k a=>by rw[xJ];exact Bd.one rfl) fun hr=>?_
  refine Z.int hs hT (by omega) (by omega) (fun v j k a=>Bd.one rfl) fun n j n1 n2 n3 n4=>?_
  exact Z.val n4 fun p=>⟨⟨⟨n1,n2⟩,by rw[aO]⟩,n,[],rfl,n1,n2⟩
 ·simp only[aE,if_false,aA]
  left
  unfold rT at h
  rw[Bool.or_eq_false_iff] at h
  dsimp only
  unfold mC
  rw[nJ (by omega) (by omega) h.1,aA,aG (by simp),aDW (by omega),h.2]
  exact Bd.one rfl
theorem aMg (l:List Int) (n:Int):pr.uQ (l++[n])=pr.uQ l++(pr.tK l.length++gT n):=by
 unfold pr.uQ
 rw[pr.uB]
 show _++((pr.tK (0+l.length)++gT n)++[])=_
 rw[aO,Nat.zero_add]
theorem aRj {l:List Int} (h0:l≠[]) (hl:∀ n∈l,okN n):∃ n r,pr.uQ l=gT n++r∧-32768≤n∧n≤32768:=by
 cases l with
 | nil=>exact absurd rfl h0
 | cons n r=>exact ⟨n,_,rfl,(hl n (by simp)).1,(hl n (by simp)).2⟩
def casT (lb:List (List Int)) (bl:List (List cU)):List Bytes:=pr.lU (fun i l=>pr.uQ l++[[58]]++pr.iK (bl.getD i [])) 0 lb
theorem aDm {X E:Type} {g g':Nat→X→List E}:∀ (l:List X) (n:Nat),(∀ i x,n≤i→i<n+l.length→g i x=g' i x)→pr.lU g n l=pr.lU g' n l
 | [],n,h=>rfl
 | x::r,n,h=>by
   rw[pr.lU,pr.lU,h n x (aR _) (by simp),aDm r (n+1) fun i y h1 h2=>h i y (by omega) (by simp;omega)]
theorem aMh (lb:List (List Int)) (bl:List (List cU)) (l:List Int) (s:List cU) (h:lb.length=bl.length):casT (lb++[l]) (bl++[s])=casT lb bl++(pr.uQ l++([58]::pr.iK s)):=by
 unfold casT
 rw[pr.uB]
 congr 1
 ·refine aDm lb 0 fun i x h1 h2=>?_
  rw[List.getD_eq_getElem?_getD,List.getD_eq_getElem?_getD,List.getElem?_append_left (by omega)]
 ·show (pr.uQ l++[[58]]++pr.iK ((bl++[s]).getD (0+lb.length) []))++[]=_
  rw[Nat.zero_add,h,List.getD_eq_getElem?_getD,List.getElem?_append_right (aR _)]
  simp
theorem aPv (x:dM) (lb:List (List Int)) (bl:List (List cU)) (l:List cU) (h:lb.length=bl.length):pr.z7 (pr.lI [x]) lb (pr.qK (bl++[l]))=[67,65,83,69]::(pr.gC x++([79,70]::(casT lb bl++(aAd l++[[69,78,68,95,67,65,83,69]])))):=by
 unfold pr.z7
 have:pr.lU (fun i l_1=>pr.uQ l_1++[[58]]++pr.qJ (pr.qK (bl++[l])) i) 0 lb=casT lb bl:=by
  unfold casT
  refine aDm lb 0 fun i x h1 h2=>?_
  rw[aK1 bl l i (by omega)]
 rw[this,h,aH1,at1]
 simp
abbrev aAe:List Bytes:=[[48],[69,76,83,69],[69,78,68,95,67,65,83,69]]
abbrev UC:=cV × List (List Int) × List (List cU)
def lpC {U R:Type} (k:U→Option ((UC ⊕ R) ⊕ UC)):U ⊕ (UC ⊕ (UC ⊕ R))→Option ((UC ⊕ R) ⊕ UC)
 | .inl u=>k u
 | .inr (.inl u)=>some (.inr u)
 | .inr (.inr a)=>some (.inl a)
def nM (d:Int) (K:Nat) (u:UC):Option ((UC ⊕ (cU × cV)) ⊕ UC) :=
 (cX true (b5 (zQ K u.1)) default).bind fun r=>if r=true then (b5 (qV K u.1 (Int.ofNat u.2.1.length) 6)).bind fun p=>(iter K (p8 (Y:=UC ⊕ (UC ⊕ (cU × cV))) 8 aD4 K) (p,[],true)).bind (lpC fun v=>(b5 (fV K v.1 [[58]])).bind fun q=>fI [room ((u.2.1.length+[v.2].length) * 24)] ((b5 (rC K q (IntKind.i64.wrap (d+1)) aAe)).bind fun s=>fI [room ((u.2.2.length+[s.1].length) * 24)] (some (.inr (s.2,u.2.1++[v.2],u.2.2++[s.1]))))) else some (.inl (.inl (u.1,u.2.1,u.2.2)))
theorem aZF {U R:Type} (m:Option (U ⊕ (UC ⊕ (UC ⊕ R)))) (k:U→Option ((UC ⊕ (UC ⊕ R)) ⊕ UC)) (k2:UC→Option ((UC ⊕ R) ⊕ UC)) (h2:∀ u,k2 u=some (.inr u)):Dl.cO (Dl.cN (Dl.cO (Dl.cN (m.map (Sum.inl:U ⊕ (UC ⊕ (UC ⊕ R))→(U ⊕ (UC ⊕ (UC ⊕ R))) ⊕ U))) k)) k2=m.bind (lpC fun u=>Dl.cO (Dl.cN (k u)) k2):=by
 cases m with
 | none=>rfl
 | some x =>
   rcases x with u | u | x
   ·rfl
   ·exact h2 u
   ·rfl
theorem aUL (K:Nat) (p:cV) (d:Int):b5 (aHd (K+1) p d)=(b5 (uN K p 1)).bind fun x=>(b5 (fV K x.2 [[79,70]])).bind fun q=>(iter K (nM d K) (q,[],[])).bind (lpF fun u=>(b5 (lY K u.1 d [69,78,68,95,67,65,83,69])).bind fun r=>fI [room ((u.2.2.length+[r.1].length) * 24)] (some (⟨6,0,[],[x.1],u.2.1,u.2.2++[r.1]⟩,r.2))):=by
 rw[aHd]
 simp only[mD,aXw,aH2,dS]
 congr 1
 funext x
 congr 1
 funext q
 congr 2
 funext u
 unfold nM
 congr 1
 funext r
 by_cases hr:r=true
 rotate_left
 ·rw[aG hr,aG hr]
 rw[aJ hr,aJ hr]
 rw[wB,oQ]
 congr 1
 funext p
 rw[aZF _ _ _ (fun u=>rfl)]
 congr 1
 ·congr 1
  funext v
  unfold p8 aD4
  simp only[wB,oQ,wX,qL,aDo,aDp,aAf,aDq,cH,cC,cG,cD,cS,bE,aA]
 ·congr 1
  funext v
  simp only[wB,oQ,wX,qL,aDo,aDp,aAf,aDq,cH,cC,cG,cD,cS,bE,aA]
theorem aFS (d:Int) (uM:List (List Int)) (iQ:List (List cU)):nM d K (PE T e i k a,uM,iQ)=some (.inl (.inl (PE T e i k a,uM,iQ))):=by
 unfold nM
 rw[cE,aPt,aA,aG (by simp)]
theorem aDr (d:Int) (uM:List (List Int)) (iQ:List (List cU)) (hK:100<K) (h:rT T i=false):nM d K (P T e i,uM,iQ)=some (.inl (.inl (P T e i,uM,iQ))):=by
 unfold nM
 rw[cE,aJR hK,h,aA,aG (by simp)]
theorem aUM (hK:100000<K) {Y:Type}:iter K (p8 (Y:=Y) 8 aD4 K) (PE T e i k a,[],true)=some (.inl (PE T e i k a,[])):=by
 obtain ⟨K,rfl⟩:∃ q,K=q+1:=⟨K - 1,by omega⟩
 rw[gA]
 unfold p8
 rw[aMi,aA,Bool.and_false,aG (by simp)]
 rfl
theorem Z.aXx {Y Y1:Type} [Pr Y] [Pr Y1] {kc:Nat→(cV × List Int) ⊕ Y1→Option Y} {pvy:Y→List Bytes→Prop} {l2:List Bytes} {kk:Nat→cV × List Int→Option Y} (hkc:∀ K u,kc K (.inl u)=kk K u) (hkr:∀ y j k' a,yT y=PE T e j k' a→Bd T e (kc K (.inr y))) (hs:Ts T) (hT:T.length≤1500) (hi:i≤T.length) (hK:100001<K) (hb:100002<b)
 (aH3:∀ j k' a dR,Bd T e (kk K (PE T e j k' a,dR)))
 (hA:∀ dR j,dR≠[]→(∀ v∈dR,okN v)→dR.length≤(pr.uQ dR).length→i+(pr.uQ dR).length≤j→j≤T.length→Z T e K j (fun K q=>kk K (q,dR)) (fun y t2=>pvy y (pr.uQ dR++t2)∧nh [[44]] t2 l2) l2 b) :
 Z T e K i (fun K p=>(iter K (p8 (Y:=Y1) 8 aD4 K) (p,[],true)).bind (kc K)) pvy l2 b :=
 Z.aJS (item:=aD4) (lit:=[]) (k:=kk) (w:=8) pr.uQ gT okN hkc hkr (by decide) hK hT hi (by omega) aMg rfl aPu (by simp)
  (fun v r l2 hv=>aK0 hv.1 hv.2 (fun x hx=>.inr (gR ((show ∀ x∈([[44]]:List Bytes),x∈uD by decide) x hx))) (by decide) (by decide)) (fun j k' a dR=>⟨0,aXr dR⟩) aH3 (fun dR j hj=>aXt hs hT (by omega) (by omega) dR) hA
theorem aAg {V Y:Type} {w:Nat} {item:Nat→List V→cV→Option (V × cV)} {u:cV × List V × Bool} {x:(cV × List V) ⊕ Y} {q:Nat} (h:iter q (p8 (Y:=Y) w item K) u=some x):∃ v,x = .inl v:=by
 refine aAh (fun _ _=>True) (fun _ (x:(cV × List V) ⊕ Y)=>∃ v:cV × List V,x = .inl v) (fun n u a _ hf=>?_) (fun _ _ _ _ _=>trivial) (fun _ _ _ _ h=>h) q 0 u x trivial h
 unfold p8 at hf
 obtain ⟨r,_,hf⟩:=bF.1 hf
 split at hf
 ·obtain ⟨v,_,hf⟩:=bF.1 hf
  have hf:=jA hf
  obtain ⟨m,_,hf⟩:=bF.1 hf
  cases hf
 ·obtain rfl:Sum.inl (u.1,u.2.1)=a:=by simpa using hf
  exact ⟨_,rfl⟩
theorem aK2 {d:Int} {u:UC} {y} (h:nM d K u=some y):(∃ p,y = .inl (.inl (p,u.2.1,u.2.2)))∨∃ p l s,y = .inr (p,u.2.1++[l],u.2.2++[s]):=by
 unfold nM at h
 obtain ⟨r,_,h⟩:=bF.1 h
 split at h
 ·obtain ⟨p,_,h⟩:=bF.1 h
  obtain ⟨x,hx,h⟩:=bF.1 h
  obtain ⟨v,rfl⟩:=aAg hx
  obtain ⟨q,_,h⟩:=bF.1 h
  have h:=jA h
  obtain ⟨s,_,h⟩:=bF.1 h
  have h:=jA h
  obtain rfl:=Option.some.inj h
  exact .inr ⟨_,_,_,rfl⟩
 ·obtain rfl:=Option.some.inj h
  exact .inl ⟨_,rfl⟩
def IK (u:UC) (t:List Bytes):Prop:=u.2.1.length=u.2.2.length∧pr.z8 u.2.1∧pr.nF u.2.2∧pr.p7 u.2.1+pr.k8 u.2.2≤20 * t.length∧u.2.1.length≤t.length∧t=casT u.2.1 u.2.2
theorem aJT (l:List (List Int)) (x:List Int):pr.p7 (l++[x])=pr.p7 l+(1+x.length):=by unfold pr.p7;simp
theorem aJU {l:List (List Int)} {x:List Int} (h:pr.z8 l) (hx:∀ n∈x,okN n):pr.z8 (l++[x]):=fun y hy n hn=>by
 rcases bH.1 hy with hy | hy
 ·exact h y hy n hn
 ·rw[aS.1 hy] at hn
  exact aFT (hx n hn).1 (hx n hn).2
theorem aXy (hs:Ts T) (hT:T.length≤1500) (hi:i≤T.length) (hK:100006<K) (h:rT T i=true) (x:dM):Bd T e ((iter K (nM 6 K) (P T e i,[],[])).bind (lpF fun u=>(b5 (lY K u.1 6 [69,78,68,95,67,65,83,69])).bind fun r=>fI [room ((u.2.2.length+[r.1].length) * 24)] (some ((⟨6,0,[],[x],u.2.1,u.2.2++[r.1]⟩:cU),r.2)))):=by
 have key:(∃ j k a l s,nM 6 K (P T e i,[],[])=some (.inr (PE T e j k a,[l],[s])))∨∃ j l s,nM 6 K (P T e i,[],[])=some (.inr (P T e j,[l],[s]))∧cW T j aAe=false∧rT T j=false:=by
  have h0:nM 6 K (P T e i,[],[])=(iter K (p8 (Y:=UC ⊕ (UC ⊕ (cU × cV))) 8 aD4 K) (P T e i,[],true)).bind (lpC fun v=>(b5 (fV K v.1 [[58]])).bind fun q=>fI [room ((([]:List (List Int)).length+[v.2].length) * 24)] ((b5 (rC K q (IntKind.i64.wrap (6+1)) aAe)).bind fun s=>fI [room ((([]:List (List cU)).length+[s.1].length) * 24)] (some (.inr (s.2,[]++[v.2],[]++[s.1]))))):=by
   unfold nM
   have h23:b5 (qV K (P T e i) (Int.ofNat ([]:List (List Int)).length) 6)=some (P T e i):=by
    unfold qV
    rw[aG (by decide)];rfl
   rw[cE,aJR (by omega),h,aA,aJ rfl,h23]
   rfl
  have hl:=Z.aXx (e:=e) (i:=i) (T:=T) (K:=K) (b:=100003) (Y:=(cV × List Int) ⊕ (UC ⊕ (UC ⊕ (cU × cV)))) (Y1:=UC ⊕ (UC ⊕ (cU × cV))) (kc:=fun _ x=>some x) (kk:=fun _ u=>some (.inl u)) (pvy:=fun y t=>True) (l2:=[[44]]) (fun _ _=>rfl) (fun y j k' a h=>Bd.one h) hs hT hi (by omega) (by omega) (fun j k' a dR=>Bd.one rfl) (fun dR j _ _ _ _ hj=>Z.ret (f:=fun q=>(.inl (q,dR):(cV × List Int) ⊕ (UC ⊕ (UC ⊕ (cU × cV))))) hj (fun _=>rfl) (fun _ _=>rfl) fun p=>⟨trivial,fun w h=>h⟩)
  rw[h0]
  have hw:IntKind.i64.wrap (6+1)=7:=by rw[wrap64 (by omega) (by omega)];rfl
  rcases hl with ⟨y,j,k',a,e1,e2⟩ | ⟨y,j,t,e1,e2,⟨c1,c2,c3⟩,_⟩
  ·obtain ⟨z,hz,hzy⟩:=bF.1 e1
   obtain rfl:=Option.some.inj hzy
   obtain ⟨⟨p,dR⟩,rfl⟩:=aAg hz
   obtain rfl:p=PE T e j k' a:=e2
   left
   refine ⟨j,k',a,dR,[],?_⟩
   rw[hz]
   show (b5 (fV K (PE T e j k' a) [[58]])).bind _=_
   rw[jW (by omega),aA,dZ (room_le (by simp)),cB,p9 (by omega) _ _ (by simp),aA,dZ (room_le (by simp)),cB]
   rfl
  ·obtain ⟨z,hz,hzy⟩:=bF.1 e1
   obtain rfl:=Option.some.inj hzy
   obtain ⟨⟨p,dR⟩,rfl⟩:=aAg hz
   obtain rfl:p=P T e j:=e2
   rw[hz]
   have hj:j≤T.length:=c2
   have go:∀ (q q2:cV) (s:List cU),b5 (fV K (P T e j) [[58]])=some q→b5 (rC K q (IntKind.i64.wrap (6+1)) aAe)=some (s,q2)→(some (.inl (P T e j,dR)):Option ((cV × List Int) ⊕ (UC ⊕ (UC ⊕ (cU × cV))))).bind (lpC fun v=>(b5 (fV K v.1 [[58]])).bind fun q=>fI [room ((([]:List (List Int)).length+[v.2].length) * 24)] ((b5 (rC K q (IntKind.i64.wrap (6+1)) aAe)).bind fun s=>fI [room ((([]:List (List cU)).length+[s.1].length) * 24)] (some (.inr (s.2,[]++[v.2],[]++[s.1])))))=some (.inr (q2,[dR],[s])):=by
    intro q q2 s g1 g2
    show (b5 (fV K (P T e j) [[58]])).bind _=_
    rw[g1,aA,dZ (room_le (by simp)),cB,g2,aA,dZ (room_le (by simp)),cB]
    rfl
   cases hc:cW T j [[58]]
   ·left
    exact ⟨_,_,_,_,_,go _ _ _ (aDX (by omega) (by omega) hc) (p9 (by omega) _ _ (by simp))⟩
   ·rcases aPw (T:=T) (e:=e) (i:=j+1) (K:=K) (ends:=aAe) (by omega) (by simp) with ⟨⟨v2,p⟩,j2,k',a,f1,f2⟩ | ⟨f1,f2,f3⟩
    ·obtain rfl:p=PE T e j2 k' a:=f2
     left
     exact ⟨_,_,_,_,_,go _ _ _ (aBs (by omega) (by omega) hc) (by rw[hw];exact f1)⟩
    ·right
     exact ⟨_,_,_,go _ _ _ (aBs (by omega) (by omega) hc) (by rw[hw];exact f1),f2,f3 (by simp)⟩
 rcases key with ⟨j,k',a,l,s,hx⟩ | ⟨j,l,s,hx,hn,hg⟩
 ·obtain ⟨q,hq⟩:∃ q,K=q+2:=⟨K - 2,by omega⟩
  have hit:iter K (nM 6 K) (P T e i,[],[])=some (.inl (PE T e j k' a,[l],[s])):=by
   conv=>lhs;rw[hq,← hq]
   have:∀ q,iter (q+2) (nM 6 K) (P T e i,[],[])=some (.inl (PE T e j k' a,[l],[s])):=fun q=>by rw[gA,hx,aA];dsimp only;rw[gA,aFS];rfl
   have h2:=this q
   rwa [← hq] at h2
  rw[hit]
  show Bd T e ((b5 (lY K (PE T e j k' a) 6 [69,78,68,95,67,65,83,69])).bind _)
  rw[aDs (by omega),aA,dZ (room_le (by simp)),cB]
  exact Bd.one rfl
 ·obtain ⟨q,hq⟩:∃ q,K=q+2:=⟨K - 2,by omega⟩
  have hit:iter K (nM 6 K) (P T e i,[],[])=some (.inl (P T e j,[l],[s])):=by
   have:∀ q,iter (q+2) (nM 6 K) (P T e i,[],[])=some (.inl (P T e j,[l],[s])):=fun q=>by rw[gA,hx,aA];dsimp only;rw[gA,aDr _ _ _ (by omega) hg];rfl
   have h2:=this q
   rwa [← hq] at h2
  rw[hit]
  show Bd T e ((b5 (lY K (P T e j) 6 [69,78,68,95,67,65,83,69])).bind _)
  have aUN:b5 (lY K (P T e j) 6 [69,78,68,95,67,65,83,69])=some ([],PE T e j 3 (tok T e j).kQ):=by
   obtain ⟨q,rfl⟩:∃ q,K=q+1:=⟨K - 1,by omega⟩
   rw[lY]
   simp only[mD,aAU,oQ,qL,cD,dS]
   rw[nJ (by omega) (by omega) (gV hn (by simp)),aA]
   simp only[aE,if_false]
   rw[aDX (by omega) (by omega) (gV hn (by simp))];rfl
  rw[aUN,aA,dZ (room_le (by simp)),cB]
  exact Bd.one rfl
theorem aXz {d:Int} {B:Nat} (hsub:Sub d B) (hd:1≤d) (hs:Ts T) (hT:T.length≤1500) (hi:i≤T.length) (hB:100006<B) (hK:B+1≤K) (hKm:K≤1000000000) (x:dM) (hx:Sx x) (hxs:pr.sz x≤14 * (pr.gC x).length) :
 Z T e K i (fun K q=>(iter K (nM d K) (q,[],[])).bind (lpF fun u=>(b5 (lY K u.1 d [69,78,68,95,67,65,83,69])).bind fun r=>fI [room ((u.2.2.length+[r.1].length) * 24)] (some ((⟨6,0,[],[x],u.2.1,u.2.2++[r.1]⟩:cU),r.2))))
   (fun y t=>okZ y.1 ([67,65,83,69]::(pr.gC x++([79,70]::t)))∧[67,65,83,69]::(pr.gC x++([79,70]::(t++[[59]])))=pr.oG y.1) [] (B+1):=by
 have aH4:=hsub
 have gU:100000<K:=by omega
 -- behind the rounds
 have tail:∀ (uM:List (List Int)) (iQ:List (List cU)) (j:Nat),uM.length=iQ.length→pr.z8 uM→pr.nF iQ→pr.p7 uM+pr.k8 iQ≤20 * (casT uM iQ).length→uM.length≤1500→j≤T.length →
  Z T e K j (fun K q=>(b5 (lY K q d [69,78,68,95,67,65,83,69])).bind fun r=>fI [room ((iQ.length+[r.1].length) * 24)] (some ((⟨6,0,[],[x],uM,iQ++[r.1]⟩:cU),r.2)))
    (fun y t2=>((okZ y.1 ([67,65,83,69]::(pr.gC x++([79,70]::(casT uM iQ++t2))))∧[67,65,83,69]::(pr.gC x++([79,70]::((casT uM iQ++t2)++[[59]])))=pr.oG y.1))∧nh ([45]::[3]::uT) t2 []) [] (B+1):=by
  intro uM iQ j h1 h2 h3 h4 h5 hj
  have hbl:∀ l:List cU,Go.Dl.room ((iQ.length+[l].length) * 24)=true:=fun l=>room_le (by simp;omega)
  refine Z.bv (uW:=fun v t=>(pr.oE v∧pr.kS v≤20 * (aAd v).length)∧t=aAd v++[[69,78,68,95,67,65,83,69]]) (l1:=[]) (aPx (B:=B) (by simp) aH4 hd hs hT hj (by omega) (by omega) (by omega)) (fun v j k a=>by rw[dZ (hbl v),cB];exact Bd.one rfl) (fun v t1 j1 j2 j3 q=>?_) (aR _)
  obtain ⟨⟨q1,q2⟩,rfl⟩:=q
  refine Z.fI (hbl v) ?_
  refine Z.val j3 fun p=>⟨⟨⟨⟨nN i0 (aJV hx) h2 (uE h3 q1),?_⟩,?_⟩,?_⟩,lB _ _⟩
  ·show pr.szS ⟨6,0,[],[x],uM,iQ++[v]⟩≤_
   rw[nO,uF,aFU]
   simp only[aB,aC,aD]
   omega
  ·show _=pr.oG ⟨6,0,[],[x],uM,iQ++[v]⟩
   rw[rU]
   have:pr.gZ 6 0 [] (pr.lI [x]) uM (pr.qK (iQ++[v]))=pr.z7 (pr.lI [x]) uM (pr.qK (iQ++[v])):=rfl
   rw[this,aPv x uM iQ v h1]
   simp
  ·unfold aAd
   split
   ·exact cl (by decide) (by decide)
   ·exact cl (by decide) (by decide)
 rcases hsub with ⟨h5,hP⟩ | rfl
 rotate_left
 ·cases hg:rT T i
  ·refine Z.step0 (Q:=fun _ t=>nh ([45]::[3]::uT) t []) (tail [] [] i rfl mY oS (by rw[mZ,qA];omega) (by simp) hi) ?_ fun _ t T' e' i' K' q a1 a2 a3 a4=>?_
   ·obtain ⟨q,rfl⟩:∃ q,K=q+1:=⟨K - 1,by omega⟩
    show (iter (q+1) _ _).bind _=_
    rw[gA,aDr _ _ _ (by omega) hg];rfl
   ·have hg':=(wA q a2 a3).rT (by simp) (by simp)
    obtain ⟨q,rfl⟩:∃ q,K'=q+1:=⟨K' - 1,by omega⟩
    show (iter (q+1) _ _).bind _=_
    rw[gA,aDr _ _ _ (by omega) hg'];rfl
  ·exact .inl (aXy hs hT hi (by omega) hg x)
 have hit:=Z.itr (T:=T) (e:=e) (i:=i) (l:=[45]::[3]::uT) (b:=B+1) (body:=nM d) (lr:=fun _=>uT) (u0:=fun p=>(p,([]:List (List Int)),([]:List (List cU)))) (fun _ _=>rfl) IK (pvA:=fun x t=>∃ u,x = .inl u∧IK u t) (K:=K) (by omega) hT hi (fun _=>rfl) (fun _ _=>rfl) (fun p=>⟨rfl,mY,oS,by show pr.p7 []+pr.k8 []≤_;rw[mZ,qA];omega,by simp,rfl⟩) ?_ ?_ (by omega)
 ·refine Z.aPs (k:=fun K=>lpF fun u=>(b5 (lY K u.1 d [69,78,68,95,67,65,83,69])).bind fun r=>fI [room ((u.2.2.length+[r.1].length) * 24)] (some ((⟨6,0,[],[x],u.2.1,u.2.2++[r.1]⟩:cU),r.2))) hit (fun x j k' a hg hx=>?_) (fun x t j a1 a2 a3 a4=>?_) (aR _)
  ·have hlen:=aAh (f:=nM d K) (fun n (u:UC)=>u.2.2.length≤n) (fun n (x:UC ⊕ (cU × cV))=>match x with
    | .inl u=>u.2.2.length≤n
    | .inr _=>True) (fun n u a hJ hf=>by
      rcases aK2 hf with ⟨p,h⟩ | ⟨p,l,s,h⟩
      ·obtain rfl:a = .inl (p,u.2.1,u.2.2):=by simpa using h
       exact hJ
      ·cases h) (fun n u u' hJ hf=>by
      rcases aK2 hf with ⟨p,h⟩ | ⟨p,l,s,h⟩
      ·cases h
      ·obtain rfl:u'=(p,u.2.1++[l],u.2.2++[s]):=by simpa using h
       simp;exact hJ) (fun n m a hnm h=>by
      cases a with
      | inl u=>exact bV h hnm
      | inr u=>trivial) K 0 _ x (by simp) hg
   cases x with
   | inl u =>
     obtain ⟨p0,uM,iQ⟩:=u
     obtain rfl:p0=PE T e j k' a:=hx
     have hlen:iQ.length≤0+K:=hlen
     show Bd T e ((b5 (lY K (PE T e j k' a) d [69,78,68,95,67,65,83,69])).bind _)
     rw[aDs (by omega),aA,dZ (room_le (by simp;omega)),cB]
     exact Bd.one rfl
   | inr u=>exact ⟨_,j,k',a,rfl,hx⟩
  ·obtain ⟨⟨⟨p,uM,iQ⟩,rfl,I1,I2,I3,I4,I5,I6⟩,_⟩:=a4
   dsimp only at I1 I2 I3 I4 I5 I6
   subst I6
   exact tail uM iQ j I1 I2 I3 I4 (by omega) a2
 ·intro u j k' a hu
  obtain ⟨p0,uM,iQ⟩:=u
  obtain rfl:p0=PE T e j k' a:=hu
  exact ⟨_,j,k',a,aFS d uM iQ,rfl⟩
 ·intro u t0 j h0 hj hu hI
  obtain ⟨p0,uM,iQ⟩:=u
  have hI':=hI
  obtain ⟨I1,I2,I3,I4,I5,I6⟩:=hI
  dsimp only at I1 I2 I3 I4 I5 I6
  cases hg:rT T j
  ·right
   show Z T e K j (fun K q=>nM d K (q,uM,iQ)) _ _ _
   unfold nM
   refine Z.aUK (by omega) (by omega) (fun h=>by rw[hg] at h;cases h) (fun h=>?_)
   simp only[aE,if_false]
   refine Z.ret (f:=fun q=>(.inl (.inl (q,uM,iQ)):(UC ⊕ (cU × cV)) ⊕ UC)) hj (fun _=>rfl) (fun _ _=>rfl) fun p=>⟨⟨⟨_,rfl,_,rfl,?_⟩,fun w h=>aV _ (aV _ h)⟩,fun w h=>?_⟩
   ·rw[aO];exact hI'
   ·simp only[aT,List.not_mem_nil,or_false] at h
    rcases h with rfl | rfl
    ·exact bR ..
    ·exact aV _ (bR ..)
  ·left
   refine Zx.flw (fl:=fun _=>uT) ?_ fun x t q w hw=>by
    obtain ⟨⟨u',rfl,_⟩,_⟩:=q
    exact hw
   show Z T e K j (fun K q=>nM d K (q,uM,iQ)) _ _ _
   have r1:∀ x:List Int,Go.Dl.room ((uM.length+[x].length) * 24)=true:=fun x=>room_le (by simp;omega)
   have r2:∀ x:List cU,Go.Dl.room ((iQ.length+[x].length) * 24)=true:=fun x=>room_le (by simp;omega)
   have le1:∀ j k a,b5 (rC K (PE T e j k a) (IntKind.i64.wrap (d+1)) aAe)=some ([],PE T e j k a):=fun j k a=>p9 gU _ _ (by simp)
   unfold nM
   refine Z.aUK (by omega) (by omega) (fun h=>?_) (fun h=>by rw[hg] at h;cases h)
   simp only[if_true]
   refine Z.room (fun j k a=>by
    rw[aUM gU]
    show Bd T e ((b5 (fV K (PE T e j k a) [[58]])).bind _)
    rw[jW gU,aA,dZ (r1 _),cB,le1,aA,dZ (r2 _),cB];exact Bd.one rfl) fun hr=>?_
   refine Z.aXx (kc:=fun K=>lpC fun v=>(b5 (fV K v.1 [[58]])).bind fun q=>fI [Go.Dl.room ((uM.length+[v.2].length) * 24)] ((b5 (rC K q (IntKind.i64.wrap (d+1)) aAe)).bind fun s=>fI [Go.Dl.room ((iQ.length+[s.1].length) * 24)] (some (.inr (s.2,uM++[v.2],iQ++[s.1])))))
    (kk:=fun K v=>(b5 (fV K v.1 [[58]])).bind fun q=>fI [Go.Dl.room ((uM.length+[v.2].length) * 24)] ((b5 (rC K q (IntKind.i64.wrap (d+1)) aAe)).bind fun s=>fI [Go.Dl.room ((iQ.length+[s.1].length) * 24)] (some (.inr (s.2,uM++[v.2],iQ++[s.1])))))
    (fun _ _=>rfl) (fun y j k' a h=>by
     rcases y with y | y
     ·exact ⟨_,j,k',a,rfl,h⟩
     ·exact ⟨_,j,k',a,rfl,h⟩) hs hT hj (by omega) (by omega) (fun j k' a dR=>by
     dsimp only
     rw[jW gU,aA,dZ (r1 _),cB,le1,aA,dZ (r2 _),cB];exact Bd.one rfl) fun dR j1 q0 q1 q2 q3 q4=>?_
   dsimp only
   refine Z.want (gR (by decide)) hT (by omega) (by omega) (fun j k a=>by rw[dZ (r1 _),cB,le1,aA,dZ (r2 _),cB];exact Bd.one rfl) fun h3=>?_
   refine Z.fI (r1 dR) ?_
   refine Z.list aH4 hd hs hT (by omega) (by omega) (by omega) (by omega) (by omega) (by simp) (fun v j k a=>by rw[dZ (r2 v),cB];exact Bd.one rfl) (fun st j4 l1 l2 l3 l4=>?_) (fun h=>by omega)
   refine Z.fI (r2 st) ?_
   dsimp only
   refine Z.ret (f:=fun q=>(.inr (q,uM++[dR],iQ++[st]):(UC ⊕ (cU × cV)) ⊕ UC)) l4 (fun _=>rfl) (fun _ _=>rfl) fun p=>?_
   obtain ⟨n,r,hn,n1,n2⟩:=aRj q0 q1
   have hk:t0++(pr.uQ dR++([58]::(pr.iK st++[])))=casT (uM++[dR]) (iQ++[st]):=by rw[aMh uM iQ dR st I1,I6];simp
   refine ⟨⟨⟨⟨⟨_,rfl,⟨by simp [I1],aJU I2 q1,uE I3 l1,?_,?_,hk⟩,by simp⟩,?_⟩,?_⟩,cl (by decide) (by decide)⟩,fun w h=>h⟩
   ·show pr.p7 (uM++[dR])+pr.k8 (iQ++[st])≤_
    rw[aJT,uF]
    simp only[aB,aC,aD]
    omega
   ·simp only[aB,aC,aD];omega
   ·rw[hn,aH];exact aK0 n1 n2 aXq (by decide) (by decide)
   ·exact ⟨n,r++_,by rw[hn,aH],n1,n2⟩
end
end Go.Proofs.YtidjangjfekfjaaGreatDoor.ex

namespace Go.Proofs.YtidjangjfekfjaaGreatDoor.ex
open Go Go.Dl
set_option maxRecDepth 100000
section
variable {T:List fS} {e:Int} {K i:Nat} {b:Nat} {k a:Int} {l:List Bytes}
theorem aRk {d:Int} {B:Nat} (hsub:Sub d B) (hd:1≤d) (hs:Ts T) (hT:T.length≤1500) (hi:i≤T.length) (hB:100006<B) (hK:B+2≤K) (hKm:K≤1000000000):Z T e K i (fun K p=>b5 (aHd K p d)) (fun x t=>okZ x.1 ([67,65,83,69]::t)∧[67,65,83,69]::(t++[[59]])=pr.oG x.1) [] (B+2):=by
 obtain ⟨K,rfl⟩:∃ q,K=q+1:=⟨K - 1,by omega⟩
 have gU:100000<K:=by omega
 refine Z.succ (b:=B+1) (g:=fun K p=>b5 (aHd (K+1) p d)) (fun _ _=>rfl) ?_
 have tail:∀ j k a (x:dM),Bd T e ((iter K (nM d K) (PE T e j k a,[],[])).bind (lpF fun u=>(b5 (lY K u.1 d [69,78,68,95,67,65,83,69])).bind fun r=>fI [room ((u.2.2.length+[r.1].length) * 24)] (some ((⟨6,0,[],[x],u.2.1,u.2.2++[r.1]⟩:cU),r.2)))):=fun j k a x=>by
  have:iter K (nM d K) (PE T e j k a,[],[])=some (.inl (PE T e j k a,[],[])):=by
   have h:∀ q,iter (q+1) (nM d K) (PE T e j k a,[],[])=some (.inl (PE T e j k a,[],[])):=fun q=>by rw[gA,aFS];rfl
   have h2:=h (K - 1)
   rwa [show K - 1+1=K by omega] at h2
  rw[this]
  show Bd T e ((b5 (lY K (PE T e j k a) d [69,78,68,95,67,65,83,69])).bind _)
  rw[aDs (by omega),aA,dZ (room_le (by simp)),cB]
  exact Bd.one rfl
 refine Z.eqv ?_ (fun K p=>aUL K p d)
 refine Z.expr hs hT hi gU (by omega) (fun v j k a=>by rw[jW gU,aA];exact tail j k a v) fun x j1 x1 x2 x3 x4=>?_
 dsimp only
 refine Z.want (gR (by decide)) hT (by omega) (by omega) (fun j k a=>tail j k a x) fun h3=>?_
 refine (aXz hsub hd hs hT (by omega) hB (by omega) (by omega) x x1 x2).mono (fun y t q=>⟨⟨q.1,?_⟩,cl (by decide) (by decide)⟩) (fun w h=>h) (aR _)
 have:=q.2
 simpa using this
theorem aUO (hK:100010<K) (d:Int):Bd T e (b5 (aAL K (PE T e i k a) d)):=by
 obtain ⟨K,rfl⟩:∃ q,K=q+1:=⟨K - 1,by omega⟩
 simp only[aAL,wB,oQ,mD,wX,qL,aAU,cH,cC,cG,cD,cS,dS,eE,cE,aDU,qF,lS,aA,aE,if_false,jW (show 100000<K by omega)]
 exact Bd.one rfl
theorem aXB {d:Int} {B:Nat} (h:Sub d B):d≤6:=by
 rcases h with ⟨h,_⟩ | h
 ·omega
 ·omega
theorem aXC {d:Int} {B:Nat} (hsub:Sub d B) (h1d:1≤d) (hB:100010<B) (T:List fS) (e:Int) (K i:Nat) (hs:Ts T) (hT:T.length≤1500) (hK:B+3≤K) (hKm:K≤1000000000) (aRl:beg T i=true) :
 Z T e K i (fun K p=>b5 (aAL K p d)) (fun x t=>(okZ x.1 t∧hd t)∧t=pr.oG x.1) [] (B+3):=by
 have hi:=aUP aRl
 obtain ⟨K,rfl⟩:∃ q,K=q+1:=⟨K - 1,by omega⟩
 have gU:100000<K:=by omega
 refine Z.succ (b:=B+2) (g:=fun K p=>b5 (aAL (K+1) p d)) (fun _ _=>rfl) ?_
 simp only[aAL,wB,oQ,mD,wX,qL,aAU,cH,cC,cG,cD,cS,dS,eE,bE,aA]
 have hw:∀ {w:Bytes},w∈aFV→∀ r,hd (w::r):=fun h r=>⟨_,r,rfl,.inr h⟩
 refine Z.aK3 (.inl rfl) (fun g1=>?_) (fun g1=>?_)
 ·simp only[if_true]
  refine Z.bv (uW:=fun v t=>(okZ v t∧∃ w r,t=w::r∧Wd w)∧t++[[59]]=pr.oG v) (l1:=zN) (aRm (b:=100004) hs hT (by omega) (by omega) (by omega)) (fun v j k a=>by simp only[jW gU,aA];exact Bd.one rfl) (fun v t1 j j1 j2 q=>?_) (by omega)
  obtain ⟨⟨q1,w,r,rfl,q2⟩,q3⟩:=q
  obtain ⟨vk,vn,vm,ve,vl,vb⟩:=v
  dsimp only
  refine Z.want (gR (by decide)) hT (by omega) (by omega) (fun j k a=>Bd.one rfl) fun h3=>?_
  refine Z.val (by omega) fun p=>⟨⟨⟨⟨⟨q1.1,?_⟩,w,_,rfl,.inl q2⟩,q3⟩,w,_,0,rfl,q2⟩,cl (by decide) (by decide)⟩
  refine bV q1.2 ?_
  simp;omega
 simp only[aE,if_false]
 refine Z.isb (fun w hw=>gR (by revert w;decide)) (by decide) (by omega) (by omega) (fun g2=>?_) (fun g2=>?_)
 ·simp only[if_true]
  refine Z.bv (uW:=fun v t=>(Sx v∧pr.sz v≤14 * t.length∧∃ w r,t=w::r∧w∈([[84,72,73,83],[83,85,80,69,82]]:List Bytes))∧t=pr.gC v) (l1:=[]) (aXD (b:=100003) hs hT (by omega) (by omega) g2) (fun v j k a=>by simp only[jW gU,aA];exact Bd.one rfl) (fun v t1 j j1 j2 q=>?_) (by omega)
  obtain ⟨⟨q1,q2,w,r,hwr,hm⟩,q3⟩:=q
  dsimp only
  refine Z.want (gR (by decide)) hT (by omega) (by omega) (fun j k a=>Bd.one rfl) fun h3=>?_
  have hm2:=(show ∀ w∈([[84,72,73,83],[83,85,80,69,82]]:List Bytes),w∈aFV∧w∈uD∧w ∉ ([kq 1]:List Bytes) by decide) w hm
  refine Z.val (by omega) fun p=>⟨⟨⟨⟨⟨⟨nN i0 (aJV q1) mY oS,?_⟩,w,_,by rw[hwr];rfl,.inr hm2.1⟩,?_⟩,?_⟩,w,_,by rw[hwr];rfl,hm⟩,lB _ _⟩
  ·show pr.szS ⟨4,0,[],[v],[],[]⟩≤_
   rw[nO,aFU,mZ,qA];simp;omega
  ·show _=pr.oG ⟨4,0,[],[v],[],[]⟩
   rw[rU,q3];rfl
  ·rw[hwr];exact cl hm2.2.1 hm2.2.2
 simp only[aE,if_false]
 refine Z.accept (gR (by decide)) hT (by omega) (by omega) (fun g3=>?_) (fun g3=>?_)
 ·simp only[if_true]
  have:=eA g3
  refine Z.bv (uW:=fun v t=>okZ v t∧[73,70]::(t++[[59]])=pr.oG v) (l1:=[]) (aPy (B:=B) hsub h1d hs hT (by omega) (by omega) (by omega) (by omega)) (fun v j k a=>by simp only[jW gU,aA];exact Bd.one rfl) (fun v t1 j j1 j2 q=>?_) (by omega)
  obtain ⟨vk,vn,vm,ve,vl,vb⟩:=v
  dsimp only
  refine Z.want (gR (by decide)) hT (by omega) (by omega) (fun j k a=>Bd.one rfl) fun h3=>?_
  refine Z.val (by omega) fun p=>⟨⟨⟨⟨⟨⟨q.1.1,?_⟩,hw (by decide) _⟩,q.2⟩,cl (by decide) (by decide)⟩,cl (by decide) (by decide)⟩,lB _ _⟩
  refine bV q.1.2 ?_
  simp;omega
 simp only[aE,if_false]
 refine Z.accept (gR (by decide)) hT (by omega) (by omega) (fun g4=>?_) (fun g4=>?_)
 ·simp only[if_true]
  have:=eA g4
  refine Z.bv (uW:=fun v t=>okZ v ([67,65,83,69]::t)∧[67,65,83,69]::(t++[[59]])=pr.oG v) (l1:=[]) (aRk (B:=B) hsub h1d hs hT (by omega) (by omega) (by omega) (by omega)) (fun v j k a=>by simp only[jW gU,aA];exact Bd.one rfl) (fun v t1 j j1 j2 q=>?_) (by omega)
  obtain ⟨vk,vn,vm,ve,vl,vb⟩:=v
  dsimp only
  refine Z.want (gR (by decide)) hT (by omega) (by omega) (fun j k a=>Bd.one rfl) fun h3=>?_
  refine Z.val (by omega) fun p=>⟨⟨⟨⟨⟨⟨⟨q.1.1,?_⟩,hw (by decide) _⟩,q.2⟩,cl (by decide) (by decide)⟩,cl (by decide) (by decide)⟩,cl (by decide) (by decide)⟩,lB _ _⟩
  refine bV q.1.2 ?_
  simp;omega
 simp only[aE,if_false]
 refine Z.accept (gR (by decide)) hT (by omega) (by omega) (fun g5=>?_) (fun g5=>?_)
 ·simp only[if_true]
  have:=eA g5
  have le1:∀ j k a,b5 (rC K (PE T e j k a) (IntKind.i64.wrap (d+1)) [[69,78,68,95,87,72,73,76,69]])=some ([],PE T e j k a):=fun j k a=>p9 gU _ _ (by simp)
  refine Z.expr hs hT (by omega) gU (by omega) (fun v j k a=>by simp only[jW gU,le1,aA];exact Bd.one rfl) fun x j1 x1 x2 x3 x4=>?_
  dsimp only
  refine Z.want (gR (by decide)) hT (by omega) (by omega) (fun j k a=>by simp only[jW gU,le1,aA];exact Bd.one rfl) fun h3=>?_
  refine Z.list hsub h1d hs hT (by omega) (by omega) (by omega) (by omega) (by omega) (by simp) (fun v j k a=>by simp only[jW gU,aA];exact Bd.one rfl) (fun dR j4 l1 l2 l3 l4=>?_) (fun _ h _=>by
   dsimp only
   rw[aDX (by omega) (by omega) h,aA,jW gU];exact Bd.one rfl)
  dsimp only
  refine Z.want (gR (by decide)) hT (by omega) (by omega) (fun j k a=>by simp only[jW gU,aA];exact Bd.one rfl) fun h6=>?_
  refine Z.want (gR (by decide)) hT (by omega) (by omega) (fun j k a=>Bd.one rfl) fun h7=>?_
  refine Z.val (by omega) fun p=>⟨⟨⟨⟨⟨⟨⟨⟨⟨nN i0 (aJV x1) mY (aJW l1),?_⟩,hw (by decide) _⟩,?_⟩,cl (by decide) (by decide)⟩,cl (by decide) (by decide)⟩,cl (by decide) (by decide)⟩,cl (by decide) (by decide)⟩,cl (by decide) (by decide)⟩,cl (by decide) (by decide)⟩
  ·show pr.szS ⟨7,0,[],[x],[],[dR]⟩≤_
   rw[nO,aFU,mZ,aJX];simp;omega
  ·show _=pr.oG ⟨7,0,[],[x],[],[dR]⟩
   rw[rU]
   have:pr.gZ 7 0 [] (pr.lI [x]) [] (pr.qK [dR])=[[87,72,73,76,69]]++pr.tA (pr.lI [x]) 0++[[68,79]]++pr.qJ (pr.qK [dR]) 0++[[69,78,68,95,87,72,73,76,69]]:=rfl
   rw[this,at1,aXE];simp
 simp only[aE,if_false]
 refine Z.accept (gR (by decide)) hT (by omega) (by omega) (fun g6=>?_) (fun g6=>?_)
 ·simp only[if_true]
  have:=eA g6
  refine Z.bv (uW:=fun v t=>okZ v t∧[70,79,82]::(t++[[59]])=pr.oG v) (l1:=[]) (aUQ (B:=B) hsub h1d hs hT (by omega) (by omega) (by omega)) (fun v j k a=>by simp only[jW gU,aA];exact Bd.one rfl) (fun v t1 j j1 j2 q=>?_) (by omega)
  obtain ⟨vk,vn,vm,ve,vl,vb⟩:=v
  dsimp only
  refine Z.want (gR (by decide)) hT (by omega) (by omega) (fun j k a=>Bd.one rfl) fun h3=>?_
  refine Z.val (by omega) fun p=>⟨⟨⟨⟨⟨⟨⟨⟨⟨q.1.1,?_⟩,hw (by decide) _⟩,q.2⟩,cl (by decide) (by decide)⟩,cl (by decide) (by decide)⟩,cl (by decide) (by decide)⟩,cl (by decide) (by decide)⟩,cl (by decide) (by decide)⟩,lB _ _⟩
  refine bV q.1.2 ?_
  simp;omega
 simp only[aE,if_false]
 refine Z.accept (gR (by decide)) hT (by omega) (by omega) (fun g7=>?_) (fun g7=>?_)
 ·simp only[if_true]
  have:=eA g7
  refine Z.isb (fun w hw=>gR (by revert w;decide)) (by decide) (by omega) (by omega) (fun h4=>?_) (fun h4=>?_)
  ·simp only[bN,aE,if_false]
   refine Z.want (gR (by decide)) hT (by omega) (by omega) (fun j k a=>Bd.one rfl) fun h3=>?_
   refine Z.val (by omega) fun p=>⟨⟨⟨⟨⟨⟨⟨⟨⟨⟨nN i0 (by rw[pr.yS];trivial) mY oS,?_⟩,hw (by decide) _⟩,rfl⟩,cl (by decide) (by decide)⟩,cl (by decide) (by decide)⟩,cl (by decide) (by decide)⟩,cl (by decide) (by decide)⟩,cl (by decide) (by decide)⟩,cl (by decide) (by decide)⟩,_,_,rfl,by simp⟩
   show pr.szS ⟨9,0,[],[],[],[]⟩≤_
   rw[nO,mZ,qA,pr.sO];simp
  ·simp only[bA,if_true]
   refine Z.expr hs hT (by omega) gU (by omega) (fun v j k a=>by simp only[jW gU,aA];exact Bd.one rfl) fun x j1 x1 x2 x3 x4=>?_
   dsimp only
   refine Z.want (gR (by decide)) hT (by omega) (by omega) (fun j k a=>Bd.one rfl) fun h3=>?_
   refine Z.val (by omega) fun p=>⟨⟨⟨⟨⟨⟨⟨⟨⟨⟨⟨nN i0 (aJV x1) mY oS,?_⟩,hw (by decide) _⟩,rfl⟩,cl (by decide) (by decide)⟩,cl (by decide) (by decide)⟩,cl (by decide) (by decide)⟩,cl (by decide) (by decide)⟩,cl (by decide) (by decide)⟩,cl (by decide) (by decide)⟩,aRn x1 (fun v hv=>⟨gR ((show ∀ x∈([[59]]:List Bytes),x∈uD by decide) v hv),(show ∀ x∈([[59]]:List Bytes),x ∉ qU by decide) v hv⟩) _ _⟩,cl (by decide) (by decide)⟩
   show pr.szS ⟨9,0,[],[x],[],[]⟩≤_
   rw[nO,aFU,mZ,qA];simp;omega
 simp only[aE,if_false]
 refine Z.accept (gR (by decide)) hT (by omega) (by omega) (fun g8=>?_) (fun g8=>?_)
 ·simp only[if_true]
  have:=eA g8
  refine Z.want (gR (by decide)) hT (by omega) (by omega) (fun j k a=>Bd.one rfl) fun h3=>?_
  refine Z.val (by omega) fun p=>⟨⟨⟨⟨⟨⟨⟨⟨⟨⟨nN i0 (by rw[pr.yS];trivial) mY oS,?_⟩,hw (by decide) _⟩,rfl⟩,cl (by decide) (by decide)⟩,cl (by decide) (by decide)⟩,cl (by decide) (by decide)⟩,cl (by decide) (by decide)⟩,cl (by decide) (by decide)⟩,cl (by decide) (by decide)⟩,cl (by decide) (by decide)⟩
  show pr.szS ⟨10,0,[],[],[],[]⟩≤_
  rw[nO,mZ,qA,pr.sO];simp
 simp only[aE,if_false]
 refine Z.accept (gR (by decide)) hT (by omega) (by omega) (fun g9=>?_) (fun g9=>?_)
 ·simp only[if_true]
  have:=eA g9
  refine Z.name hs hT (fun v j k a=>by simp only[jW gU,aD5 gU,aA];exact Bd.one rfl) fun nm hnm h1 hk=>?_
  have hnl:=aJY hnm
  dsimp only
  refine Z.want (gR (by decide)) hT (by omega) (by omega) (fun j k a=>by simp only[jW gU,aD5 gU,aA];exact Bd.one rfl) fun h2=>?_
  refine Z.expr hs hT (by omega) gU (by omega) (fun v j k a=>by simp only[jW gU,aD5 gU,aA];exact Bd.one rfl) fun x j1 x1 x2 x3 x4=>?_
  dsimp only
  refine Z.want (gR (by decide)) hT (by omega) (by omega) (fun j k a=>by simp only[jW gU,aD5 gU,aA];exact Bd.one rfl) fun h3=>?_
  refine Z.expr hs hT (by omega) gU (by omega) (fun v j k a=>by simp only[jW gU,aA];exact Bd.one rfl) fun y j2 y1 y2 y3 y4=>?_
  dsimp only
  refine Z.want (gR (by decide)) hT (by omega) (by omega) (fun j k a=>by simp only[jW gU,aA];exact Bd.one rfl) fun h4=>?_
  refine Z.want (gR (by decide)) hT (by omega) (by omega) (fun j k a=>Bd.one rfl) fun h5=>?_
  refine Z.val (by omega) fun p=>⟨⟨⟨⟨⟨⟨⟨⟨⟨⟨⟨⟨⟨nN i0 (aUR x1 y1) mY oS,?_⟩,hw (by decide) _⟩,?_⟩,cl (by decide) (by decide)⟩,cl (by decide) (by decide)⟩,cl (by decide) (by decide)⟩,cl (by decide) (by decide)⟩,cl (by decide) (by decide)⟩,cl (by decide) (by decide)⟩,cl (by decide) (by decide)⟩,cl (by decide) (by decide)⟩,cl (by decide) (by decide)⟩,cl (by decide) (by decide)⟩
  ·show pr.szS ⟨11,0,nm,[x,y],[],[]⟩≤_
   rw[nO,aUS,mZ,qA];simp;omega
  ·show _=pr.oG ⟨11,0,nm,[x,y],[],[]⟩
   rw[rU]
   have:pr.gZ 11 0 nm (pr.lI [x,y]) [] (pr.qK [])=[[83,84,69,80],nm,[40]]++pr.tA (pr.lI [x,y]) 0++[[44]]++pr.tA (pr.lI [x,y]) 1++[[41]]:=rfl
   rw[this,aUT,aUU];simp
 exfalso
 have:beg T i=false:=by
  unfold beg
  rw[kA] at g2
  rw[Bool.or_eq_false_iff] at g2
  rw[g1,kA,g2.1,kA,g2.2,kA,g3,kA,g4,kA,g5,kA,g6,kA,g7,kA,g8,g9]
  rfl
 rw[aRl] at this
 cases this
end
end Go.Proofs.YtidjangjfekfjaaGreatDoor.ex

namespace Go.Proofs.YtidjangjfekfjaaGreatDoor.ex
open Go Go.Dl
set_option maxRecDepth 100000
theorem wQ {d:Int} {B:Nat} (hsub:Sub d B) (hd:1≤d) (hB:100010<B):LP d (B+4) :=
 aXF (by omega) (aXB hsub) (B:=B+3) (fun T e K i hs hT hK hKm aRl=>aXC hsub hd hB T e K i hs hT hK hKm aRl) (fun T e K i k a d hK=>aUO (by omega) d)
theorem aZI:LP 1 100050:=by
 have h6:LP 6 100024:=wQ (B:=100020) (.inr rfl) (by decide) (by decide)
 have h5:LP 5 100028:=wQ (B:=100024) (.inl ⟨by decide,h6⟩) (by decide) (by decide)
 have h4:LP 4 100032:=wQ (B:=100028) (.inl ⟨by decide,h5⟩) (by decide) (by decide)
 have h3:LP 3 100036:=wQ (B:=100032) (.inl ⟨by decide,h4⟩) (by decide) (by decide)
 have h2:LP 2 100040:=wQ (B:=100036) (.inl ⟨by decide,h3⟩) (by decide) (by decide)
 have h1:LP 1 100044:=wQ (B:=100040) (.inl ⟨by decide,h2⟩) (by decide) (by decide)
 intro T e K i ends hs hT hi hK hKm hl
 exact (h1 T e K i ends hs hT hi (by omega) hKm hl).mono (fun x t h=>h) (fun w h=>h) (by omega)
section
variable {X:Type} [Pr X] {pv:X→List Bytes→Prop} {fl:X→List Bytes} {T:List fS} {e:Int} {K i:Nat} {b:Nat} {k a:Int} {l:List Bytes}
theorem Z.body {ends:List Bytes} {kk:Nat→List cU × cV→Option X} (hs:Ts T) (hT:T.length≤1500) (hi:i≤T.length) (hK:100050≤K) (hKm:K≤1000000000) (hb:100050≤b) (hl:ends.length≤100) (j0:∀ v j k' a,Bd T e (kk K (v,PE T e j k' a)))
 (hA:∀ dR j,pr.oE dR→pr.kS dR≤20 * (pr.iK dR).length→(∀ s∈dR,hd (pr.oG s))→i+(pr.iK dR).length≤j→j≤T.length→Zx T e K j (fun K q=>kk K (dR,q)) (fun x t=>pv x (pr.iK dR++t)∧nh uT t (fl x)) fl b):Zx T e K i (fun K p=>(b5 (rC K p 1 ends)).bind (kk K)) pv fl b:=by
 refine Z.bv (uW:=fun v t=>pvL v t) (l1:=uT) (aZI T e K i ends hs hT hi hK hKm hl) j0 (fun dR t j a1 a2 q=>?_) hb
 obtain ⟨⟨q1,q2,q3⟩,rfl⟩:=q
 exact hA dR j q1 q2 q3 a1 a2
theorem aPz {dR:List cU} {l1 r l2:List Bytes} (h:∀ s∈dR,hd (pr.oG s)) (hl:∀ x∈l1,x∈uD∧x ∉ aFV) (hr:nh l1 r l2):nh l1 (pr.iK dR++r) l2:=by
 cases dR with
 | nil=>exact hr
 | cons s t =>
   obtain ⟨w,r',hw,h2⟩:=h s (by simp)
   have:pr.iK (s::t)++r=w::(r'++(pr.iK t++r)):=by unfold pr.iK;simp [hw]
   rw[this]
   rcases h2 with h2 | h2
   ·exact aK5 h2 fun x hx=>(hl x hx).1
   ·exact aAc (aUJ w h2) (fun hm=>(hl w hm).2 h2) _ _
theorem aBW {c:Bool} {w:Bytes} {l1 r l2:List Bytes} (hw:w∈uD) (h:w ∉ l1) (hr:nh l1 r l2):nh l1 (pr.flag c w++r) l2:=by
 cases c
 ·exact hr
 ·exact cl hw h
theorem Z.flag {w:Bytes} {kk:Nat→Bool × cV→Option X} (hw:Kw w) (hT:T.length≤1500) (hi:i≤T.length) (hK:1000<K) (hb:1000<b)
 (hA:∀ c j,i≤j→j≤T.length→Zx T e K j (fun K q=>kk K (c,q)) (fun x t=>pv x (pr.flag c w++t)∧nh [w] t (fl x)) fl b):Zx T e K i (fun K p=>(b5 (kD K p w)).bind (kk K)) pv fl b:=by
 refine Z.accept hw hT hK hb (fun h=>?_) (fun h=>?_)
 ·exact (hA true (i+1) (by omega) (by have:=eA h;omega)).aJP fun x t q=>q.1
 ·exact (hA false i (aR _) hi).aJP fun x t q=>q
theorem aFW {m:jT} {l1 r l2:List Bytes} (hw:Wd m.cA) (h:∀ x∈l1,x∈uD):nh l1 (pr.p6 m++r) l2:=by
 obtain ⟨nm,ov,ab,fi,ps,ty,vs,bd⟩:=m
 rw[wC]
 exact aK5 hw h
theorem aJZ (hK:100000<K) (m:jT):∃ v,b5 (F80 K (PE T e i k a) m)=some (PE T e i k a,v):=by
 obtain ⟨v,hv⟩:=aUV (T:=T) (e:=e) (i:=i) (k:=k) (a:=a) hK m
 exact ⟨v,by rw[aPA,hv];rfl⟩
def aRo (m:jT):Prop:=pr.okM m∧pr.aUl m
theorem aUW (hK:100050<K):∃ v,b5 (F82 K (PE T e i k a))=some (v,PE T e i k a):=by
 unfold F82
 have gU:100000<K:=by omega
 simp only[mD,dS,jW gU,lS,aA]
 obtain ⟨v,hv⟩:=aJZ (T:=T) (e:=e) (i:=i) (k:=k) (a:=a) gU ⟨[],false,false,false,[],⟨0,0,0,[]⟩,[],[]⟩
 rw[hv]
 simp only[aA,wD (show 100000<K by omega),p9 gU 1 [[69,78,68,95,77,69,84,72,79,68]] (by simp),jW gU]
 exact ⟨_,rfl⟩
theorem aUX (hs:Ts T) (hT:T.length≤1500) (hi:i≤T.length) (hK:100060<K) (hKm:K≤1000000000) (hb:100060<b):Z T e K i (fun K p=>b5 (F82 K p)) (fun x t=>aRo x.1∧t=pr.rG x.1) [] b:=by
 have gU:100000<K:=by omega
 have lb:∀ j k a,b5 (rC K (PE T e j k a) 1 [[69,78,68,95,77,69,84,72,79,68]])=some ([],PE T e j k a):=fun j k a=>p9 gU _ _ (by simp)
 have hbb:∀ j k a (m:jT),Bd T e ((b5 (F80 K (PE T e j k a) m)).bind fun r5=>(b5 (F81 K r5.1)).bind fun r6=>(b5 (rC K r6.2 1 [[69,78,68,95,77,69,84,72,79,68]])).bind fun r7=>(b5 (fV K r7.2 [[69,78,68,95,77,69,84,72,79,68]])).bind fun r8=>some ((⟨r5.2.cA,r5.2.iD,r5.2.dP,r5.2.eS,r5.2.dH,⟨r5.2.cI.b9,r5.2.cI.jJ,r5.2.cI.jM,r5.2.cI.cA⟩,r6.1,r7.1⟩:jT),r8)):=fun j k a m=>by
  obtain ⟨v,hv⟩:=aJZ (T:=T) (e:=e) (i:=j) (k:=k) (a:=a) gU m
  rw[hv]
  simp only[aA,wD (show 100000<K by omega),lb,jW gU]
  exact Bd.one rfl
 unfold F82
 simp only[mD,dS]
 refine Z.want (gR (by decide)) hT (by omega) (by omega) (fun j k a=>by simp only[lS,aA];exact hbb j k a _) fun h1=>?_
 refine Z.flag (gR (by decide)) hT (by omega) (by omega) (by omega) fun ov j1 o1 o2=>?_
 dsimp only
 refine Z.flag (gR (by decide)) hT (by omega) (by omega) (by omega) fun ab j2 a1 a2=>?_
 dsimp only
 refine Z.flag (gR (by decide)) hT (by omega) (by omega) (by omega) fun fi j3 f1 f2=>?_
 dsimp only
 refine Z.head hs hT (by omega) (by omega) (fun v j k a=>by simp only[aA,wD (show 100000<K by omega),lb,jW gU];exact Bd.one rfl) fun nm ps ty j4 n1 n2 n3 n4 n5 n6=>?_
 dsimp only
 refine Z.vars hs hT (by omega) (by omega) (by omega) (fun v j k a=>by simp only[aA,lb,jW gU];exact Bd.one rfl) fun vs j5 v1 v2 v3 v4=>?_
 dsimp only
 refine Z.body hs hT (by omega) (by omega) (by omega) (by omega) (by simp) (fun v j k a=>by simp only[aA,jW gU];exact Bd.one rfl) fun st j6 s1 s2 s3 s4 s5=>?_
 dsimp only
 refine Z.want (gR (by decide)) hT (by omega) (by omega) (fun j k a=>Bd.one rfl) fun h9=>?_
 refine Z.val (by omega) fun p=>?_
 refine ⟨⟨⟨⟨⟨⟨⟨⟨n2,n4,v1,s1⟩,?_,?_,?_⟩,?_⟩,?_⟩,?_⟩,?_⟩,?_⟩,cl (by decide) (by decide)⟩
 ·show ps.length≤2000000
  rw[wC] at n5
  simp only[aB,aC] at n5
  omega
 ·show vs.length≤2000000;omega
 ·show pr.kS st≤2000000;omega
 ·show _=[[77,69,84,72,79,68]]++pr.flag ov [79,86,69,82,82,73,68,69]++pr.flag ab [65,66,83,84,82,65,67,84]++pr.flag fi [70,73,78,65,76]++pr.p6 ⟨nm,ov,ab,fi,ps,ty,[],[]⟩++pr.nE vs++pr.iK st++[[69,78,68,95,77,69,84,72,79,68]]
  simp
 ·exact aBW (by decide) (by decide) (aBW (by decide) (by decide) (aFW n1 (by decide)))
 ·exact aBW (by decide) (by decide) (aFW n1 (by decide))
 ·exact aFW n1 (by decide)
 ·exact aPz s3 (by decide) (cl (by decide) (by decide))
def xK (K:Nat) (u:cV × List jT):Option (((cV × List jT) ⊕ (kY × cV)) ⊕ (cV × List jT)):=(cX true (b5 (oF K u.1 [[77,69,84,72,79,68]])) default).bind fun c=>if c=true then (b5 (qV K u.1 (Int.ofNat u.2.length) 6)).bind fun p=>(b5 (fV K p [[77,69,84,72,79,68]])).bind fun p=>(b5 (F80 K p ⟨[],false,false,false,[],⟨0,0,0,[]⟩,[],[]⟩)).bind fun r=>fI [room ((u.2.length+[r.2].length) * 136)] (some (.inr (r.1,u.2++[r.2]))) else some (.inl (.inl (u.1,u.2)))
theorem aUY (K:Nat) (p:cV):b5 (F51 K p)=(b5 (fV K p [[73,78,84,69,82,70,65,67,69]])).bind fun p=>(b5 (s8 K p)).bind fun r=>(b5 (fV K r.2 [[59]])).bind fun p=>(iter K (xK K) (p,[])).bind (lpF fun u=>(b5 (fV K u.1 [[69,78,68,95,73,78,84,69,82,70,65,67,69]])).bind fun q=>some (⟨1,r.1,[],[],false,false,[],u.2,[],0,0⟩,q)):=by
 unfold F51
 simp only[mD,aH2,dS]
 congr 1;funext p
 congr 1;funext r
 congr 1;funext p
 congr 2
 funext u
 unfold xK
 simp only[wB,oQ,wX,qL,aDo,aDp,aAf,aDq,cH,cC,cG,cD,cS,bE,aA]
def mtT (f:jT→List Bytes) (l:List jT):List Bytes:=pr.lU (fun _ m=>f m) 0 l
theorem aH5 (f:jT→List Bytes) (l:List jT) (m:jT):mtT f (l++[m])=mtT f l++f m:=by
 unfold mtT
 rw[pr.uB]
 show _++(f m++[])=_
 rw[aO]
theorem aXG {f:jT→List Bytes} (hf:∀ m,∃ r,f m=[77,69,84,72,79,68]::r) {l:List jT} {l1 r l2:List Bytes} (h:[77,69,84,72,79,68] ∉ l1) (hr:nh l1 r l2):nh l1 (mtT f l++r) l2:=by
 cases l with
 | nil=>exact hr
 | cons m t =>
   obtain ⟨q,hq⟩:=hf m
   have:mtT f (m::t)++r=[77,69,84,72,79,68]::(q++(pr.lU (fun _ m=>f m) 1 t++r)):=by
    unfold mtT
    rw[pr.lU,hq];simp
   rw[this]
   exact cl (by decide) h
def pvD (d:kY) (t:List Bytes):Prop:=(pr.okD d∧pr.aL8 d)∧t=pr.gL d
theorem aK6:pr.oE []:=by rw[pr.oE];trivial
theorem aK7:pr.kS []=0:=by rw[pr.kS]
theorem aK8 (dR:List jT):xK K (PE T e i k a,dR)=some (.inl (.inl (PE T e i k a,dR))):=by
 unfold xK
 rw[cE,qF];rfl
theorem aUZ (hs:Ts T) (hT:T.length≤1500) (hK:100060<K) (hb:100060<b):Z T e K i (fun K p=>b5 (F51 K p)) (fun x t=>pvD x.1 t∧x.1.b9=1) [] b:=by
 have gU:100000<K:=by omega
 refine Z.eqv ?_ aUY
 have tl:∀ j k a (nm:Bytes),Bd T e ((iter K (xK K) (PE T e j k a,[])).bind (lpF fun u=>(b5 (fV K u.1 [[69,78,68,95,73,78,84,69,82,70,65,67,69]])).bind fun q=>some ((⟨1,nm,[],[],false,false,[],u.2,[],0,0⟩:kY),q))):=fun j k a nm=>by
  have h:iter K (xK K) (PE T e j k a,[])=some (.inl (PE T e j k a,[])):=by
   have:∀ q,iter (q+1) (xK K) (PE T e j k a,[])=some (.inl (PE T e j k a,[])):=fun q=>by rw[gA,aK8];rfl
   have h2:=this (K - 1)
   rwa [show K - 1+1=K by omega] at h2
  rw[h]
  show Bd T e ((b5 (fV K (PE T e j k a) _)).bind _)
  rw[jW gU]
  exact Bd.one rfl
 refine Z.want (gR (by decide)) hT (by omega) (by omega) (fun j k a=>by simp only[jW gU,qG,aA];exact tl j k a _) fun h1=>?_
 refine Z.name hs hT (fun v j k a=>by simp only[jW gU,aA];exact tl j k a _) fun nm hnm h2 hk=>?_
 dsimp only
 refine Z.want (gR (by decide)) hT (by omega) (by omega) (fun j k a=>tl j k a _) fun h3=>?_
 have hrm:∀ (dR:List jT) (v:jT),dR.length≤1500→Go.Dl.room ((dR.length+[v].length) * 136)=true:=fun dR v h=>room_le (by simp;omega)
 refine Z.aFX (body:=xK) (k:=fun K u=>(b5 (fV K u.1 [[69,78,68,95,73,78,84,69,82,70,65,67,69]])).bind fun q=>some (⟨1,nm,[],[],false,false,[],u.2,[],0,0⟩,q)) (mtT pr.aC9) aRo [[77,69,84,72,79,68]] (by omega) hT (by omega) (by omega) rfl (fun j k' a dR=>aK8 dR) (fun j k' a dR=>by rw[jW gU];exact Bd.one rfl) (fun dR j hj h1 h2=>?_) fun dR j h1 h2 h3 h4=>?_
 ·cases hv:cW T j [[77,69,84,72,79,68]]
  ·refine .inr ?_
   unfold xK
   refine Z.isb (fun w hw=>gR (by revert w;decide)) (by decide) (by omega) (by omega) (fun h2=>by rw[hv] at h2;cases h2) (fun h2=>?_)
   simp only[aE,if_false]
   exact Z.exit hj fun p=>⟨⟨p,rfl,rfl⟩,fun w h=>h⟩
  ·refine .inl ?_
   unfold xK
   refine Z.isb (fun w hw=>gR (by revert w;decide)) (by decide) (by omega) (by omega) (fun h3=>?_) (fun h2=>by rw[hv] at h2;cases h2)
   simp only[if_true]
   have hb0:∀ j k a,Bd T e ((b5 (F80 K (PE T e j k a) ⟨[],false,false,false,[],⟨0,0,0,[]⟩,[],[]⟩)).bind fun r=>fI [Go.Dl.room ((dR.length+[r.2].length) * 136)] (some (.inr (r.1,dR++[r.2])):Option (((cV × List jT) ⊕ (kY × cV)) ⊕ (cV × List jT)))):=fun j k a=>by
    obtain ⟨v,hv⟩:=aJZ (T:=T) (e:=e) (i:=j) (k:=k) (a:=a) gU ⟨[],false,false,false,[],⟨0,0,0,[]⟩,[],[]⟩
    rw[hv,aA,dZ (hrm dR v h2),cB]
    exact Bd.one rfl
   refine Z.room (fun j k a=>by rw[jW gU];exact hb0 j k a) fun hr=>?_
   refine Z.want (gR (by decide)) hT (by omega) (by omega) (fun j k a=>hb0 j k a) fun h5=>?_
   refine Z.head hs hT (by omega) (by omega) (fun v j k a=>by rw[dZ (hrm dR v h2),cB];exact Bd.one rfl) fun nm ps ty j4 n1 n2 n3 n4 n5 n6=>?_
   refine Z.fI (hrm dR _ h2) ?_
   refine Z.more n6 fun p=>?_
   refine ⟨⟨⟨nm,false,false,false,ps,ty,[],[]⟩,p,rfl,⟨⟨n2,n4,by simp,aK6⟩,?_,by simp,by show pr.kS []≤_;rw[aK7];omega⟩,?_,by simp⟩,_,_,rfl,by simp⟩
   ·show ps.length≤2000000
    rw[wC] at n5
    simp only[aB,aC] at n5
    omega
   ·rw[aH5,aO];rfl
 ·dsimp only
  refine Z.want (gR (by decide)) hT (by omega) (by omega) (fun j k a=>Bd.one rfl) fun h9=>?_
  refine Z.val (by omega) fun p=>⟨⟨⟨⟨⟨by simp,fun m hm=>(h1 m hm).1,aK6,i0,i0⟩,⟨by simp,by simp,?_,by show pr.kS []≤_;rw[aK7];omega,fun m hm=>(h1 m hm).2⟩⟩,?_⟩,rfl⟩,cl (by decide) (by decide)⟩
  ·show dR.length≤2000000;omega
  ·show _=[[73,78,84,69,82,70,65,67,69],nm,[59]]++mtT pr.aC9 dR++[[69,78,68,95,73,78,84,69,82,70,65,67,69]]
   simp
theorem aU0 (hs:Ts T) (hT:T.length≤1500) (hK:100060<K) (hKm:K≤1000000000) (hb:100060<b):Z T e K i (fun K p=>b5 (F53 K p)) (fun x t=>pvD x.1 t∧x.1.b9=3) [] b:=by
 have gU:100000<K:=by omega
 have lb:∀ j k a,b5 (rC K (PE T e j k a) 1 [[69,78,68,95,80,82,79,71,82,65,77]])=some ([],PE T e j k a):=fun j k a=>p9 gU _ _ (by simp)
 unfold F53
 simp only[mD,dS]
 refine Z.want (gR (by decide)) hT (by omega) (by omega) (fun j k a=>by simp only[qG,jW gU,wD gU,lb,aA];exact Bd.one rfl) fun h1=>?_
 refine Z.name hs hT (fun v j k a=>by simp only[jW gU,wD gU,lb,aA];exact Bd.one rfl) fun nm hnm h2 hk=>?_
 dsimp only
 refine Z.want (gR (by decide)) hT (by omega) (by omega) (fun j k a=>by simp only[jW gU,wD gU,lb,aA];exact Bd.one rfl) fun h3=>?_
 refine Z.vars hs hT (by omega) (by omega) (by omega) (fun v j k a=>by simp only[aA,lb,jW gU];exact Bd.one rfl) fun vs j5 v1 v2 v3 v4=>?_
 dsimp only
 refine Z.body hs hT (by omega) (by omega) (by omega) (by omega) (by simp) (fun v j k a=>by simp only[aA,jW gU];exact Bd.one rfl) fun st j6 s1 s2 s3 s4 s5=>?_
 dsimp only
 refine Z.want (gR (by decide)) hT (by omega) (by omega) (fun j k a=>Bd.one rfl) fun h9=>?_
 refine Z.val (by omega) fun p=>⟨⟨⟨⟨⟨⟨v1,by simp,s1,i0,i0⟩,⟨?_,by simp,by simp,?_,by simp⟩⟩,?_⟩,rfl⟩,aPz s3 (by decide) (cl (by decide) (by decide))⟩,cl (by decide) (by decide)⟩
 ·show vs.length≤2000000;omega
 ·show pr.kS st≤2000000;omega
 ·show _=[[80,82,79,71,82,65,77],nm,[59]]++pr.nE vs++pr.iK st++[[69,78,68,95,80,82,79,71,82,65,77]]
  simp
theorem aU1 (hK:100050<K):Bd T e (b5 (F54 K (PE T e i k a))):=by
 have gU:100000<K:=by omega
 unfold F54
 simp only[mD,dS,qG,aD6,jW gU,we2 gU,aA]
 exact Bd.one rfl
theorem aU2 (hs:Ts T) (hT:T.length≤1500) (hK:100060<K) (hb:100060<b):Z T e K i (fun K p=>b5 (F54 K p)) (fun x t=>pvD x.1 t∧x.1.b9=4) [] b:=by
 have gU:100000<K:=by omega
 unfold F54
 simp only[mD,dS]
 refine Z.want (gR (by decide)) hT (by omega) (by omega) (fun j k a=>by simp only[qG,aD6,jW gU,we2 gU,aA];exact Bd.one rfl) fun h1=>?_
 refine Z.name hs hT (fun v j k a=>by simp only[qG,aD6,jW gU,we2 gU,aA];exact Bd.one rfl) fun nm hnm h2 hk=>?_
 dsimp only
 refine Z.aH6 (gR (by decide)) (gR (by decide)) hT (by omega) (by omega) (fun j k a=>by simp only[qG,aD6,jW gU,we2 gU,aA];exact Bd.one rfl) fun h3=>?_
 refine Z.number hs hT (fun v j k a=>by simp only[qG,aD6,jW gU,we2 gU,aA];exact Bd.one rfl) fun m hm h4=>?_
 dsimp only
 refine Z.aH6 (gR (by decide)) (gR (by decide)) hT (by omega) (by omega) (fun j k a=>by simp only[qG,aD6,jW gU,we2 gU,aA];exact Bd.one rfl) fun h5=>?_
 refine Z.number hs hT (fun v j k a=>by simp only[qG,jW gU,we2 gU,aA];exact Bd.one rfl) fun n hn h6=>?_
 dsimp only
 refine Z.aH6 (gR (by decide)) (gR (by decide)) hT (by omega) (by omega) (fun j k a=>by simp only[qG,jW gU,aA];exact Bd.one rfl) fun h7=>?_
 refine Z.name hs hT (fun v j k a=>by simp only[jW gU,aA];exact Bd.one rfl) fun bs hbs h8 hk2=>?_
 dsimp only
 refine Z.want (gR (by decide)) hT (by omega) (by omega) (fun j k a=>Bd.one rfl) fun h9=>?_
 refine Z.val (by omega) fun p=>⟨⟨⟨⟨by simp,by simp,aK6,aFT (n:=(m:Int)) (by omega) (by omega),aFT (n:=(n:Int)) (by omega) (by omega)⟩,⟨by simp,by simp,by simp,by show pr.kS []≤_;rw[aK7];omega,by simp⟩⟩,?_⟩,rfl⟩
 show _=[[84,65,83,75],nm,[40],[73,78,84,69,82,86,65,76]]++gT (m:Int)++[[44],[80,82,73,79,82,73,84,89]]++gT (n:Int)++[[41],[58],bs,[59]]
 rw[sY,sY]
 simp
def nmN (K:Nat) (dR:List Bytes) (p:cV):Option (Bytes × cV):=(cX true (b5 (F66 K p 1)) default).bind fun r=>(if r=true then b5 (qV K p (Int.ofNat dR.length) 4) else some p).bind fun p=>(b5 (s8 K p)).bind fun r=>some (r.1,r.2)
def lpN {V Y:Type}:(cV × List V) ⊕ Y→Option (List V × cV)
 | .inl u=>some (u.2,u.1)
 | .inr _=>none
def rV (K:Nat) (p:cV):Option (List Bytes × cV):=(b5 (kD K p [73,77,80,76,69,77,69,78,84,83])).bind fun r=>if r.1=true then (iter K (p8 (Y:=kY × cV) 16 nmN K) (r.2,[],true)).bind lpN else some ([],r.2)
def aDt (K:Nat) (p:cV):Option (Bytes × cV):=(b5 (kD K p [69,88,84,69,78,68,83])).bind fun r=>if r.1=true then (b5 (s8 K r.2)).bind fun q=>some (q.1,q.2) else some ([],r.2)
def aFY (K:Nat) (u:cV × List jT):Option (((cV × List jT) ⊕ (kY × cV)) ⊕ (cV × List jT)):=(cX true (b5 (oF K u.1 [[77,69,84,72,79,68]])) default).bind fun c=>if c=true then (b5 (qV K u.1 (Int.ofNat u.2.length) 6)).bind fun p=>(b5 (F82 K p)).bind fun r=>fI [room ((u.2.length+[r.1].length) * 136)] (some (.inr (r.2,u.2++[r.1]))) else some (.inl (.inl (u.1,u.2)))
def aH7 (K:Nat) (nm base:Bytes) (ab fi:Bool) (aXH:List Bytes) (p:cV):Option (kY × cV):=(b5 (fV K p [[59]])).bind fun p=>(b5 (F81 K p)).bind fun vs=>(iter K (aFY K) (vs.2,[])).bind (lpF fun u=>(b5 (fV K u.1 [[69,78,68,95,67,76,65,83,83]])).bind fun q=>some (⟨2,nm,base,aXH,ab,fi,vs.1,u.2,[],0,0⟩,q))
theorem aEI {A B:Type} {m:Option A} {f g:A→Option B} (h:∀ x,m=some x→f x=g x):m.bind f=m.bind g:=by
 cases m with
 | none=>rfl
 | some x=>exact h x rfl
theorem aPB (K:Nat) (nm base:Bytes) (ab fi:Bool) (p:cV):b5 ((b5 (kD K p ([73,77,80,76,69,77,69,78,84,83]:Bytes))).bind (fun r9=>(cO (if r9.1=true then (cO (cN ((iter K (fun (fP:cV × (List Bytes) × Bool)=>((cX fP.2.2 (b5 (F17 K fP.1)) default).bind (fun aHh=>(if (fP.2.2 && aHh)=true then (cO (cN ((cX true (b5 (F66 K fP.1 1)) default).bind (fun aI8=>(cO (if aI8=true then ((b5 (qV K fP.1 (Int.ofNat fP.2.1.length) 4)).bind (fun aLP=>(some (.inr (aLP))))) else (some (.inr (fP.1)))) (fun (aCJ:cV)=>((b5 (s8 K aCJ)).bind (fun kZ=>(fI [room ((fP.2.1.length+([kZ.1].length)) * 16)] (some (.inr (kZ.2,(fP.2.1++[kZ.1])))))))))))) (fun (wW:cV × (List Bytes))=>((b5 (kD K wW.1 ([44]:Bytes))).bind (fun aCK=>(some (.inr (aCK.2,wW.2,aCK.1))))))) else (some (.inl (Sum.inl (fP.1,fP.2.1)))))))) (r9.2,[],true)).map .inl)) (fun (aD2:cV × (List Bytes))=>(some (.inr (aD2.1,aD2.2))))) else (some (.inr (r9.2,[])))) (fun (jO:cV × (List Bytes))=>((b5 (fV K jO.1 ([[59]]:List Bytes))).bind (fun aCL=>((b5 (F81 K aCL)).bind (fun kF=>(cO (cN ((iter K (fun (hY:cV × (List jT))=>((cX true (b5 (oF K hY.1 ([[77,69,84,72,79,68]]:List Bytes))) default).bind (fun aI9=>(if aI9=true then (cO (cN ((b5 (qV K hY.1 (Int.ofNat hY.2.length) 6)).bind (fun aFu=>((b5 (F82 K aFu)).bind (fun k6=>(fI [room ((hY.2.length+([k6.1].length)) * 136)] (some (.inr (k6.2,(hY.2++[k6.1])))))))))) (fun (aAN:cV × (List jT))=>(some (.inr (aAN.1,aAN.2))))) else (some (.inl (Sum.inl (hY.1,hY.2)))))))) (kF.2,[])).map .inl)) (fun (pV:cV × (List jT))=>((b5 (fV K pV.1 ([[69,78,68,95,67,76,65,83,83]]:List Bytes))).bind (fun yJ=>(some (.inl ((⟨2,nm,base,jO.2,ab,fi,kF.1,pV.2,[],0,0⟩:kY),yJ)))))))))))))))=(rV K p).bind fun f=>aH7 K nm base ab fi f.1 f.2:=by
 have tail:∀ (fs:List Bytes) (q:cV),b5 (((b5 (fV K q ([[59]]:List Bytes))).bind (fun aCL=>((b5 (F81 K aCL)).bind (fun kF=>(cO (cN ((iter K (fun (hY:cV × (List jT))=>((cX true (b5 (oF K hY.1 ([[77,69,84,72,79,68]]:List Bytes))) default).bind (fun aI9=>(if aI9=true then (cO (cN ((b5 (qV K hY.1 (Int.ofNat hY.2.length) 6)).bind (fun aFu=>((b5 (F82 K aFu)).bind (fun k6=>(fI [room ((hY.2.length+([k6.1].length)) * 136)] (some (.inr (k6.2,(hY.2++[k6.1])))))))))) (fun (aAN:cV × (List jT))=>(some (.inr (aAN.1,aAN.2))))) else (some (.inl (Sum.inl (hY.1,hY.2)))))))) (kF.2,[])).map .inl)) (fun (pV:cV × (List jT))=>((b5 (fV K pV.1 ([[69,78,68,95,67,76,65,83,83]]:List Bytes))).bind (fun yJ=>(some (.inl ((⟨2,nm,base,fs,ab,fi,kF.1,pV.2,[],0,0⟩:kY),yJ))))))))))))=aH7 K nm base ab fi fs q:=by
  intro fs q
  simp only[mD,aH2,dS]
  unfold aH7
  congr 1;funext p
  congr 1;funext vs
  congr 2
  funext u
  unfold aFY
  simp only[wB,oQ,wX,qL,aDo,aDp,aAf,aDq,cH,cC,cG,cD,cS,bE,aA]
 unfold rV
 rw[mD,bE]
 congr 1
 funext r
 by_cases hr:r.1=true
 ·rw[aJ hr,aJ hr,aZK,oQ,mD,bE]
  have hb:((fun (fP:cV × (List Bytes) × Bool)=>((cX fP.2.2 (b5 (F17 K fP.1)) default).bind (fun aHh=>(if (fP.2.2 && aHh)=true then (cO (cN ((cX true (b5 (F66 K fP.1 1)) default).bind (fun aI8=>(cO (if aI8=true then ((b5 (qV K fP.1 (Int.ofNat fP.2.1.length) 4)).bind (fun aLP=>(some (.inr (aLP))))) else (some (.inr (fP.1)))) (fun (aCJ:cV)=>((b5 (s8 K aCJ)).bind (fun kZ=>(fI [room ((fP.2.1.length+([kZ.1].length)) * 16)] (some (.inr (kZ.2,(fP.2.1++[kZ.1])))))))))))) (fun (wW:cV × (List Bytes))=>((b5 (kD K wW.1 ([44]:Bytes))).bind (fun aCK=>(some (.inr (aCK.2,wW.2,aCK.1))))))) else (some (.inl (Sum.inl (fP.1,fP.2.1)))))))):cV × (List Bytes) × Bool→Option (((cV × List Bytes) ⊕ (kY × cV)) ⊕ (cV × (List Bytes) × Bool)))=p8 (Y:=kY × cV) 16 nmN K:=by
   funext u
   unfold p8 nmN
   simp only[wB,oQ,wX,qL,aDo,aDp,aAf,aDq,cH,cC,cG,cD,cS,bE,aA]
  rw[hb]
  refine aEI fun x hx=>?_
  obtain ⟨v,rfl⟩:=aAg hx
  exact tail v.2 v.1
 ·rw[aG hr,aG hr]
  exact tail [] r.2
theorem aRr (K:Nat) (p:cV):b5 (F52 K p)=(b5 (fV K p [[67,76,65,83,83]])).bind fun p=>(b5 (kD K p [65,66,83,84,82,65,67,84])).bind fun a=>(b5 (kD K a.2 [70,73,78,65,76])).bind fun f=>(b5 (s8 K f.2)).bind fun n=>(aDt K n.2).bind fun b=>(rV K b.2).bind fun fs=>aH7 K n.1 b.1 a.1 f.1 fs.1 fs.2:=by
 unfold F52
 simp only[mD]
 congr 1;funext p
 congr 1;funext a
 congr 1;funext f
 congr 1;funext n
 unfold aDt
 rw[bE]
 congr 1;funext r
 by_cases hr:r.1=true
 ·rw[aJ hr,aJ hr,oQ,mD,bE]
  congr 1;funext q
  exact aPB K n.1 q.1 a.1 f.1 q.2
 ·rw[aG hr,aG hr]
  exact aPB K n.1 [] a.1 f.1 r.2
end
end Go.Proofs.YtidjangjfekfjaaGreatDoor.ex

namespace Go.Proofs.YtidjangjfekfjaaGreatDoor.ex
open Go Go.Dl
set_option maxRecDepth 100000
section
variable {T:List fS} {e:Int} {K i:Nat} {b:Nat} {k a:Int}
def aH8 (b:Bytes):List Bytes:=if b=[] then [] else [[69,88,84,69,78,68,83],b]
theorem aU3:aDt K (PE T e i k a)=some ([],PE T e i k a):=by
 unfold aDt
 rw[lS,aA,aG (by simp)]
theorem aU4 (hs:Ts T) (hT:T.length≤1500) (hi:i≤T.length) (hK:100000<K) (hb:100000<b):Z T e K i aDt (fun x t=>t=aH8 x.1) [[69,88,84,69,78,68,83]] b:=by
 unfold aDt
 refine Z.accept (gR (by decide)) hT (by omega) (by omega) (fun h1=>?_) (fun h1=>?_)
 ·simp only[if_true]
  refine Z.name hs hT (fun v j k a=>Bd.one rfl) fun nm hnm h2 hk=>?_
  refine Z.val (by omega) fun p=>?_
  show _=aH8 nm
  unfold aH8
  rw[aG (Tk.ne ⟨1,0,hnm⟩)]
 ·simp only[aE,if_false]
  exact Z.val hi fun p=>⟨rfl,fun w h=>h⟩
def fcT (l:List Bytes):List Bytes:=pr.lU (fun i v=>pr.tK i++[v]) 0 l
theorem aPC (l:List Bytes) (v:Bytes):fcT (l++[v])=fcT l++(pr.tK l.length++[v]):=by
 unfold fcT
 rw[pr.uB]
 show _++((pr.tK (0+l.length)++[v])++[])=_
 rw[aO,Nat.zero_add]
theorem aPD:∀ (l:List Bytes) (i:Nat),pr.lU pr.aAS (i+1) l=pr.lU (fun i v=>pr.tK i++[v]) (i+1) l
 | [],i=>rfl
 | f::r,i=>by
   rw[pr.lU,pr.lU,aPD r (i+1)]
   unfold pr.aAS pr.tK
   rw[aG (by omega),aJ (by omega)];rfl
theorem aPE {l:List Bytes} (h:l≠[]):pr.lU pr.aAS 0 l=[73,77,80,76,69,77,69,78,84,83]::fcT l:=by
 cases l with
 | nil=>exact absurd rfl h
 | cons f r =>
   unfold fcT
   rw[pr.lU,pr.lU,aPD r 0];rfl
theorem aU5 {l:List Bytes} {l1 r l2:List Bytes} (h:[73,77,80,76,69,77,69,78,84,83] ∉ l1) (hr:nh l1 r l2):nh l1 (pr.lU pr.aAS 0 l++r) l2:=by
 cases l with
 | nil=>exact hr
 | cons f t=>rw[aPE (by simp)];exact cl (by decide) h
theorem aZL (dR:List Bytes):∃ v,nmN K dR (PE T e i k a)=some (v,PE T e i k a):=by
 unfold nmN
 simp only[cE,aDU,qG,aA,aE,if_false]
 exact ⟨_,rfl⟩
theorem aZM (hs:Ts T) (hT:T.length≤1500) (hi:i≤T.length) (dR:List Bytes):Z T e K i (fun K q=>nmN K dR q) (fun x t=>Wd x.1∧t=[x.1]) [] b:=by
 unfold nmN
 have rest:eV T i 1=true→Z T e K i (fun K p=>(b5 (s8 K p)).bind fun r=>some (r.1,r.2)) (fun x t=>(Wd x.1∧t=[x.1])∧∃ w r n,t=w::r∧lx.Is 1 w n) [] b:=by
  intro h1
  refine Z.name hs hT (fun v j k a=>Bd.one rfl) fun w hw h2 hk=>?_
  exact Z.val (by omega) fun p=>⟨⟨hw,rfl⟩,w,_,0,rfl,hw⟩
 refine Z.aK3 (.inl rfl) (fun h1=>?_) (fun h1=>?_)
 ·simp only[if_true]
  exact Z.room (fun j k a=>by simp only[qG,aA];exact Bd.one rfl) fun hr=>rest h1
 ·simp only[aE,if_false,aA]
  left
  dsimp only
  rw[aDV (by omega),h1]
  simp only[aE,if_false,aA]
  exact Bd.one rfl
def kcN:(cV × List Bytes) ⊕ (kY × cV)→Option (List Bytes × cV)
 | .inl u=>some (u.2,u.1)
 | .inr y=>some ([],y.2)
theorem aRs (K:Nat) (p:cV):rV K p=(b5 (kD K p [73,77,80,76,69,77,69,78,84,83])).bind fun r=>if r.1=true then (iter K (p8 (Y:=kY × cV) 16 nmN K) (r.2,[],true)).bind kcN else some ([],r.2):=by
 unfold rV
 congr 1
 funext r
 congr 1
 refine aEI fun x hx=>?_
 obtain ⟨v,rfl⟩:=aAg hx
 rfl
theorem aRt (hK:100000<K):∃ v,rV K (PE T e i k a)=some (v,PE T e i k a):=by
 unfold rV
 rw[lS,aA,aG (by simp)]
 exact ⟨_,rfl⟩
theorem aRu (hs:Ts T) (hT:T.length≤1500) (hi:i≤T.length) (hK:100001<K) (hb:100001<b):Z T e K i rV (fun x t=>x.1.length≤2000000∧t=pr.lU pr.aAS 0 x.1) [[44],[73,77,80,76,69,77,69,78,84,83]] b:=by
 refine Z.eqv ?_ aRs
 refine Z.accept (gR (by decide)) hT (by omega) (by omega) (fun h1=>?_) (fun h1=>?_)
 ·simp only[if_true]
  refine Z.aJS (item:=nmN) (lit:=[]) (k:=fun _ u=>some (u.2,u.1)) (w:=16) fcT (fun f=>[f]) Wd (kc:=fun _=>kcN) (fun _ _=>rfl) (fun y j k a h=>⟨_,j,k,a,rfl,h⟩) (by decide) (by omega) hT (by have:=eA h1;omega) (by omega) aPC rfl (fun v=>by simp) (by decide)
   (fun v r l2 hv=>aH0 hv (.inl rfl) (fun x hx=>.inr (gR ((show ∀ x∈([[44]]:List Bytes),x∈uD by decide) x hx))) (by decide) _ _)
   (fun j k' a dR=>aZL dR) (fun j k' a dR=>Bd.one rfl)
   (fun dR j hj=>aZM hs hT hj dR) fun dR j q0 q1 q2 q3 q4=>?_
  refine Z.val q4 fun p=>⟨⟨?_,?_⟩,fun w h=>?_⟩
  ·show dR.length≤2000000;omega
  ·rw[aO];exact (aPE q0).symm
  ·simp at h;simp [h]
 ·simp only[aE,if_false]
  exact Z.val hi fun p=>⟨⟨by simp,rfl⟩,fun w h=>by simp at h;simp [h]⟩
theorem aPF (dR:List jT):aFY K (PE T e i k a,dR)=some (.inl (.inl (PE T e i k a,dR))):=by
 unfold aFY
 rw[cE,qF];rfl
theorem aJ0 (hK:100000<K) (nm base:Bytes) (ab fi:Bool) (fs:List Bytes) (vs:List fO):Bd T e ((iter K (aFY K) (PE T e i k a,[])).bind (lpF fun u=>(b5 (fV K u.1 [[69,78,68,95,67,76,65,83,83]])).bind fun q=>some ((⟨2,nm,base,fs,ab,fi,vs,u.2,[],0,0⟩:kY),q))):=by
 have:∀ q,iter (q+1) (aFY K) (PE T e i k a,[])=some (.inl (PE T e i k a,[])):=fun q=>by rw[gA,aPF];rfl
 have h2:=this (K - 1)
 rw[show K - 1+1=K by omega] at h2
 rw[h2]
 show Bd T e ((b5 (fV K (PE T e i k a) _)).bind _)
 rw[jW hK]
 exact Bd.one rfl
theorem aPG (hK:100000<K) (nm base:Bytes) (ab fi:Bool) (fs:List Bytes):Bd T e (aH7 K nm base ab fi fs (PE T e i k a)):=by
 unfold aH7
 rw[jW hK,aA,wD hK]
 exact aJ0 hK ..
theorem aRv (hs:Ts T) (hT:T.length≤1500) (hK:100070<K) (hKm:K≤1000000000) (hb:100070<b):Z T e K i (fun K p=>b5 (F52 K p)) (fun x t=>pvD x.1 t∧x.1.b9=2) [] b:=by
 have gU:100000<K:=by omega
 have fe:∀ j k a,∃ v,rV K (PE T e j k a)=some (v,PE T e j k a):=fun j k a=>aRt gU
 have E4:∀ j k a nm ab fi,Bd T e ((aDt K (PE T e j k a)).bind fun b=>(rV K b.2).bind fun fs=>aH7 K nm b.1 ab fi fs.1 fs.2):=fun j k a nm ab fi=>by
  obtain ⟨v,hv⟩:=fe j k a
  rw[aU3,aA,hv,aA]
  exact aPG gU ..
 refine Z.eqv ?_ aRr
 refine Z.want (gR (by decide)) hT (by omega) (by omega) (fun j k a=>by simp only[lS,qG,aA];exact E4 ..) fun h1=>?_
 refine Z.flag (gR (by decide)) hT (by omega) (by omega) (by omega) fun ab j2 a1 a2=>?_
 dsimp only
 refine Z.flag (gR (by decide)) hT (by omega) (by omega) (by omega) fun fi j3 f1 f2=>?_
 dsimp only
 refine Z.name hs hT (fun v j k a=>E4 ..) fun nm hnm h2 hk=>?_
 dsimp only
 refine Z.bv (uW:=fun v t=>t=aH8 v) (l1:=[[69,88,84,69,78,68,83]]) (aU4 (b:=100001) hs hT (by omega) (by omega) (by omega)) (fun v j k a=>by
  obtain ⟨f,hf⟩:=fe j k a
  dsimp only
  rw[hf,aA]
  exact aPG gU ..) (fun base t1 j4 b1 b3 q=>?_) (by omega)
 subst q
 dsimp only
 refine Z.bv (uW:=fun v t=>v.length≤2000000∧t=pr.lU pr.aAS 0 v) (l1:=[[44],[73,77,80,76,69,77,69,78,84,83]]) (aRu (b:=100002) hs hT b3 (by omega) (by omega)) (fun v j k a=>aPG gU ..) (fun fs t2 j5 c1 c3 q=>?_) (by omega)
 obtain ⟨q1,rfl⟩:=q
 dsimp only
 unfold aH7
 refine Z.want (gR (by decide)) hT (by omega) (by omega) (fun j k a=>by rw[wD gU];exact aJ0 gU ..) fun h3=>?_
 refine Z.vars hs hT (by omega) (by omega) (by omega) (fun v j k a=>aJ0 gU ..) fun vs j6 v1 v2 v3 v4=>?_
 dsimp only
 have hrm:∀ (dR:List jT) (v:jT),dR.length≤1500→Go.Dl.room ((dR.length+[v].length) * 136)=true:=fun dR v h=>room_le (by simp;omega)
 refine Z.aFX (body:=aFY) (k:=fun K u=>(b5 (fV K u.1 [[69,78,68,95,67,76,65,83,83]])).bind fun q=>some (⟨2,nm,base,fs,ab,fi,vs,u.2,[],0,0⟩,q)) (mtT pr.rG) aRo [[77,69,84,72,79,68]] (by omega) hT (by omega) (by omega) rfl (fun j k' a dR=>aPF dR) (fun j k' a dR=>by rw[jW gU];exact Bd.one rfl) (fun dR j hj h1 h2=>?_) fun dR j g1 g2 g3 g4=>?_
 ·cases hv:cW T j [[77,69,84,72,79,68]]
  ·refine .inr ?_
   unfold aFY
   refine Z.isb (fun w hw=>gR (by revert w;decide)) (by decide) (by omega) (by omega) (fun h2=>by rw[hv] at h2;cases h2) (fun h2=>?_)
   simp only[aE,if_false]
   exact Z.exit hj fun p=>⟨⟨p,rfl,rfl⟩,fun w h=>h⟩
  ·refine .inl ?_
   unfold aFY
   refine Z.isb (fun w hw=>gR (by revert w;decide)) (by decide) (by omega) (by omega) (fun h3=>?_) (fun h2=>by rw[hv] at h2;cases h2)
   simp only[if_true]
   refine Z.room (fun j k a=>by
    obtain ⟨v,hv⟩:=aUW (T:=T) (e:=e) (i:=j) (k:=k) (a:=a) (show 100050<K by omega)
    rw[hv,aA,dZ (hrm dR v h2),cB]
    exact Bd.one rfl) fun hr=>?_
   refine Z.bv (uW:=fun v t=>aRo v∧t=pr.rG v) (l1:=[]) (aUX (b:=100062) hs hT hj (by omega) hKm (by omega)) (fun v j k a=>by
    dsimp only
    rw[dZ (hrm dR v h2),cB];exact Bd.one rfl) (fun v t1 j1 j2 j3 q=>?_) (by omega)
   obtain ⟨q1,rfl⟩:=q
   dsimp only
   refine Z.fI (hrm dR v h2) ?_
   refine Z.more j3 fun p=>?_
   have hv:pr.rG v=[77,69,84,72,79,68]::(pr.rG v).tail:=rfl
   rw[aO]
   exact ⟨⟨⟨v,p,rfl,q1,aH5 pr.rG dR v,by rw[hv];simp⟩,_,_,hv,by simp⟩,lB _ _⟩
 ·dsimp only
  refine Z.want (gR (by decide)) hT (by omega) (by omega) (fun j k a=>Bd.one rfl) fun h9=>?_
  refine Z.val (by omega) fun p=>?_
  refine ⟨⟨⟨⟨⟨⟨⟨⟨⟨⟨v1,fun m hm=>(g1 m hm).1,aK6,i0,i0⟩,⟨?_,q1,?_,by show pr.kS []≤_;rw[aK7];omega,fun m hm=>(g1 m hm).2⟩⟩,?_⟩,rfl⟩,?_⟩,?_⟩,?_⟩,?_⟩,?_⟩,cl (by decide) (by decide)⟩
  ·show vs.length≤2000000;omega
  ·show dR.length≤2000000;omega
  ·show _=[[67,76,65,83,83]]++pr.flag ab [65,66,83,84,82,65,67,84]++pr.flag fi [70,73,78,65,76]++[nm]++aH8 base++pr.lU pr.aAS 0 fs++[[59]]++pr.nE vs++mtT pr.rG dR++[[69,78,68,95,67,76,65,83,83]]
   simp
  ·exact aBW (by decide) (by decide) (aK5 hnm (by decide))
  ·exact aK5 hnm (by decide)
  ·exact aU5 (by decide) (cl (by decide) (by decide))
  ·exact cl (by decide) (by decide)
  ·exact aXG (fun m=>⟨_,rfl⟩) (by decide) (cl (by decide) (by decide))
def nA:List Bytes:=[[73,78,84,69,82,70,65,67,69],[67,76,65,83,83],[80,82,79,71,82,65,77],[84,65,83,75]]
theorem aJ1 (K:Nat) (p:cV):b5 (F25 K p)=(cX true (b5 (oF K p [[73,78,84,69,82,70,65,67,69]])) default).bind fun c=>if c=true then b5 (F51 K p) else (cX true (b5 (oF K p [[67,76,65,83,83]])) default).bind fun c=>if c=true then b5 (F52 K p) else (cX true (b5 (oF K p [[80,82,79,71,82,65,77]])) default).bind fun c=>if c=true then b5 (F53 K p) else b5 (F54 K p):=by
 unfold F25
 simp only[mD,wB,oQ,wX,qL,aDo,aDp,aAf,aDq,aAU,dS,eE,cH,cC,cG,cD,cS,bE,aA]
 have h:∀ m:Option (kY × cV),(m.bind fun r=>some (r.1,r.2))=m:=fun m=>by cases m <;> rfl
 simp only[h]
theorem aU6 (hK:100050<K):Bd T e (b5 (F25 K (PE T e i k a))):=by
 rw[aJ1]
 simp only[cE,qF,aA,aE,if_false]
 exact aU1 hK
theorem aU7 (hs:Ts T) (hT:T.length≤1500) (hK:100080<K) (hKm:K≤1000000000) (hb:100080<b):Z T e K i (fun K p=>b5 (F25 K p)) (fun x t=>pvD x.1 t∧∃ w r,t=w::r∧w∈nA) [] b:=by
 refine Z.eqv ?_ aJ1
 have dT:∀ {d:kY} {t:List Bytes} {n:Int},pvD d t→d.b9=n→(n=1→∃ r,t=[73,78,84,69,82,70,65,67,69]::r)∧(n=2→∃ r,t=[67,76,65,83,83]::r)∧(n=3→∃ r,t=[80,82,79,71,82,65,77]::r)∧(n=4→∃ r,t=[84,65,83,75]::r):=by
  rintro d t n ⟨_,rfl⟩ rfl
  unfold pr.gL
  refine ⟨fun h=>?_,fun h=>?_,fun h=>?_,fun h=>?_⟩
  ·rw[aJ h];exact ⟨_,rfl⟩
  ·rw[aG (by omega),aJ h];simp only[aH];exact ⟨_,rfl⟩
  ·rw[aG (by omega),aG (by omega),aJ h];simp only[aH];exact ⟨_,rfl⟩
  ·rw[aG (by omega),aG (by omega),aG (by omega),aJ h];simp only[aH];exact ⟨_,rfl⟩
 refine Z.isb (fun w hw=>gR (by revert w;decide)) (by decide) (by omega) (by omega) (fun h2=>?_) (fun h2=>?_)
 ·simp only[if_true]
  refine (aUZ hs hT (by omega) (by omega)).aJP fun x t q=>?_
  obtain ⟨r,rfl⟩:=(dT q.1 q.2).1 rfl
  exact ⟨⟨q.1,_,r,rfl,by decide⟩,_,r,rfl,by simp⟩
 simp only[aE,if_false]
 refine Z.isb (fun w hw=>gR (by revert w;decide)) (by decide) (by omega) (by omega) (fun h2=>?_) (fun h2=>?_)
 ·simp only[if_true]
  refine (aRv hs hT (by omega) hKm (by omega)).aJP fun x t q=>?_
  obtain ⟨r,rfl⟩:=(dT q.1 q.2).2.1 rfl
  exact ⟨⟨⟨q.1,_,r,rfl,by decide⟩,cl (by decide) (by decide)⟩,_,r,rfl,by simp⟩
 simp only[aE,if_false]
 refine Z.isb (fun w hw=>gR (by revert w;decide)) (by decide) (by omega) (by omega) (fun h2=>?_) (fun h2=>?_)
 ·simp only[if_true]
  refine (aU0 hs hT (by omega) hKm (by omega)).aJP fun x t q=>?_
  obtain ⟨r,rfl⟩:=(dT q.1 q.2).2.2.1 rfl
  exact ⟨⟨⟨⟨q.1,_,r,rfl,by decide⟩,cl (by decide) (by decide)⟩,cl (by decide) (by decide)⟩,_,r,rfl,by simp⟩
 simp only[aE,if_false]
 refine (aU2 hs hT (by omega) (by omega)).aJP fun x t q=>?_
 obtain ⟨r,rfl⟩:=(dT q.1 q.2).2.2.2 rfl
 exact ⟨⟨⟨⟨q.1,_,r,rfl,by decide⟩,cl (by decide) (by decide)⟩,cl (by decide) (by decide)⟩,cl (by decide) (by decide)⟩
end
end Go.Proofs.YtidjangjfekfjaaGreatDoor.ex

namespace Go.Proofs.YtidjangjfekfjaaGreatDoor.ex
open Go Go.Dl
set_option maxRecDepth 100000
abbrev UP:=cV × List kY × List Int
def wY (K:Nat) (u:UP):Option ((UP ⊕ (yL × List Int × mF)) ⊕ UP):=(cX true (b5 (F17 K u.1)) default).bind fun r=>if (r && decide ((u.1.fi:Int)<Int.ofNat u.1.bZ.length))=true then (cX true (b5 (oF K u.1 nA)) default).bind fun c=>(if c=true then b5 (qV K u.1 (Int.ofNat u.2.1.length) 12) else some u.1).bind fun p=>(b5 (F24 K p)).bind fun t=>fI [room ((u.2.2.length+[t.kQ].length) * 8)] ((b5 (F25 K p)).bind fun r=>fI [room ((u.2.1.length+[r.1].length) * 160)] (some (.inr (r.2,u.2.1++[r.1],u.2.2++[t.kQ])))) else some (.inl (.inl u))
theorem aFZ (K:Nat) (s:Bytes):b5 (F10 K s)=(b5 (F14 K s)).bind fun p=>(iter K (wY K) (p,[],[])).bind (lpF fun u=>(cX true (b5 (F17 K u.1)) default).bind fun r=>if (!r)=true then some ((⟨[]⟩:yL),[],u.1.j9) else some ((⟨u.2.1⟩:yL),u.2.2,([]:mF))):=by
 unfold F10
 simp only[mD]
 congr 1;funext p
 have hb:(fun (gP:UP)=>((cX true (b5 (F17 K gP.1)) default).bind (fun r94=>(cY (r94 && (decide ((gP.1.fi:Int)<(Int.ofNat gP.1.bZ.length)))) (fun (x95:Bool)=>(if x95=true then (cO (cN ((cX true (b5 (oF K gP.1 ([[73,78,84,69,82,70,65,67,69],[67,76,65,83,83],[80,82,79,71,82,65,77],[84,65,83,75]]:List Bytes))) default).bind (fun tV=>(cO (if tV=true then ((b5 (qV K gP.1 (Int.ofNat gP.2.1.length) 12)).bind (fun qH=>(some (.inr (qH))))) else (some (.inr (gP.1)))) (fun (qI:cV)=>((cX true (b5 (F24 K qI)) default).bind (fun gM=>(fI [room ((gP.2.2.length+([gM.kQ].length)) * 8)] ((b5 (F25 K qI)).bind (fun jV=>(fI [room ((gP.2.1.length+([jV.1].length)) * 160)] (some (.inr (jV.2,(gP.2.1++[jV.1]),(gP.2.2++[gM.kQ]))))))))))))))) (fun (oN:UP)=>(some (.inr (oN.1,oN.2.1,oN.2.2))))) else (some (.inl (Sum.inl (gP.1,gP.2.1,gP.2.2))):Option ((UP ⊕ (yL × List Int × mF)) ⊕ UP))))))))=wY K:=by
  funext u
  unfold wY
  simp only[cY,cE,nA,wB,oQ,wX,qL,aDo,aDp,aAf,aDq,cH,cC,cG,cD,cS,bE,aA]
 rw[hb,aH2]
 congr 2;funext u
 rw[mD]
 congr 1;funext r
 cases r <;> rfl
section
variable {T:List fS} {e:Int} {K i:Nat} {k a:Int} {dR:List kY} {pl:List Int}
theorem aPH:wY K (PE T e i k a,dR,pl)=some (.inl (.inl (PE T e i k a,dR,pl))):=by
 unfold wY
 rw[aMi,aA,Bool.false_and,aG (by simp)]
theorem aJ2:wY K (P T e i,dR,pl)=if i<T.length then (cX true (b5 (oF K (P T e i) nA)) default).bind fun c=>(if c=true then b5 (qV K (P T e i) (Int.ofNat dR.length) 12) else some (P T e i)).bind fun p=>(b5 (F24 K p)).bind fun t=>fI [room ((pl.length+[t.kQ].length) * 8)] ((b5 (F25 K p)).bind fun r=>fI [room ((dR.length+[r.1].length) * 160)] (some (.inr (r.2,dR++[r.1],pl++[t.kQ])))) else some (.inl (.inl (P T e i,dR,pl))):=by
 unfold wY
 rw[show (cX true (b5 (F17 K (P T e i))) default)=some true from rfl,aA,bM]
 by_cases h:i<T.length
 ·rw[aJ h,aJ (by show decide ((i:Int)<Int.ofNat T.length)=true;simp;omega)]
 ·rw[aG h,aG (by show ¬ decide ((i:Int)<Int.ofNat T.length)=true;simp;omega)]
theorem aK9 (h:¬ i<T.length):wY K (P T e i,dR,pl)=some (.inl (.inl (P T e i,dR,pl))):=by
 rw[aJ2,aG h]
theorem aLa (hK:1000<K) (hT:T.length≤100000) (h:cW T i nA=true) (hl:dR.length<12) (hp:pl.length≤100000) {r:kY × cV} (hr:b5 (F25 K (P T e i))=some r):wY K (P T e i,dR,pl)=some (.inr (r.2,dR++[r.1],pl++[(tok T e i).kQ])):=by
 have h23:b5 (qV K (P T e i) (Int.ofNat dR.length) 12)=some (P T e i):=by
  unfold qV
  rw[aG (by simp;omega)];rfl
 rw[aJ2,aJ (eA h),cE,p29 (by decide) (by omega),h,aA,aJ rfl,h23,aA,p31,aA,dZ (room_le (by simp;omega)),cB,hr,aA,dZ (room_le (by simp;omega)),cB]
theorem aRw (hK:100050<K) (hT:T.length≤1500) (h:cW T i nA=false):Bd T e (b5 (F25 K (P T e i))):=by
 have sub:∀ w∈nA,cW T i [w]=false:=fun w hw=>gV h fun x hx=>by rw[aS.1 hx];exact hw
 have h1:=sub [73,78,84,69,82,70,65,67,69] (by decide)
 have h2:=sub [67,76,65,83,83] (by decide)
 have h3:=sub [80,82,79,71,82,65,77] (by decide)
 have h4:=sub [84,65,83,75] (by decide)
 rw[aJ1,cE,p29 (by decide) (by omega),h1,aA,aG (by simp),cE,p29 (by decide) (by omega),h2,aA,aG (by simp),cE,p29 (by decide) (by omega),h3,aA,aG (by simp)]
 unfold F54
 simp only[mD,dS]
 rw[aDX (by omega) (by omega) h4]
 simp only[aA,qG,aD6,jW (show 100000<K by omega),we2 (show 100000<K by omega)]
 exact Bd.one rfl
theorem aRx (hK:100050<K) (hT:T.length≤1500) (hi:i<T.length) (hl:dR.length≤100000) (hp:pl.length≤100000) (h:cW T i nA=false∨¬ dR.length<12∨Bd T e (b5 (F25 K (P T e i)))):∃ j k a l p,wY K (P T e i,dR,pl)=some (.inr (PE T e j k a,l,p)):=by
 have fin:∀ {p:cV} {t:fS},Bd T e (b5 (F25 K p))→∃ j k a l q,fI [room ((pl.length+[t.kQ].length) * 8)] ((b5 (F25 K p)).bind fun r=>fI [room ((dR.length+[r.1].length) * 160)] (some (.inr (r.2,dR++[r.1],pl++[t.kQ])):Option ((UP ⊕ (yL × List Int × mF)) ⊕ UP)))=some (.inr (PE T e j k a,l,q)):=by
  rintro p t ⟨⟨d,p'⟩,j,k,a,h1,h2⟩
  obtain rfl:p'=PE T e j k a:=h2
  rw[dZ (room_le (by simp;omega)),cB,h1,aA,dZ (room_le (by simp;omega)),cB]
  exact ⟨_,_,_,_,_,rfl⟩
 rw[aJ2,aJ hi,cE,p29 (by decide) (by omega),aA]
 cases hh:cW T i nA
 ·rw[aG (by simp),aA,p31,aA]
  exact fin (aRw hK hT hh)
 ·rw[aJ rfl]
  unfold qV
  by_cases hl2:dR.length<12
  ·rw[aG (by simp;omega),eE,aA,p31,aA]
   rcases h with h | h | h
   ·rw[hh] at h;cases h
   ·exact absurd hl2 h
   ·exact fin h
  ·rw[aJ (by simp;omega),p20,aA,eE,aA,aFb,aA]
   exact fin (aU6 hK)
theorem aRy (hs:Ts T) (hT:T.length≤1500) (hK:100090<K) (hKm:K≤1000000000):∀ (n i k:Nat) (dR:List kY) (pl:List Int),T.length - i=n→n+2<k→i≤T.length→dR.length≤i→pl.length=dR.length →
 (∃ j q a l p,iter k (wY K) (P T e i,dR,pl)=some (.inl (PE T e j q a,l,p))) ∨
 ∃ ds ps,iter k (wY K) (P T e i,dR,pl)=some (.inl (P T e T.length,dR++ds,pl++ps))∧(ds.length≠0→dR.length+ds.length≤12)∧(∀ d∈ds,pr.okD d∧pr.aL8 d)∧(∀ w∈ds.flatMap pr.gL,Tk w)∧(ds.flatMap pr.gL).length+i≤T.length ∧
   ∀ (T':List fS) (e':Int) (i' K' k2:Nat) (aH9:List kY) (pl':List Int),T'.length≤100000→At T' i' (ds.flatMap pr.gL)→T'.length=i'+(ds.flatMap pr.gL).length→100090≤K'→ds.length<k2→aH9.length=dR.length→pl'.length=dR.length→∃ ps',iter k2 (wY K') (P T' e' i',aH9,pl')=some (.inl (P T' e' T'.length,aH9++ds,pl'++ps'))∧ps'.length=ds.length:=by
 intro n
 induction n using Nat.strongRecOn with
 | ind n ih =>
   intro i k dR pl hn hk hi hl hp
   obtain ⟨k,rfl⟩:∃ q,k=q+2:=⟨k - 2,by omega⟩
   by_cases h:i<T.length
   ·by_cases hb:cW T i nA=false∨¬ dR.length<12∨Bd T e (b5 (F25 K (P T e i)))
    ·obtain ⟨j,q,a,l,p,hq⟩:=aRx (pl:=pl) (by omega) hT h (by omega) (by omega) hb
     refine .inl ⟨j,q,a,l,p,?_⟩
     rw[gA,hq,aA]
     dsimp only
     rw[gA,aPH];rfl
    ·have hh:cW T i nA=true:=by
      cases h2:cW T i nA
      ·exact absurd (.inl h2) hb
      ·rfl
     have hl2:dR.length<12:=Decidable.byContradiction fun h2=>hb (.inr (.inl h2))
     rcases aU7 (e:=e) (i:=i) (b:=100081) hs hT (by omega) hKm (by omega) with hbd | ⟨⟨d,p'⟩,j,t,e1,e2,⟨c1,c2,c3⟩,e4,⟨⟨⟨e5,e8⟩,w,r,e7,e9⟩,e6⟩⟩
     ·exact absurd (.inr (.inr hbd)) hb
     dsimp only at e1
     obtain rfl:p'=P T e j:=e2
     have ht:1≤t.length:=by rw[e7];simp
     dsimp only at e8 e5
     have h1:=aLa (K:=K) (dR:=dR) (pl:=pl) (by omega) (by omega) hh hl2 (by omega) e1
     rw[gA,h1,aA]
     dsimp only
     rcases ih (T.length - j) (by omega) j (k+1) (dR++[d]) (pl++[(tok T e i).kQ]) rfl (by omega) c2 (by simp;omega) (by simp;omega) with hx | ⟨ds,ps,f1,f3,f4,f5,f6,f7⟩
     ·exact .inl hx
     ·refine .inr ⟨d::ds,(tok T e i).kQ::ps,?_,?_,?_,?_,?_,?_⟩
      ·rw[f1];simp
      ·intro _
       simp only[aB,aC,aD] at f3 ⊢
       cases ds with
       | nil=>simp;omega
       | cons x y=>simp at f3 ⊢;omega
      ·intro x hx
       rcases aT.1 hx with rfl | hx
       ·exact e5
       ·exact f4 x hx
      ·intro x hx
       rw[bG,← e8] at hx
       rcases bH.1 hx with hx | hx
       ·exact e4 x hx
       ·exact f5 x hx
      ·rw[bG,← e8,aB];omega
      ·intro T' e' i' K' k2 aH9 pl' a1 a2 a3 a4 a5 a6 a7
       rw[bG,← e8] at a2 a3
       rw[aB] at a3
       obtain ⟨b1,b2⟩:=aJQ a2
       obtain ⟨k2,rfl⟩:∃ q,k2=q+1:=⟨k2 - 1,by omega⟩
       have hh':cW T' i' nA=true:=by
        rw[e7] at b1
        rw[(show Tw T' i' w from b1.1).cW (gR ((show ∀ x∈nA,x∈uD by decide) w e9)),decide_eq_true e9]
       have h6:=e6 T' e' i' K' a1 b1 ⟨by unfold cW;simp,by simp,by simp⟩ (by omega)
       dsimp only at h6
       have h1':=aLa (K:=K') (dR:=aH9) (pl:=pl') (by omega) a1 hh' (by omega) (by omega) h6
       obtain ⟨ps',g1,g2⟩:=f7 T' e' (i'+t.length) K' k2 (aH9++[d]) (pl'++[(tok T' e' i').kQ]) a1 b2 (by omega) a4 (by simp at a5;omega) (by simp;omega) (by simp;omega)
       refine ⟨(tok T' e' i').kQ::ps',?_,by simp [g2]⟩
       rw[gA,h1',aA]
       show iter k2 (wY K') (P T' e' (i'+t.length),aH9++[d],pl'++[(tok T' e' i').kQ])=_
       rw[g1];simp
   ·obtain rfl:i=T.length:=by omega
    refine .inr ⟨[],[],?_,by simp,by simp,by simp,by simp,?_⟩
    ·rw[gA,aK9 h];simp
    ·intro T' e' i' K' k2 aH9 pl' a1 a2 a3 a4 a5 a6 a7
     obtain ⟨k2,rfl⟩:∃ q,k2=q+1:=⟨k2 - 1,by omega⟩
     have:T'.length=i':=by simpa using a3
     refine ⟨[],?_,rfl⟩
     rw[gA,aK9 (by omega),this];simp
end
end Go.Proofs.YtidjangjfekfjaaGreatDoor.ex

namespace Go.Proofs.YtidjangjfekfjaaGreatDoor
open Go Go.Proofs Go.Dl
set_option maxRecDepth 100000
open pr (B J)
theorem aPI (K:Nat) (hK:20000000≤K):b5 (F5 K)=some true:=by
 unfold F5
 have i0:zZ 0:=by unfold zZ;omega
 have i1:zZ 1:=by unfold zZ;omega
 have i3:zZ 3:=by unfold zZ;omega
 rw[aOW K _ ?a hK ?b ?c]
 case a =>
  rw[pr.l6];refine ⟨i0,?_⟩
  rw[pr.yS];refine ⟨?_,by rw[pr.yS];trivial⟩
  rw[pr.l6];refine ⟨i1,?_⟩
  rw[pr.yS];refine ⟨?_,?_⟩
  ·rw[pr.l6];exact ⟨i0,by rw[pr.yS];trivial⟩
  rw[pr.yS];refine ⟨?_,by rw[pr.yS];trivial⟩
  rw[pr.l6];exact ⟨i1,by rw[pr.yS];trivial⟩
 case b=>exact of_decide_eq_true (by kernel_rfl)
 case c=>exact of_decide_eq_true (by kernel_rfl)
 have e1:J (pr.gC (⟨7,0,([]:Bytes),([]:Bytes),[(⟨9,1,([]:Bytes),([]:Bytes),[(⟨5,0,([97]:Bytes),([]:Bytes),[]⟩:dM),(⟨1,1,([]:Bytes),([]:Bytes),[]⟩:dM)]⟩:dM)]⟩:dM))=[45,32,40,32,97,32,43,32,49,32,41]:=by kernel_rfl
 rw[e1,aA,aOV K _ i0 i3 (of_decide_eq_true (by kernel_rfl)),aDd K hK _ ?d (of_decide_eq_true (by kernel_rfl))]
 case d =>
  refine ⟨by simp,fun d hd=>?_⟩
  obtain rfl:=aS.1 hd
  exact ⟨⟨fun v hv=>(by cases hv),fun v hv=>(by cases hv),(by rw[pr.oE];trivial),i0,i0⟩,⟨(by simp),(by simp),(by simp),(by rw[pr.kS];omega),fun v hv=>(by cases hv)⟩⟩
 have e2:J (pr.rY (⟨4,0,3,([]:Bytes)⟩:kI))=[65,82,82,65,89,32,91,32,51,32,93,32,79,70,32,73,78,84]:=by kernel_rfl
 have e3:pr.xH [(⟨3,([80]:Bytes),([]:Bytes),[],false,false,[],[],[],0,0⟩:kY)]=[80,82,79,71,82,65,77,32,80,32,59,32,69,78,68,95,80,82,79,71,82,65,77,10]:=by kernel_rfl
 rw[e2,e3]
 rfl
theorem aPJ {A B:Type} (g:A→List B):∀ (l:List A) (i:Nat),pr.lU (fun _ x=>g x) i l=l.flatMap g
 | [],_=>rfl
 | x::r,i=>by rw[pr.lU,aPJ g r,bG]
theorem aEJ (l:List kY):pr.xH l=l.flatMap fun d=>(J (pr.gL d)++[10]:Bytes):=aPJ (fun d=>(J (pr.gL d)++[10]:Bytes)) l 0
theorem aXI:lx.Cut 10:=⟨by decide,by decide,by decide,by decide,by decide,by decide⟩
theorem aU8 (v:Bytes) (a:Nat) (t:List fS):lx.lN (10::v) a t=lx.lN v (a+1) t:=by
 rw[lx.wJ (n:=1) (by simp) rfl];rfl
theorem aEK:∀ (l:List kY) (a:Nat) (t:List fS),(∀ w∈l.flatMap pr.gL,ex.Tk w)→t.length+(l.flatMap pr.gL).length≤1500 →
 ∃ m b,lx.lN (l.flatMap fun d=>J (pr.gL d)++[10]) a t=lx.lN [] b (t++m)∧ex.Tl m (l.flatMap pr.gL)
 | [],a,t,_,_=>⟨[],a,by simp,trivial⟩
 | d::r,a,t,h,ht=>by
   rw[bG,aB] at ht
   rw[bG] at h
   obtain ⟨m,b,h1,h2⟩:=ex.aEn (pr.gL d) (10::(r.flatMap fun d=>J (pr.gL d)++[10])) a t (v8 d) (fun w hw=>h w (bO _ hw)) aXI (by omega)
   have hm:=h2.len
   obtain ⟨m2,b2,h3,h4⟩:=aEK r (b+1) (t++m) (fun w hw=>h w (List.mem_append_right _ hw)) (by rw[aB];omega)
   refine ⟨m++m2,b2,?_,?_⟩
   ·rw[bG,aH]
    show lx.lN (J (pr.gL d)++([10]++_)) a t=_
    rw[show ([10]++(r.flatMap fun d=>J (pr.gL d)++[10]):Bytes)=10::(r.flatMap fun d=>J (pr.gL d)++[10]) from rfl,h1,aU8,h3,aH]
   ·rw[bG];exact h2.app h4
theorem aIa:∀ (l:List kY),(∀ w∈l.flatMap pr.gL,ex.Tk w)→(l.flatMap fun d=>J (pr.gL d)++[10]).length≤15 * (l.flatMap pr.gL).length
 | [],_=>by simp
 | d::r,h=>by
   rw[bG] at h
   have h1:=ex.aZd (v8 d) fun w hw=>h w (bO _ hw)
   have h2:=aIa r fun w hw=>h w (List.mem_append_right _ hw)
   have h3:1≤(pr.gL d).length:=by cases hq:pr.gL d with | nil=>exact absurd hq (v8 d) | cons x y=>simp
   rw[bG,bG]
   simp only[aB,aC,aD]
   omega
theorem aLb (s:Bytes) (h:s.length≤6000):lx.aLh s=match lx.lN s 0 [] with
 | .inl t=>(t,[])
 | .inr (c,a)=>([],[(c,(a:Int))]):=by
 unfold lx.aLh
 rw[aG (by omega)];rfl
theorem aIb (K:Nat) (hK:200000<K) (s:Bytes) (hs:s.length≤6000) {ts:List fS} (h:lx.lN s 0 [] = .inl ts):b5 (F14 K s)=some (ex.P ts s.length 0):=by
 unfold F14
 rw[aJ6 K s hK,aLb s hs,h];rfl
theorem aPK (K:Nat) (hK:200000<K) (s:Bytes) (hs:s.length≤6000) {r:Int × Nat} (h:lx.lN s 0 [] = .inr r):∃ e,b5 (F10 K s)=some (⟨[]⟩,[],e)∧e≠[]:=by
 obtain ⟨c,a⟩:=r
 have hp:=lx.places s s 0 [] rfl (by omega) (aR _) (by simp)
 rw[h] at hp
 have hc:c=1∨c=2∨c=5:=hp.1
 have h18:b5 (F14 K s)=some ⟨[],0,Int.ofNat s.length,[(c,a),(c,a)]⟩:=by
  unfold F14
  rw[aJ6 K s hK,aLb s hs,h,aA]
  have:b5 (F34 K [(c,(a:Int))])=some [(c,(a:Int)),(c,(a:Int))]:=by
   show b5 (if c=1∨c=2∨c=5 then some (.inl [(c,(a:Int)),(c,(a:Int))]) else none:Option (mF ⊕ mF))=_
   rw[aJ hc];rfl
  rw[this];rfl
 obtain ⟨k,rfl⟩:∃ k,K=k+1:=⟨K - 1,by omega⟩
 refine ⟨[(c,(a:Int)),(c,(a:Int))],?_,by simp⟩
 rw[ex.aFZ,h18,aA,ex.gA]
 rfl
theorem aPL (K:Nat) (hK:200000<K) (s:Bytes) (hs:s.length≤6000) {ts:List fS} (h:lx.lN s 0 [] = .inl ts) {j:Nat} {k a:Int} {l:List kY} {p:List Int}
 (hi:iter K (ex.wY K) (ex.P ts s.length 0,[],[])=some (.inl (ex.PE ts s.length j k a,l,p))):b5 (F10 K s)=some (⟨[]⟩,[],[(k,a)]):=by
 rw[ex.aFZ,aIb K hK s hs h,aA,hi]
 rfl
theorem aIc (K:Nat) (hK:200000<K) (s:Bytes) (hs:s.length≤6000) {ts:List fS} (h:lx.lN s 0 [] = .inl ts) {j:Nat} {l:List kY} {p:List Int}
 (hi:iter K (ex.wY K) (ex.P ts s.length 0,[],[])=some (.inl (ex.P ts s.length j,l,p))):b5 (F10 K s)=some (⟨l⟩,p,[]):=by
 rw[ex.aFZ,aIb K hK s hs h,aA,hi]
 rfl
theorem aPb (K:Nat) (hK:20000000≤K) (hKm:K≤1000000000) (s:Bytes):b5 (F4 K s)=some true:=by
 have hA:=aPI K hK
 by_cases h:s.length > 2000
 ·unfold F4
  simp only[cY]
  rw[aJ (by simp;omega),hA];rfl
 have er:∀ (e:mF),b5 (F10 K s)=some (⟨[]⟩,[],e)→e≠[]→b5 (F4 K s)=some true:=by
  intro e h6 he
  have h11:b5 (F11 K (⟨[]⟩:yL))=some []:=aDd K hK ⟨[]⟩ ⟨by simp,by simp⟩ (by show ([]:Bytes).length≤_;simp)
  unfold F4
  simp only[cY]
  rw[aG (by simp;omega),h6,aA]
  have hb:(!(!tF e))=true:=by cases e with | nil=>exact absurd rfl he | cons a r=>rfl
  dsimp only
  rw[aJ hb,h11,aA]
  simp only[beq_self_eq_true,cE,hA,aA]
  rfl
 have hp:=lx.places s s 0 [] rfl (by omega) (aR _) (by simp)
 cases hx:lx.lN s 0 [] with
 | inr r =>
   obtain ⟨e,h6,he⟩:=aPK K (by omega) s (by omega) hx
   exact er e h6 he
 | inl ts =>
   rw[hx] at hp
   have hl:ts.length≤1500:=hp.1
   have hts:ex.Ts ts:=fun t ht=>lx.aJB s 0 [] (by simp) ts hx t ht
   rcases ex.aRy (e:=s.length) (K:=K) hts hl (by omega) hKm ts.length 0 K [] [] rfl (by omega) (by omega) (by simp) (by simp) with ⟨j,q,a,l,p,hi⟩ | ⟨ds,ps,hi,h12,hok,htk,hle,hre⟩
   ·exact er _ (aPL K (by omega) s (by omega) hx hi) (by simp)
   ·have h6:=aIc K (by omega) s (by omega) hx hi
    rw[aL,aL] at h6
    have hlen:=aIa ds htk
    have hn:ds.length≤12:=by
     by_cases h0:ds.length=0
     ·omega
     ·have:=h12 h0;simp at this;omega
    have h11:b5 (F11 K (⟨ds⟩:yL))=some (pr.xH ds):=aDd K hK ⟨ds⟩ ⟨by show ds.length≤_;omega,hok⟩ (by show (pr.xH ds).length≤_;rw[aEJ];omega)
    unfold F4
    simp only[cY]
    rw[aG (by simp;omega),h6,aA]
    dsimp only
    rw[aG (by simp [tF]),h11,aA]
    by_cases hb:(pr.xH ds).length > 6000
    ·rw[aJ (by simp;omega),hA];rfl
    rw[aG (by simp;omega)]
    obtain ⟨m,b,g1,g2⟩:=aEK ds 0 [] htk (by rw[aD];omega)
    rw[lx.aC6,← aEJ] at g1
    rw[aL] at g1
    have hml:=g2.len
    obtain ⟨ps',g3,g4⟩:=hre m ((pr.xH ds).length:Int) 0 K K [] [] (by omega) g2.at0 (by omega) (by omega) (by omega) rfl rfl
    have g5:=aIc K (by omega) (pr.xH ds) (by omega) g1 g3
    rw[aL,aL] at g5
    have g6:b5 (aPe K (⟨ds⟩:yL) (⟨ds⟩:yL))=some true:=by unfold aPe;rw[aJ rfl];rfl
    rw[g5,aA]
    dsimp only
    have he:(!tF ([]:mF))=true:=rfl
    simp only[he,cE,g6,aA,Bool.and_self,h11,beq_self_eq_true,g4,hA,Bool.and_true]
    rfl
end Go.Proofs.YtidjangjfekfjaaGreatDoor
