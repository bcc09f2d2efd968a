/- No conditions. -/
import Derived.Test.YtidjangjfekfjaaGreatDoorZa
set_option linter.unusedVariables false
set_option linter.unusedSimpArgs false
set_option linter.unusedSectionVars false
namespace Go.Proofs.YtidjangjfekfjaaGreatDoor.ex
open Pr (yT put)
open Go Go.Dl
set_option maxRecDepth 100000
def p8 {V Y:Type} (w:Nat) (item:Nat→List V→cV→Option (V × cV)) (K:Nat) (u:cV × List V × Bool):Option (((cV × List V) ⊕ Y) ⊕ (cV × List V × Bool)) :=
 (cX u.2.2 (b5 (F17 K u.1)) default).bind fun r=>if (u.2.2 && r)=true then (item K u.2.1 u.1).bind fun v=>fI [room ((u.2.1.length+[v.1].length) * w)] ((b5 (kD K v.2 [44])).bind fun a=>some (.inr (a.2,u.2.1++[v.1],a.1))) else some (.inl (.inl (u.1,u.2.1)))
section
variable {T:List fS} {e:Int} {K i:Nat} {b:Nat} {k a:Int}
theorem Z.aJS {V Y Y1:Type} [Pr Y] [Pr Y1] {kc:Nat→(cV × List V) ⊕ Y1→Option Y} {pvy:Y→List Bytes→Prop} {l2 lit:List Bytes} {item:Nat→List V→cV→Option (V × cV)} {k:Nat→cV × List V→Option Y} {w:Nat} (tk:List V→List Bytes) (it:V→List Bytes) (ok:V→Prop)
 (hkc:∀ K u,kc K (.inl u)=k K u) (hkr:∀ y j k' a,yT y=PE T e j k' a→Bd T e (kc K (.inr y))) (hw:w≤1000) (hK:100001<K) (hT:T.length≤1500) (hi:i≤T.length) (hb:100001<b) (htk:∀ dR v,tk (dR++[v])=tk dR++(pr.tK dR.length++it v)) (aZR:tk []=[]) (hne:∀ v,it v≠[]) (aZS:[44] ∉ lit)
 (hnh:∀ v r l2,ok v→nh ([44]::lit) (it v++r) l2)
 (aYk:∀ j k' a dR,∃ v,item K dR (PE T e j k' a)=some (v,PE T e j k' a)) (aH3:∀ j k' a dR,Bd T e (k K (PE T e j k' a,dR)))
 (aXQ:∀ dR j,j≤T.length→Z T e K j (fun K q=>item K dR q) (fun x t=>ok x.1∧t=it x.1) lit (b - 1))
 (hA:∀ dR j,dR≠[]→(∀ v∈dR,ok v)→dR.length≤(tk dR).length→i+(tk dR).length≤j→j≤T.length→Z T e K j (fun K q=>k K (q,dR)) (fun y t2=>pvy y (tk dR++t2)∧nh ([44]::lit) t2 l2) l2 b) :
 Z T e K i (fun K p=>(iter K (p8 (Y:=Y1) w item K) (p,[],true)).bind (kc K)) pvy l2 b:=by
 let I:cV × List V × Bool→List Bytes→Prop:=fun u t=>(∀ v∈u.2.1,ok v)∧u.2.1.length≤t.length∧u.2.1.length≤(tk u.2.1).length∧((u.2.2=true∧t=tk u.2.1++pr.tK u.2.1.length)∨(u.2.2=false∧u.2.1≠[]∧t=tk u.2.1))
 have hit:=Z.itr (T:=T) (e:=e) (i:=i) (l:=[44]::lit) (b:=b) (body:=p8 (Y:=Y1) w item) (lr:=fun _=>[44]::lit) (u0:=fun p=>(p,([]:List V),true)) (fun _ _=>rfl) I (pvA:=fun x t=>∃ u,x = .inl u∧u.2≠[]∧(∀ v∈u.2,ok v)∧u.2.length≤(tk u.2).length∧t=tk u.2) (K:=K) (by omega) hT hi (fun _=>rfl) (fun _ _=>rfl) (fun p=>⟨by simp,by simp,by simp,.inl ⟨rfl,by simp [aZR,pr.tK]⟩⟩) ?_ ?_ (by omega)
 ·refine Z.bind (k:=kc) hit (fun x j k' a hx=>?_) (fun x t j a1 a2 a3 a4=>?_) (aR _)
  ·cases x with
   | inl u =>
     obtain ⟨p0,dR⟩:=u
     obtain rfl:p0=PE T e j k' a:=hx
     rw[hkc]
     exact aH3 j k' a dR
   | inr u=>exact hkr u j k' a hx
  ·obtain ⟨⟨⟨p0,dR⟩,rfl,q0,q1,q2,q3⟩,a5⟩:=a4
   dsimp only at q0 q1 q2 q3
   subst q3
   refine Z.eqv (hA dR j q0 q1 q2 a1 a2) fun K q=>hkc K (q,dR)
 ·intro u j k' a hu
  obtain ⟨p0,dR,m⟩:=u
  obtain rfl:p0=PE T e j k' a:=hu
  refine ⟨.inl (PE T e j k' a,dR),j,k',a,?_,rfl⟩
  unfold p8
  rw[aMi,aA,Bool.and_false,aG (by simp)]
 ·intro u t0 j h0 hj hu hI
  obtain ⟨p0,dR,m⟩:=u
  obtain ⟨I1,I2,I3,I4⟩:=hI
  dsimp only at I1 I2 I3 I4
  cases m
  ·right
   rcases I4 with ⟨h,_⟩ | ⟨_,I4,I5⟩
   ·cases h
   show Z T e K j (fun K q=>p8 (Y:=Y1) w item K (q,dR,false)) _ _ _
   unfold p8
   refine Z.okb ?_
   simp only[Bool.and_self,aE,if_false]
   exact Z.exit hj fun p=>⟨⟨_,rfl,_,rfl,I4,I1,I3,by rw[aO];exact I5⟩,fun w h=>h⟩
  ·left
   rcases I4 with ⟨_,I5⟩ | ⟨h,_⟩
   rotate_left
   ·cases h
   refine Zx.flw (fl:=fun _=>[44]::lit) ?_ fun x t q w hw=>by
    obtain ⟨⟨u',rfl,_⟩,_⟩:=q
    exact hw
   show Z T e K j (fun K q=>p8 (Y:=Y1) w item K (q,dR,true)) _ _ _
   unfold p8
   refine Z.okb ?_
   simp only[Bool.and_self,if_true]
   have hlen:dR.length≤1500:=by omega
   have hroom:∀ v:V,Go.Dl.room ((dR.length+[v].length) * w)=true:=fun v=>room_le (by
    have:(dR.length+[v].length) * w≤1501 * 1000:=Nat.mul_le_mul (by simp;omega) hw
    omega)
   refine Z.bv (uW:=fun v t=>ok v∧t=it v) (l1:=lit) (aXQ dR j hj) (fun v j k' a=>by rw[dZ (hroom v),cB,lS];exact Bd.one rfl) (fun v t1 j1 j2 j3 q=>?_) (by omega)
   obtain ⟨q1,rfl⟩:=q
   dsimp only
   refine Z.fI (hroom v) ?_
   have hv1:1≤(it v).length:=by cases h:it v with | nil=>exact absurd h (hne v) | cons w r=>simp
   have oY:∀ x∈dR++[v],ok x:=fun x hx=>by
    rcases bH.1 hx with hx | hx
    ·exact I1 x hx
    ·rw[aS.1 hx];exact q1
   have htl:(dR++[v]).length≤(tk (dR++[v])).length:=by rw[htk];simp only[aB,aC,aD];omega
   have ht0:t0++it v=tk (dR++[v]):=by rw[I5,htk,aH]
   refine Z.accept (gR (by decide)) hT (by omega) (by omega) (fun h=>?_) (fun h=>?_)
   ·refine Z.ret (f:=fun q=>(.inr (q,dR++[v],true):((cV × List V) ⊕ Y1) ⊕ (cV × List V × Bool))) (by have:=eA h;omega) (fun _=>rfl) (fun _ _=>rfl) fun p=>?_
    refine ⟨⟨⟨_,rfl,⟨oY,?_,htl,.inl ⟨rfl,?_⟩⟩,by simp⟩,hnh v _ _ q1⟩,cl (by decide) aZS⟩
    ·rw[← aH,ht0];simp only[aB,aC,aD] at htl ⊢;omega
    ·show t0++(it v++[[44]])=tk (dR++[v])++pr.tK (dR++[v]).length
     rw[← aH,ht0]
     unfold pr.tK
     rw[aJ (by simp)]
   ·refine Z.ret (f:=fun q=>(.inr (q,dR++[v],false):((cV × List V) ⊕ Y1) ⊕ (cV × List V × Bool))) j3 (fun _=>rfl) (fun _ _=>rfl) fun p=>?_
    rw[aO]
    refine ⟨⟨⟨⟨_,rfl,⟨oY,?_,htl,.inr ⟨rfl,by simp,ht0⟩⟩,hne v⟩,by have:=hnh v [] ([44]::lit) q1;rwa [aO] at this⟩,fun w h=>aV _ h⟩,fun w h=>aT.2 (.inl (aS.1 h))⟩
    rw[ht0];exact htl
def aJ4 (K:Nat) (dR:List fO) (p:cV):Option (fO × cV):=(cX true (b5 (F66 K p 1)) default).bind fun r=>(if r=true then b5 (qV K p (Int.ofNat dR.length) 3) else some p).bind fun p=>(b5 (s8 K p)).bind fun r=>(b5 (fV K r.2 [[58]])).bind fun p=>(b5 (zT K p)).bind fun ty=>some (⟨r.1,⟨ty.1.b9,ty.1.jJ,ty.1.jM,ty.1.cA⟩,0,0,0⟩,ty.2)
theorem aPU (K:Nat) (p:cV):b5 (aFq K p)=(b5 (fV K p [[40]])).bind fun p=>(b5 (kD K p [41])).bind fun r=>if r.1=true then some ([],r.2) else (iter K (p8 (Y:=List fO × cV) 80 aJ4 K) (r.2,[],true)).bind (lpF fun u=>(b5 (fV K u.1 [[41]])).bind fun q=>some (u.2,q)):=by
 unfold aFq
 simp only[mD,aAU,aH2,dS]
 congr 1
 funext p
 congr 1
 funext r
 congr 3
 funext u
 unfold p8 aJ4
 simp only[wB,oQ,wX,qL,aDo,aDp,aAf,aDq,cH,cC,cG,cD,cS,bE,aA]
theorem aXR (hK:100000<K) (dR:List fO):∃ v,aJ4 K dR (PE T e i k a)=some (v,PE T e i k a):=by
 unfold aJ4
 simp only[cE,aDU,qG,jW hK,aAi hK,aA,aE,if_false]
 exact ⟨_,rfl⟩
def aMl (v:fO):List Bytes:=[v.cA,[58]]++pr.rY v.jN
def okP (v:fO):Prop:=pr.okV v∧Wd v.cA
theorem aXS (hs:Ts T) (hT:T.length≤1500) (hi:i≤T.length) (hK:100000<K) (hb:100001≤b) (dR:List fO):Z T e K i (fun K q=>aJ4 K dR q) (fun x t=>okP x.1∧t=aMl x.1) [[40]] b:=by
 unfold aJ4
 have rest:eV T i 1=true→Z T e K i (fun K p=>(b5 (s8 K p)).bind fun r=>(b5 (fV K r.2 [[58]])).bind fun p=>(b5 (zT K p)).bind fun ty=>some ((⟨r.1,⟨ty.1.b9,ty.1.jJ,ty.1.jM,ty.1.cA⟩,0,0,0⟩:fO),ty.2)) (fun x t=>(okP x.1∧t=aMl x.1)∧∃ w r n,t=w::r∧lx.Is 1 w n) [[40]] b:=by
  intro h1
  refine Z.name hs hT (fun v j k a=>by simp only[jW hK,aAi hK,aA];exact Bd.one rfl) fun w hw h2 hk=>?_
  dsimp only
  refine Z.want (gR (by decide)) hT (by omega) (by omega) (fun j k a=>by simp only[aAi hK,aA];exact Bd.one rfl) fun h3=>?_
  refine Z.typ hs hT (by omega) hK (by omega) (fun v j k a=>Bd.one rfl) fun ty j o1 o2 o3 o4=>?_
  dsimp only
  refine Z.val (by omega) fun p=>⟨⟨⟨⟨⟨o1,i0,i0⟩,hw⟩,?_⟩,w,_,0,rfl,hw⟩,fun w h=>h⟩
  rw[aO];rfl
 refine Z.aK3 (.inl rfl) (fun h1=>?_) (fun h1=>?_)
 ·simp only[if_true]
  exact Z.room (fun j k a=>by simp only[qG,jW hK,aAi hK,aA];exact Bd.one rfl) fun hr=>rest h1
 ·simp only[aE,if_false,aA]
  left
  dsimp only
  rw[aDV (by omega),h1]
  simp only[aE,if_false,jW hK,aAi hK,aA]
  exact Bd.one rfl
theorem aMm (l:List fO) (v:fO):pr.uR (l++[v])=pr.uR l++(pr.tK l.length++aMl v):=by
 unfold pr.uR
 rw[pr.uB]
 show _++((pr.tK (0+l.length)++[v.cA,[58]]++pr.rY v.jN)++[])=_
 rw[aO,Nat.zero_add]
 unfold aMl
 simp
theorem aPV (hK:100000<K):b5 (aFq K (PE T e i k a))=some ([],PE T e i k a):=by
 rw[aPU]
 obtain ⟨K,rfl⟩:∃ q,K=q+1:=⟨K - 1,by omega⟩
 simp only[jW hK,aA,lS,aE,if_false]
 rw[gA]
 unfold p8
 simp only[aMi,aA,Bool.and_false,aE,if_false]
 show (b5 (fV (K+1) (PE T e i k a) [[41]])).bind _=_
 rw[jW hK];rfl
theorem Z.aZU {X:Type} [Pr X] {pv:X→List Bytes→Prop} {l:List Bytes} {k:Nat→List fO × cV→Option X} (hs:Ts T) (hT:T.length≤1500) (hK:100002<K) (hb:100003<b) (j0:∀ v j k' a,Bd T e (k K (v,PE T e j k' a)))
 (hA:∀ dR j,(∀ v∈dR,pr.okV v)→dR.length≤(pr.uR dR).length→i+(pr.uR dR).length+2≤j→j≤T.length→Z T e K j (fun K q=>k K (dR,q)) (fun x t=>pv x ([40]::(pr.uR dR++([41]::t)))) l b):Z T e K i (fun K p=>(b5 (aFq K p)).bind (k K)) pv l b:=by
 have key:Z T e K i (fun K p=>b5 (aFq K p)) (fun x t=>((∀ v∈x.1,pr.okV v)∧x.1.length≤(pr.uR x.1).length)∧t=[40]::(pr.uR x.1++[[41]])) [] b:=by
  refine Z.eqv ?_ aPU
  refine Z.want (gR (by decide)) hT (by omega) (by omega) (fun j k a=>?_) fun h1=>?_
  ·obtain ⟨K,rfl⟩:∃ q,K=q+1:=⟨K - 1,by omega⟩
   simp only[lS,aA,aE,if_false]
   rw[gA]
   unfold p8
   simp only[aMi,aA,Bool.and_false,aE,if_false]
   show Bd T e ((b5 (fV (K+1) (PE T e j k a) [[41]])).bind _)
   rw[jW (by omega)]
   exact Bd.one rfl
  refine Z.accept (gR (by decide)) hT (by omega) (by omega) (fun h2=>?_) (fun h2=>?_)
  ·simp only[if_true]
   exact Z.val (by have:=eA h2;omega) fun p=>⟨⟨by simp,by simp⟩,rfl⟩
  ·simp only[aE,if_false]
   refine Z.aJS (item:=aJ4) (lit:=[[40]]) (k:=fun K u=>(b5 (fV K u.1 [[41]])).bind fun q=>some (u.2,q)) (w:=80) pr.uR aMl okP (kc:=fun K=>lpF fun u=>(b5 (fV K u.1 [[41]])).bind fun q=>some (u.2,q)) (fun _ _=>rfl) (fun y j k a h=>⟨_,j,k,a,rfl,h⟩) (by decide) (by omega) hT (by omega) (by omega) aMm rfl (fun v=>by simp [aMl]) (by decide)
    (fun v r l2 hv=>aH0 hv.2 (.inl rfl) (fun x hx=>.inr (gR ((show ∀ x∈([[44],[40]]:List Bytes),x∈uD by decide) x hx))) (by decide) _ _)
    (fun j k' a dR=>aXR (by omega) dR) (fun j k' a dR=>by simp only[jW (show 100000<K by omega),aA];exact Bd.one rfl)
    (fun dR j hj=>aXS hs hT hj (by omega) (by omega) dR) fun dR j q0 q1 q2 q3 q4=>?_
   dsimp only
   refine Z.want (gR (by decide)) hT (by omega) (by omega) (fun j k a=>Bd.one rfl) fun h3=>?_
   refine Z.val (by omega) fun p=>⟨⟨⟨⟨fun v hv=>(q1 v hv).1,q2⟩,?_⟩,?_⟩,cl (by decide) (by decide)⟩
   ·rfl
   ·obtain ⟨v,r,rfl⟩:∃ v r,dR=v::r:=by cases dR with | nil=>exact absurd rfl q0 | cons v r=>exact ⟨v,r,rfl⟩
    have:=(q1 v (by simp)).2
    exact aH0 (w:=v.cA) this (.inl rfl) (fun x hx=>.inr (gR ((show ∀ x∈([[41]]:List Bytes),x∈uD by decide) x hx))) (by decide) _ _
 exact Z.bv (uW:=fun v t=>((∀ x∈v,pr.okV x)∧v.length≤(pr.uR v).length)∧t=[40]::(pr.uR v++[[41]])) (l1:=[]) key j0 (fun n t j a1 a2 q=>by
  obtain ⟨⟨q1,q2⟩,rfl⟩:=q
  refine (hA n j q1 q2 (by simp at a1;omega) a2).mono (fun x t h=>⟨?_,lB _ _⟩) (fun w h=>h) (aR _)
  simpa using h) (aR _)
def aDx (K:Nat) (m:jT) (p:cV):Option (jT × cV):=(b5 (s8 K p)).bind fun r=>(b5 (aFq K r.2)).bind fun ps=>(b5 (kD K ps.2 [58])).bind fun c=>(if c.1=true then (b5 (zT K c.2)).bind fun ty=>some ((⟨ty.1.b9,ty.1.jJ,ty.1.jM,ty.1.cA⟩:kI),ty.2) else some ((⟨m.cI.b9,m.cI.jJ,m.cI.jM,m.cI.cA⟩:kI),c.2)).bind fun ty=>(b5 (fV K ty.2 [[59]])).bind fun q=>some (⟨r.1,m.iD,m.dP,m.eS,ps.1,⟨ty.1.b9,ty.1.jJ,ty.1.jM,ty.1.cA⟩,m.fB,m.fM⟩,q)
theorem aPA (K:Nat) (p:cV) (m:jT):b5 (F80 K p m)=(aDx K m p).bind fun r=>some (r.2,r.1):=by
 unfold F80 aDx
 simp only[mD,aAU,qL,oQ,aAf,cD,eE,bE,aA]
end
end Go.Proofs.YtidjangjfekfjaaGreatDoor.ex

namespace Go.Proofs.YtidjangjfekfjaaGreatDoor.ex
open Go Go.Dl
set_option maxRecDepth 100000
section
variable {T:List fS} {e:Int} {K i:Nat} {b:Nat} {k a:Int} {l:List Bytes}
theorem aK5 {w:Bytes} (h:Wd w) {l1 r l2:List Bytes} (h1:∀ x∈l1,x∈uD):nh l1 (w::r) l2 :=
 aH0 h (.inl rfl) (fun x hx=>.inr (gR (h1 x hx))) (fun hm=>(gR (h1 _ hm)).tk.real.1 rfl) _ _
theorem aUV (hK:100000<K) (m:jT):∃ v,aDx K m (PE T e i k a)=some (v,PE T e i k a):=by
 unfold aDx
 simp only[qG,aPV hK,lS,jW hK,aA,aE,if_false]
 exact ⟨_,rfl⟩
def aRF (t:kI):List Bytes:=if t.b9=0 then [] else [[58]]++pr.rY t
theorem wC (nm:Bytes) (ov ab fi:Bool) (ps:List fO) (ty:kI) (vs:List fO) (bd:List cU):pr.p6 ⟨nm,ov,ab,fi,ps,ty,vs,bd⟩=nm::([40]::(pr.uR ps++([41]::(aRF ty++[[59]])))):=by
 unfold pr.p6 aRF
 simp
theorem Z.head {X:Type} [Pr X] {pv:X→List Bytes→Prop} {kk:Nat→cV × jT→Option X} {ov ab fi:Bool} (hs:Ts T) (hT:T.length≤1500) (hK:100002<K) (hb:100003<b) (j0:∀ v j k' a,Bd T e (kk K (PE T e j k' a,v)))
 (hA:∀ nm ps ty j,Wd nm→(∀ v∈ps,pr.okV v)→ps.length≤(pr.uR ps).length→pr.okT ty→i+(pr.p6 ⟨nm,ov,ab,fi,ps,ty,[],[]⟩).length≤j→j≤T.length →
  Z T e K j (fun K q=>kk K (q,⟨nm,ov,ab,fi,ps,ty,[],[]⟩)) (fun x t=>pv x (pr.p6 ⟨nm,ov,ab,fi,ps,ty,[],[]⟩++t)) l b) :
 Z T e K i (fun K p=>(b5 (F80 K p ⟨[],ov,ab,fi,[],⟨0,0,0,[]⟩,[],[]⟩)).bind (kk K)) pv l b:=by
 refine Z.eqv (g:=fun K p=>(aDx K ⟨[],ov,ab,fi,[],⟨0,0,0,[]⟩,[],[]⟩ p).bind fun r=>kk K (r.2,r.1)) ?_ fun K p=>by rw[aPA,bE];rfl
 have key:Z T e K i (fun K p=>aDx K ⟨[],ov,ab,fi,[],⟨0,0,0,[]⟩,[],[]⟩ p) (fun x t=>(∃ nm ps ty,x.1=⟨nm,ov,ab,fi,ps,ty,[],[]⟩∧Wd nm∧(∀ v∈ps,pr.okV v)∧ps.length≤(pr.uR ps).length∧pr.okT ty)∧t=pr.p6 x.1) [] b:=by
  unfold aDx
  refine Z.name hs hT (fun v j k a=>by simp only[aPV (show 100000<K by omega),lS,jW (show 100000<K by omega),aA,aE,if_false];exact Bd.one rfl) fun nm hnm h1 hk=>?_
  dsimp only
  refine Z.aZU hs hT (by omega) (by omega) (fun v j k a=>by simp only[lS,jW (show 100000<K by omega),aA,aE,if_false];exact Bd.one rfl) fun ps j o1 o2 o3 o4=>?_
  dsimp only
  refine Z.accept (gR (by decide)) hT (by omega) (by omega) (fun h=>?_) (fun h=>?_)
  ·simp only[if_true,bE,aA]
   refine Z.typ hs hT (by have:=eA h;omega) (by omega) (by omega) (fun v j k a=>by simp only[jW (show 100000<K by omega),aA];exact Bd.one rfl) fun ty j2 t1 t2 t3 t4=>?_
   dsimp only
   refine Z.want (gR (by decide)) hT (by omega) (by omega) (fun j k a=>Bd.one rfl) fun h3=>?_
   refine Z.val (by omega) fun p=>⟨⟨⟨nm,ps,ty,rfl,hnm,o1,o2,t1⟩,?_⟩,cl (by decide) (by decide)⟩
   rw[wC]
   unfold aRF
   rw[aG t2]
   simp
  ·simp only[aE,if_false,aA]
   refine Z.want (gR (by decide)) hT (by omega) (by omega) (fun j k a=>Bd.one rfl) fun h3=>?_
   refine Z.val (by omega) fun p=>⟨⟨⟨nm,ps,⟨0,0,0,[]⟩,rfl,hnm,o1,o2,i0,i0⟩,?_⟩,cl (by decide) (by decide)⟩
   rw[wC]
   unfold aRF
   rw[aJ rfl]
   simp
 exact Z.bv (uW:=fun v t=>(∃ nm ps ty,v=(⟨nm,ov,ab,fi,ps,ty,[],[]⟩:jT)∧Wd nm∧(∀ v∈ps,pr.okV v)∧ps.length≤(pr.uR ps).length∧pr.okT ty)∧t=pr.p6 v) (l1:=[]) (k:=fun K r=>kk K (r.2,r.1)) key (fun v j k a=>j0 v j k a) (fun v t j a1 a2 q=>by
  obtain ⟨⟨nm,ps,ty,rfl,q1,q2,q3,q4⟩,rfl⟩:=q
  exact (hA nm ps ty j q1 q2 q3 q4 a1 a2).mono (fun x t h=>⟨h,lB _ _⟩) (fun w h=>h) (aR _)) (aR _)
def okZ (s:cU) (t:List Bytes):Prop:=pr.okS s∧pr.szS s≤20 * t.length
theorem aJV {x:dM} (h:Sx x):pr.yS [x]:=by rw[pr.yS,pr.yS];exact ⟨aFQ h,trivial⟩
theorem aUR {x y:dM} (h:Sx x) (h2:Sx y):pr.yS [x,y]:=by rw[pr.yS,pr.yS,pr.yS];exact ⟨aFQ h,aFQ h2,trivial⟩
theorem aFU (x:dM):pr.sO [x]=pr.sz x:=by rw[pr.sO,pr.sO];omega
theorem aUS (x y:dM):pr.sO [x,y]=pr.sz x+pr.sz y:=by rw[pr.sO,aFU]
theorem oS:pr.nF []:=by rw[pr.nF];trivial
theorem qA:pr.k8 []=0:=by rw[pr.k8]
theorem aJY {w:Bytes} (h:Wd w):w.length≤13:=aNn h
theorem mY:pr.z8 []:=fun x hx=>by cases hx
theorem at1 (x:dM):pr.tA (pr.lI [x]) 0=pr.gC x:=rfl
theorem aUT (x y:dM):pr.tA (pr.lI [x,y]) 0=pr.gC x:=rfl
theorem aUU (x y:dM):pr.tA (pr.lI [x,y]) 1=pr.gC y:=rfl
theorem rU (k n:Int) (nm:Bytes) (ex:List dM) (lb:List (List Int)) (bl:List (List cU)):pr.oG ⟨k,n,nm,ex,lb,bl⟩=pr.gZ k n nm (pr.lI ex) lb (pr.qK bl)++[[59]]:=pr.aOR _
theorem nN {k n:Int} {nm:Bytes} {ex:List dM} {lb:List (List Int)} {bl:List (List cU)} (h1:zZ n) (h2:pr.yS ex) (h3:pr.z8 lb) (h4:pr.nF bl):pr.okS ⟨k,n,nm,ex,lb,bl⟩:=(pr.aOS _).2 ⟨h1,h2,h3,h4⟩
theorem nO (k n:Int) (nm:Bytes) (ex:List dM) (lb:List (List Int)) (bl:List (List cU)):pr.szS ⟨k,n,nm,ex,lb,bl⟩=1+nm.length+pr.sO ex+pr.p7 lb+pr.k8 bl:=pr.aFI _
theorem mZ:pr.p7 []=0:=rfl
theorem aRm (hs:Ts T) (hT:T.length≤1500) (hi:i≤T.length) (hK:100002<K) (hb:100003<b):Z T e K i (fun K p=>b5 (aNr K p)) (fun x t=>(okZ x.1 t∧∃ w r,t=w::r∧Wd w)∧t++[[59]]=pr.oG x.1) zN b:=by
 have gU:100000<K:=by omega
 unfold aNr
 simp only[wB,oQ,mD,wX,qL,aAU,cH,cC,cG,cD,cS,dS,eE,aA]
 refine Z.name hs hT (fun v j k a=>by simp only[lS,cE,qF,aM5,aA,aE,if_false];exact Bd.one rfl) fun nm hnm h1 hk=>?_
 have hnl:=aJY hnm
 dsimp only
 refine Z.accept (gR (by decide)) hT (by omega) (by omega) (fun h=>?_) (fun h=>?_)
 ·simp only[if_true]
  refine Z.expr hs hT (by have:=eA h;omega) gU (by omega) (fun v j k a=>Bd.one rfl) fun v j v1 v2 v3 v4=>?_
  refine Z.val v4 fun p=>⟨⟨⟨⟨nN i0 (aJV v1) mY oS,?_⟩,nm,_,rfl,hnm⟩,?_⟩,fun w h=>h⟩
  ·show pr.szS ⟨1,0,nm,[v],[],[]⟩≤_
   rw[nO,aFU,mZ,qA];simp;omega
  ·show _=pr.oG ⟨1,0,nm,[v],[],[]⟩
   rw[rU]
   unfold pr.gZ
   rw[aJ rfl,at1];simp
 simp only[aE,if_false]
 refine Z.accept (gR (by decide)) hT (by omega) (by omega) (fun h2=>?_) (fun h2=>?_)
 ·simp only[if_true]
  refine Z.expr hs hT (by have:=eA h2;omega) gU (by omega) (fun v j k a=>Bd.one rfl) fun v j v1 v2 v3 v4=>?_
  refine Z.val v4 fun p=>⟨⟨⟨⟨⟨nN i0 (aJV v1) mY oS,?_⟩,nm,_,rfl,hnm⟩,?_⟩,cl (by decide) (by decide)⟩,fun w h=>h⟩
  ·show pr.szS ⟨3,0,nm,[v],[],[]⟩≤_
   rw[nO,aFU,mZ,qA];simp;omega
  ·show _=pr.oG ⟨3,0,nm,[v],[],[]⟩
   rw[rU]
   unfold pr.gZ
   rw[aG (by decide),aG (by decide),aJ rfl,at1];simp
 simp only[aE,if_false]
 refine Z.accept (gR (by decide)) hT (by omega) (by omega) (fun h3=>?_) (fun h3=>?_)
 ·simp only[if_true]
  refine Z.expr hs hT (by have:=eA h3;omega) gU (by omega) (fun v j k a=>by simp only[we2 gU,aD5 gU,aA];exact Bd.one rfl) fun v j v1 v2 v3 v4=>?_
  dsimp only
  refine Z.aH6 (gR (by decide)) (gR (by decide)) hT (by omega) (by omega) (fun j k a=>by simp only[aD5 gU,aA];exact Bd.one rfl) fun h4=>?_
  refine Z.expr hs hT (by omega) gU (by omega) (fun v j k a=>Bd.one rfl) fun y j2 y1 y2 y3 y4=>?_
  refine Z.val y4 fun p=>⟨⟨⟨⟨⟨⟨⟨nN i0 (aUR v1 y1) mY oS,?_⟩,nm,_,rfl,hnm⟩,?_⟩,cl (by decide) (by decide)⟩,cl (by decide) (by decide)⟩,cl (by decide) (by decide)⟩,fun w h=>h⟩
  ·show pr.szS ⟨2,0,nm,[v,y],[],[]⟩≤_
   rw[nO,aUS,mZ,qA];simp;omega
  ·show _=pr.oG ⟨2,0,nm,[v,y],[],[]⟩
   rw[rU]
   unfold pr.gZ
   rw[aG (by decide),aJ rfl,aUT,aUU];simp
 simp only[aE,if_false]
 refine Z.isb (fun w hw=>gR (by revert w;decide)) (by decide) (by omega) (by omega) (fun h4=>?_) (fun h4=>?_)
 ·simp only[if_true]
  refine Z.bv (uW:=fun v t=>∃ wh ag,v=(⟨13,0,nm,wh,ag⟩:dM)∧Wd wh∧(∀ y∈ag,Sx y)∧ag.length≤3∧t=[[46],wh,[40]]++jE ag++[[41]]) (l1:=[]) (aIe (b:=100002) hs hT (by have:=eA h4;omega) (by omega) (by omega) 0 nm) (fun v j k a=>Bd.one rfl) (fun v t1 j j1 j2 q=>?_) (by omega)
  obtain ⟨wh,ag,rfl,q1,q2,q3,rfl⟩:=q
  have hx:Sx ⟨13,0,nm,wh,ag⟩:=.call nm wh ag hnm q1 q2 q3
  have hz:=aRC hx
  rw[tL] at hz
  refine Z.val j2 fun p=>⟨⟨⟨⟨⟨⟨⟨⟨nN i0 (aJV hx) mY oS,?_⟩,nm,_,rfl,hnm⟩,?_⟩,cl (by decide) (by decide)⟩,cl (by decide) (by decide)⟩,cl (by decide) (by decide)⟩,?_⟩,lB _ _⟩
  ·show pr.szS ⟨4,0,[],[⟨13,0,nm,wh,ag⟩],[],[]⟩≤_
   rw[nO,aFU,mZ,qA];simp at hz ⊢;omega
  ·show _=pr.oG ⟨4,0,[],[⟨13,0,nm,wh,ag⟩],[],[]⟩
   rw[rU]
   unfold pr.gZ
   rw[aG (by decide),aG (by decide),aG (by decide),aJ rfl,at1,tL];simp
  ·exact ⟨[46],_,rfl,by simp⟩
 simp only[aE,if_false]
 left
 dsimp only
 rw[p20]
 exact Bd.one rfl
end
end Go.Proofs.YtidjangjfekfjaaGreatDoor.ex

namespace Go.Proofs.YtidjangjfekfjaaGreatDoor.ex
open Go Go.Dl
set_option maxRecDepth 100000
abbrev aFV:List Bytes:=[[84,72,73,83],[83,85,80,69,82],[73,70],[67,65,83,69],[87,72,73,76,69],[70,79,82],[82,69,84,85,82,78],[69,88,73,84],[83,84,69,80]]
abbrev uT:List Bytes:=[1]::aFV
def beg (T:List fS) (i:Nat):Bool:=eV T i 1 || cW T i aFV
def rT (T:List fS) (i:Nat):Bool:=cW T i [[45]] || eV T i 3
def hd (t:List Bytes):Prop:=∃ w r,t=w::r∧(Wd w∨w∈aFV)
section
variable {X:Type} [Pr X] {pv:X→List Bytes→Prop} {T:List fS} {e:Int} {K i:Nat} {b:Nat} {k a:Int} {l:List Bytes}
theorem aMn (hK:100<K):b5 (aBv K (P T e i))=some (beg T i):=by
 unfold aBv beg
 rw[p69 (by decide),aA]
 cases eV T i 1
 ·simp only[bA,cE,p29 (l:=aFV) (by decide) hK,aA,bT];rfl
 ·rfl
theorem aJR (hK:100<K):b5 (zQ K (P T e i))=some (rT T i):=by
 unfold zQ rT
 rw[p29 (by decide) hK,aA]
 cases cW T i [[45]]
 ·simp only[bA,cE,p69 (q:=3) (by decide),aA,bT];rfl
 ·rfl
theorem aUP (h:beg T i=true):i<T.length:=by
 unfold beg at h
 rw[bK] at h
 rcases h with h | h
 ·exact kK h
 ·exact eA h
theorem aUJ:∀ w∈aFV,Kw w:=fun w hw=>gR ((show ∀ x∈aFV,x∈uD by decide) w hw)
theorem Fo.beg {l:List Bytes} (h:Fo l T i) (hl:∀ w∈uT,w∈l):beg T i=false:=by
 unfold ex.beg
 rw[h.2.1 (hl _ (by simp)),gV h.1 (fun x hx=>hl x (aV _ hx))];rfl
theorem Z.aXT {fl:X→List Bytes} {kk:Nat→cV→Bool→Option X} (hK:1000<K) (hb:1000<b) (hA:beg T i=true→Zx T e K i (fun K p=>kk K p true) (fun x t=>pv x t∧hd t) fl b)
 (hB:beg T i=false→Zx T e K i (fun K p=>kk K p false) (fun x t=>pv x t∧nh uT t (fl x)) fl b):Zx T e K i (fun K p=>(cX true (b5 (aBv K p)) default).bind (kk K p)) pv fl b:=by
 cases h:beg T i
 ·refine Z.step0 (hB h) (by (try dsimp only);rw[cE,aMn (by omega),h];rfl) fun _ t T' e' i' K' g a1 a2 a3 a4=>?_
  try dsimp only
  rw[cE,aMn (by omega),(wA g a2 a3).beg (fun w h=>h)];rfl
 ·refine Z.step0 (hA h) (by (try dsimp only);rw[cE,aMn (by omega),h];rfl) fun _ t T' e' i' K' g a1 a2 a3 a4=>?_
  obtain ⟨w,r,rfl,hm⟩:=g
  have hw:Tw T' i' w:=a2.1
  have:beg T' i'=true:=by
   unfold beg
   rcases hm with hm | hm
   ·rw[hw.eV hm];rfl
   ·rw[hw.cW (aUJ w hm),decide_eq_true hm,Bool.or_true]
  try dsimp only
  rw[cE,aMn (by omega),this];rfl
def sZ (d:Int) (K:Nat) (u:cV × List cU):Option (((cV × List cU) ⊕ (List cU × cV)) ⊕ (cV × List cU)):=(cX true (b5 (aBv K u.1)) default).bind fun r45=>if r45=true then (b5 (qV K u.1 (Int.ofNat u.2.length) 24)).bind fun yH=>(b5 (aAL K yH d)).bind fun qZ=>fI [room ((u.2.length+[qZ.1].length) * 104)] (some (.inr (qZ.2,u.2++[qZ.1]))) else some (.inl (.inl (u.1,u.2)))
theorem aBV (K:Nat) (p:cV) (d:Int) (ends:List Bytes):b5 (rC (K+1) p d ends)=(cX true (b5 (aBv K p)) default).bind fun r1=>(cX (!r1) (b5 (oF K p ends)) default).bind fun r2=>(cX (!(r1 || r2)) (b5 (F50 K ends [48])) default).bind fun r3=>(cX (r3 && (!(r1 || r2))) (b5 (zQ K p)) default).bind fun r4=>(if ((r1 || r2) || (r3 && r4))=true then b5 (F36 K p d) else some p).bind fun u6=>(iter K (sZ d K) (u6,[])).bind (lpF fun u=>some (u.2,u.1)):=by
 rw[rC]
 simp only[mD,aAU,qL,oQ,aAf,aH2,cD,dS,bE,aA]
 have hb:(fun (wK:cV × (List cU))=>(cX true (b5 (aBv K wK.1)) default).bind fun r45=>(if r45=true then (cO (cN ((b5 (qV K wK.1 (Int.ofNat wK.2.length) 24)).bind (fun yH=>((b5 (aAL K yH d)).bind (fun qZ=>(fI [room ((wK.2.length+([qZ.1].length)) * 104)] (some (.inr (qZ.2,(wK.2++[qZ.1])))))))))) (fun (u48:cV × (List cU))=>(some (.inr (u48.1,u48.2))))) else (some (.inl (Sum.inl (wK.1,wK.2)))):Option (((cV × List cU) ⊕ (List cU × cV)) ⊕ (cV × List cU))))=sZ d K:=by
  funext u
  unfold sZ
  simp only[wB,oQ,wX,qL,aDo,aDp,aAf,aDq,cH,cC,cG,cD,cS,bE,aA]
 rw[← hb]
def asks (T:List fS) (i:Nat) (ends:List Bytes):Bool:=(beg T i || cW T i ends) || (decide ([48]∈ends) && rT T i)
theorem aPW {ends:List Bytes} (hK:100<K) (hl:ends.length≤100) (d:Int):b5 (rC (K+1) (P T e i) d ends)=(if asks T i ends=true then b5 (F36 K (P T e i) d) else some (P T e i)).bind fun u6=>(iter K (sZ d K) (u6,[])).bind (lpF fun u=>some (u.2,u.1)):=by
 rw[aBV,cE,aMn hK,aA]
 unfold asks
 cases hb:beg T i
 ·simp only[bA,cE,p29 hl hK,aA,bT]
  cases he:cW T i ends
  ·simp only[bA,cE,aIO K ends [48] hl hK,aA,bT,Bool.and_true]
   cases hz:decide ([48]∈ends)
   ·rfl
   ·simp only[cE,aJR hK,aA,bM]
  ·rfl
 ·rfl
theorem p9 (hK:100000<K) (d:Int) (ends:List Bytes) (hl:ends.length≤100):b5 (rC K (PE T e i k a) d ends)=some ([],PE T e i k a):=by
 obtain ⟨K,rfl⟩:∃ q,K=q+2:=⟨K - 2,by omega⟩
 rw[aBV,cE,aLc]
 simp only[aA,bA,cE,qF,Bool.or_self,aIO (K+1) ends [48] hl (by omega),Bool.and_true]
 have aZV:∀ c:Bool,cX c (b5 (zQ (K+1) (PE T e i k a))) default=some false:=fun c=>by cases c <;> rw[aPt] <;> rfl
 rw[aZV]
 simp only[aA,Bool.and_false,Bool.or_false,aE,if_false]
 rw[gA]
 unfold sZ
 rw[cE,aLc]
 rfl
def pvL (x:List cU) (t:List Bytes):Prop:=(pr.oE x∧pr.kS x≤20 * t.length∧∀ s∈x,hd (pr.oG s))∧t=pr.iK x
theorem aMo (l:List cU) (s:cU):pr.iK (l++[s])=pr.iK l++pr.oG s:=by
 unfold pr.iK
 simp
theorem aRG {l:List cU} (h:∀ s∈l,pr.okS s):pr.oE l:=by
 induction l with
 | nil=>rw[pr.oE];trivial
 | cons x r ih=>rw[pr.oE];exact ⟨h x (by simp),ih fun s hs=>h s (aV _ hs)⟩
theorem aRH {l:List cU} (h:∀ s∈l,okZ s (pr.oG s)):pr.kS l≤20 * (pr.iK l).length:=by
 induction l with
 | nil=>rw[pr.kS];omega
 | cons x r ih =>
   have:=ih fun s hs=>h s (aV _ hs)
   have h1:=(h x (by simp)).2
   rw[pr.kS]
   have:(pr.iK (x::r)).length=(pr.oG x).length+(pr.iK r).length:=by unfold pr.iK;simp
   omega
def SP (d:Int) (B:Nat):Prop:=∀ (T:List fS) (e:Int) (K i:Nat),Ts T→T.length≤1500→B≤K→K≤1000000000→beg T i=true→Z T e K i (fun K p=>b5 (aAL K p d)) (fun x t=>(okZ x.1 t∧hd t)∧t=pr.oG x.1) [] B
def SE (B:Nat):Prop:=∀ (T:List fS) (e:Int) (K i:Nat) (k a d:Int),B≤K→Bd T e (b5 (aAL K (PE T e i k a) d))
def LP (d:Int) (B:Nat):Prop:=∀ (T:List fS) (e:Int) (K i:Nat) (ends:List Bytes),Ts T→T.length≤1500→i≤T.length→B≤K→K≤1000000000→ends.length≤100→Z T e K i (fun K p=>b5 (rC K p d ends)) (fun x t=>pvL x.1 t) uT B
theorem aXF {d:Int} {B:Nat} (hB:100001<B) (rW:d≤6) (hS:SP d B) (hE:SE B):LP d (B+1):=by
 intro T e K i ends hs hT hi hK hKm hl
 obtain ⟨K,rfl⟩:∃ q,K=q+1:=⟨K - 1,by omega⟩
 refine Z.succ (g:=fun K p=>b5 (rC (K+1) p d ends)) (fun _ _=>rfl) ?_
 have hn:∀ (T:List fS) (e:Int) (i K:Nat),100<K→b5 (rC (K+1) (P T e i) d ends)=(iter K (sZ d K) (P T e i,[])).bind (lpF fun u=>some (u.2,u.1)):=fun T e i K hK=>by
  rw[aPW hK hl]
  have:b5 (F36 K (P T e i) d)=some (P T e i):=by
   unfold F36
   rw[aG (by simp;omega)];rfl
  rw[this]
  split <;> rfl
 refine Z.step0 (Q:=fun _ _=>True) (g':=fun K p=>(iter K (sZ d K) (p,[])).bind (lpF fun u=>some (u.2,u.1))) ?_ (hn T e i K (by omega)) fun _ t T' e' i' K' _ a1 a2 a3 a4=>hn T' e' i' K' (by omega)
 refine Zx.mono (uW:=fun (x:List cU × cV) t=>((∀ s∈x.1,okZ s (pr.oG s)∧hd (pr.oG s))∧True)∧t=pr.iK x.1) ?_ (fun x t q=>⟨⟨⟨aRG fun s hs=>(q.1.1 s hs).1.1,by rw[q.2];exact aRH fun s hs=>(q.1.1 s hs).1,fun s hs=>(q.1.1 s hs).2⟩,q.2⟩,trivial⟩) (fun w h=>h) (aR _)
 refine Z.aFX (body:=sZ d) (k:=fun _ u=>some (u.2,u.1)) pr.iK (fun s=>okZ s (pr.oG s)∧hd (pr.oG s)) uT (by omega) hT hi (by omega) rfl (fun j k' a dR=>?_) (fun j k' a dR=>Bd.one rfl) (fun dR j hj h1 h2=>?_) fun dR j h1 h2 h3 h4=>?_
 ·unfold sZ
  rw[cE,aLc];rfl
 ·cases hv:beg T j
  ·refine .inr ?_
   unfold sZ
   refine Z.aXT (by omega) (by omega) (fun h2=>by rw[hv] at h2;cases h2) (fun h2=>?_)
   simp only[aE,if_false]
   exact Z.exit hj fun p=>⟨⟨p,rfl,rfl⟩,fun w h=>h⟩
  ·refine .inl ?_
   unfold sZ
   refine Z.aXT (by omega) (by omega) (fun h2=>?_) (fun h2=>by rw[hv] at h2;cases h2)
   simp only[if_true]
   refine Z.room (fun j k a=>Bd.bv (hE T e K j k a d (by omega)) fun v j k a=>by rw[dZ (room_le (by simp;omega)),cB];exact Bd.one rfl) fun hr=>?_
   refine Z.bv (uW:=fun v t=>(okZ v t∧hd t)∧t=pr.oG v) (l1:=[]) (hS T e K j hs hT (by omega) (by omega) h2) (fun v j k a=>by
    rw[dZ (room_le (by simp;omega)),cB];exact Bd.one rfl) (fun v t1 j1 j2 j3 q=>?_) (by omega)
   obtain ⟨⟨q1,q2⟩,rfl⟩:=q
   dsimp only
   refine Z.fI (room_le (by simp;omega)) ?_
   refine Z.more j3 fun p=>?_
   rw[aO]
   refine ⟨⟨⟨v,p,rfl,⟨q1,q2⟩,aMo dR v,?_⟩,q2⟩,lB _ _⟩
   obtain ⟨w,r,hw,_⟩:=q2
   rw[hw];simp
 ·exact Z.val h4 fun p=>⟨⟨⟨h1,trivial⟩,by rw[aO]⟩,fun w h=>h⟩
end
end Go.Proofs.YtidjangjfekfjaaGreatDoor.ex

namespace Go.Proofs.YtidjangjfekfjaaGreatDoor.ex
open Go Go.Dl
set_option maxRecDepth 100000
section
variable {X:Type} [Pr X] {pv:X→List Bytes→Prop} {T:List fS} {e:Int} {K i:Nat} {b:Nat} {k a:Int} {l:List Bytes}
theorem aPw (hK:100002<K) {ends:List Bytes} (hl:ends.length≤100):Bd T e (b5 (rC K (P T e i) 7 ends))∨(b5 (rC K (P T e i) 7 ends)=some ([],P T e i)∧cW T i ends=false∧([48]∈ends→rT T i=false)):=by
 obtain ⟨K,rfl⟩:∃ q,K=q+2:=⟨K - 2,by omega⟩
 rw[aPW (by omega) hl]
 cases ha:asks T i ends
 ·right
  unfold asks at ha
  rw[Bool.or_eq_false_iff,Bool.or_eq_false_iff] at ha
  obtain ⟨⟨h1,h2⟩,h3⟩:=ha
  refine ⟨?_,h2,fun g=>by rw[decide_eq_true g,bM] at h3;exact h3⟩
  simp only[aE,if_false,aA]
  rw[gA]
  unfold sZ
  rw[cE,aMn (by omega),h1]
  rfl
 ·left
  have:b5 (F36 (K+1) (P T e i) 7)=some (PE T e i 4 (tok T e i).kQ):=by
   unfold F36
   rw[aJ (by decide),p20];rfl
  rw[aJ rfl,this,aA,gA]
  unfold sZ
  rw[cE,aLc]
  exact Bd.one rfl
def Sub (d:Int) (B:Nat):Prop:=(d≤5∧LP (d+1) B)∨d=6
theorem Z.list {fl:X→List Bytes} {d:Int} {B:Nat} {ends:List Bytes} {kk:Nat→List cU × cV→Option X} (hsub:Sub d B) (hd:1≤d) (hs:Ts T) (hT:T.length≤1500) (hi:i≤T.length) (hB:100002<B) (hK:B≤K) (hKm:K≤1000000000) (hb:B≤b) (hl:ends.length≤100) (j0:∀ v j k' a,Bd T e (kk K (v,PE T e j k' a)))
 (hA:∀ dR j,pr.oE dR→pr.kS dR≤20 * (pr.iK dR).length→i+(pr.iK dR).length≤j→j≤T.length→Zx T e K j (fun K q=>kk K (dR,q)) (fun x t=>pv x (pr.iK dR++t)∧nh uT t (fl x)) fl b)
 (hD:d=6→cW T i ends=false→([48]∈ends→rT T i=false)→Bd T e (kk K ([],P T e i))):Zx T e K i (fun K p=>(b5 (rC K p (IntKind.i64.wrap (d+1)) ends)).bind (kk K)) pv fl b:=by
 have hw:IntKind.i64.wrap (d+1)=d+1:=by
  rcases hsub with ⟨h,_⟩ | h
  ·rw[wrap64 (by omega) (by omega)]
  ·rw[wrap64 (by omega) (by omega)]
 rw[hw]
 rcases hsub with ⟨h,hP⟩ | rfl
 ·refine Z.bv (uW:=fun v t=>pvL v t) (l1:=uT) (hP T e K i ends hs hT hi hK hKm hl) j0 (fun dR t j a1 a2 q=>?_) hb
  obtain ⟨⟨q1,q2,_⟩,rfl⟩:=q
  exact hA dR j q1 q2 a1 a2
 ·left
  rcases aPw (T:=T) (e:=e) (i:=i) (K:=K) (by omega) hl with h | ⟨h,h2,h3⟩
  ·exact Bd.bv h j0
  ·show Bd T e ((b5 (rC K (P T e i) 7 ends)).bind (kk K))
   rw[h];exact hD rfl h2 h3
theorem aJW {l:List cU} (h:pr.oE l):pr.nF [l]:=by rw[pr.nF,pr.nF];exact ⟨h,trivial⟩
theorem aJX (l:List cU):pr.k8 [l]=1+pr.kS l:=by rw[pr.k8,pr.k8];omega
theorem aXE (l:List cU):pr.qJ (pr.qK [l]) 0=pr.iK l:=rfl
theorem aUQ {d:Int} {B:Nat} (hsub:Sub d B) (hd:1≤d) (hs:Ts T) (hT:T.length≤1500) (hB:100004<B) (hK:B+1≤K) (hKm:K≤1000000000):Z T e K i (fun K p=>b5 (aI2 K p d)) (fun x t=>okZ x.1 t∧[70,79,82]::(t++[[59]])=pr.oG x.1) [] (B+1):=by
 obtain ⟨K,rfl⟩:∃ q,K=q+1:=⟨K - 1,by omega⟩
 have gU:100000<K:=by omega
 have hK2:100002<K:=by omega
 refine Z.succ (g:=fun K p=>b5 (aI2 (K+1) p d)) (fun _ _=>rfl) ?_
 have le1:∀ j k a,b5 (rC K (PE T e j k a) (IntKind.i64.wrap (d+1)) [[69,78,68,95,70,79,82]])=some ([],PE T e j k a):=fun j k a=>p9 gU _ _ (by simp)
 simp only[aI2,mD,dS]
 refine Z.name hs hT (fun v j k a=>by simp only[jW gU,aD5 gU,xJ,le1,aA];exact Bd.one rfl) fun nm hnm h1 hk=>?_
 have hnl:=aJY hnm
 dsimp only
 refine Z.want (gR (by decide)) hT (by omega) (by omega) (fun j k a=>by simp only[jW gU,aD5 gU,xJ,le1,aA];exact Bd.one rfl) fun h2=>?_
 refine Z.expr hs hT (by omega) gU (by omega) (fun v j k a=>by simp only[jW gU,aD5 gU,xJ,le1,aA];exact Bd.one rfl) fun x j1 x1 x2 x3 x4=>?_
 dsimp only
 refine Z.want (gR (by decide)) hT (by omega) (by omega) (fun j k a=>by simp only[jW gU,aD5 gU,xJ,le1,aA];exact Bd.one rfl) fun h3=>?_
 refine Z.expr hs hT (by omega) gU (by omega) (fun v j k a=>by simp only[jW gU,xJ,le1,aA];exact Bd.one rfl) fun y j2 y1 y2 y3 y4=>?_
 dsimp only
 refine Z.want (gR (by decide)) hT (by omega) (by omega) (fun j k a=>by simp only[jW gU,xJ,le1,aA];exact Bd.one rfl) fun h4=>?_
 refine Z.int hs hT (by omega) (by omega) (fun v j k a=>by simp only[jW gU,le1,aA];exact Bd.one rfl) fun n j3 n1 n2 n3 n4=>?_
 dsimp only
 refine Z.want (gR (by decide)) hT (by omega) (by omega) (fun j k a=>by simp only[jW gU,le1,aA];exact Bd.one rfl) fun h5=>?_
 refine Z.list hsub hd hs hT (by omega) (by omega) (by omega) (by omega) (aR _) (by simp) (fun v j k a=>by simp only[jW gU,aA];exact Bd.one rfl) (fun dR j4 l1 l2 l3 l4=>?_) (fun _ h _=>by
  dsimp only
  rw[aDX (by omega) (by omega) h];exact Bd.one rfl)
 dsimp only
 refine Z.want (gR (by decide)) hT (by omega) (by omega) (fun j k a=>Bd.one rfl) fun h6=>?_
 refine Z.val (by omega) fun p=>⟨⟨⟨⟨⟨nN (aFT n1 n2) (aUR x1 y1) mY (aJW l1),?_⟩,?_⟩,cl (by decide) (by decide)⟩,cl (by decide) (by decide)⟩,cl (by decide) (by decide)⟩
 ·show pr.szS ⟨8,n,nm,[x,y],[],[dR]⟩≤_
  rw[nO,aUS,mZ,aJX];simp;omega
 ·show _=pr.oG ⟨8,n,nm,[x,y],[],[dR]⟩
  rw[rU]
  unfold pr.gZ
  rw[aG (by decide),aG (by decide),aG (by decide),aG (by decide),aG (by decide),aG (by decide),aG (by decide),aJ rfl,aUT,aUU,aXE]
  simp
def aAd (l:List cU):List Bytes:=if l=[] then [] else [[69,76,83,69]]++pr.iK l
theorem aDs (hK:100002<K) (d:Int) (w:Bytes):b5 (lY K (PE T e i k a) d w)=some ([],PE T e i k a):=by
 obtain ⟨K,rfl⟩:∃ q,K=q+1:=⟨K - 1,by omega⟩
 rw[lY]
 simp only[mD,aAU,oQ,qL,cD,dS,lS,aE,if_false,jW (show 100000<K by omega),aA]
theorem aPx {d:Int} {B:Nat} {w:Bytes} (hw:w∈([[69,78,68,95,73,70],[69,78,68,95,67,65,83,69]]:List Bytes)) (hsub:Sub d B) (hd:1≤d) (hs:Ts T) (hT:T.length≤1500) (hi:i≤T.length) (hB:100004<B) (hK:B+1≤K) (hKm:K≤1000000000) :
 Z T e K i (fun K p=>b5 (lY K p d w)) (fun x t=>(pr.oE x.1∧pr.kS x.1≤20 * (aAd x.1).length)∧t=aAd x.1++[w]) [] (B+1):=by
 obtain ⟨K,rfl⟩:∃ q,K=q+1:=⟨K - 1,by omega⟩
 have hkw:Kw w:=gR ((show ∀ x∈([[69,78,68,95,73,70],[69,78,68,95,67,65,83,69]]:List Bytes),x∈uD by decide) w hw)
 have hne:w ∉ ([[69,76,83,69]]:List Bytes)∧w ∉ uT:=(show ∀ x∈([[69,78,68,95,73,70],[69,78,68,95,67,65,83,69]]:List Bytes),x ∉ ([[69,76,83,69]]:List Bytes)∧x ∉ uT by decide) w hw
 have gU:100000<K:=by omega
 refine Z.succ (g:=fun K p=>b5 (lY (K+1) p d w)) (fun _ _=>rfl) ?_
 simp only[lY,mD,aAU,oQ,qL,cD,dS]
 cases h:cW T i [[69,76,83,69]]
 ·refine Z.accept (gR (by decide)) hT (by omega) (by omega) (fun h2=>by rw[h] at h2;cases h2) (fun h2=>?_)
  simp only[aE,if_false,cD,dS]
  refine Z.want hkw hT (by omega) (by omega) (fun j k a=>Bd.one rfl) fun h3=>?_
  refine Z.val (by omega) fun p=>⟨⟨⟨by show pr.oE [];rw[pr.oE];trivial,by show pr.kS []≤_;rw[pr.kS];omega⟩,rfl⟩,aAc hkw hne.1 _ _⟩
 ·have key:Z T e K (i+1) (fun K q=>(b5 (rC K q (IntKind.i64.wrap (d+1)) [w])).bind fun r4=>(b5 (fV K r4.2 [w])).bind fun r5=>some (r4.1,r5)) (fun (x:List cU × cV) t=>(pr.oE x.1∧pr.kS x.1≤20 * (pr.iK x.1).length)∧t=pr.iK x.1++[w]) [] B:=by
   refine Z.list hsub hd hs hT (by have:=eA h;omega) (by omega) (by omega) (by omega) (aR _) (by simp) (fun v j k a=>by simp only[jW gU,aA];exact Bd.one rfl) (fun dR j4 l1 l2 l3 l4=>?_) (fun _ h _=>by
    dsimp only
    rw[aDX (by omega) (by omega) h];exact Bd.one rfl)
   dsimp only
   refine Z.want hkw hT (by omega) (by omega) (fun j k a=>Bd.one rfl) fun h6=>?_
   exact Z.val (by omega) fun p=>⟨⟨⟨l1,l2⟩,rfl⟩,aAc hkw hne.2 _ _⟩
  have hacc:∀ (T:List fS) (e:Int) (i K:Nat),T.length≤100000→100<K→cW T i [[69,76,83,69]]=true→((b5 (kD K (P T e i) [69,76,83,69])).bind fun r1=>if r1.1=true then (b5 (rC K r1.2 (IntKind.i64.wrap (d+1)) [w])).bind fun r4=>(b5 (fV K r4.2 [w])).bind fun r5=>some (r4.1,r5) else (b5 (fV K r1.2 [w])).bind fun r5=>some ([],r5))=(b5 (rC K (P T e (i+1)) (IntKind.i64.wrap (d+1)) [w])).bind fun r4=>(b5 (fV K r4.2 [w])).bind fun r5=>some (r4.1,r5):=fun T e i K a1 a2 a3=>by
   rw[sN a1 a2 a3];rfl
  rcases key with ⟨x,j,k',a,e1,e2⟩ | ⟨x,j,t,e1,e2,⟨c1,c2,c3⟩,e4,⟨⟨q1,q2⟩,q3⟩,e6⟩
  ·exact .inl ⟨x,j,k',a,(hacc _ _ _ _ (by omega) (by omega) h).trans e1,e2⟩
  ·obtain ⟨dR,p0⟩:=x
   obtain rfl:p0=P T e j:=e2
   dsimp only at q1 q2 q3
   by_cases h0:dR=[]
   ·subst h0
    have q3:t=[w]:=q3
    subst q3
    refine .inr ⟨_,j,[w],(hacc _ _ _ _ (by omega) (by omega) h).trans e1,rfl,⟨by omega,c2,by simp at c3 ⊢;omega⟩,e4,⟨⟨q1,by show pr.kS []≤_;rw[pr.kS];omega⟩,rfl⟩,fun T' e' i' K' a1 a2 a3 a4=>?_⟩
    have t1:Tw T' i' w:=a2.1
    have n1:cW T' i' [[69,76,83,69]]=false:=by rw[t1.cW hkw];exact decide_eq_false hne.1
    dsimp only
    rw[nJ a1 (by omega) n1,aA]
    simp only[aE,if_false]
    rw[aBs a1 (by omega) (by rw[t1.cW hkw];simp)];rfl
   ·have ht:aAd dR=[[69,76,83,69]]++pr.iK dR:=by unfold aAd;rw[aG h0]
    refine .inr ⟨_,j,[69,76,83,69]::t,(hacc _ _ _ _ (by omega) (by omega) h).trans e1,rfl,⟨by omega,c2,by simp at c3 ⊢;omega⟩,fun v hv=>?_,⟨⟨q1,by rw[ht];simp;omega⟩,by rw[ht,q3];rfl⟩,fun T' e' i' K' a1 a2 a3 a4=>?_⟩
    ·rcases aT.1 hv with rfl | hv
     ·exact (gR (by decide)).tk
     ·exact e4 v hv
    ·have t1:Tw T' i' [69,76,83,69]:=a2.1
     have h6:=e6 T' e' (i'+1) K' a1 a2.2 ⟨by unfold cW;simp,by simp,by simp⟩ a4
     rw[aC,show i'+(t.length+1)=i'+1+t.length by omega]
     exact (hacc _ _ _ _ a1 (by omega) (by rw[t1.cW (gR (by decide))];decide)).trans h6
end
end Go.Proofs.YtidjangjfekfjaaGreatDoor.ex

namespace Go.Proofs.YtidjangjfekfjaaGreatDoor.ex
open Go Go.Dl
set_option maxRecDepth 100000
def parts:List dM→List (List cU)→Nat→List Bytes
 | x::r,b::s,n=>(if n=0 then [] else [[69,76,83,73,70]])++pr.gC x++[[84,72,69,78]]++pr.iK b++parts r s (n+1)
 | _,_,_=>[]
theorem aJ5 (x:dM) (r:List dM) (b:List cU) (s:List (List cU)) (n:Nat):parts (x::r) (b::s) n=(if n=0 then [] else [[69,76,83,73,70]])++pr.gC x++[[84,72,69,78]]++pr.iK b++parts r s (n+1):=rfl
theorem aIf {A E:Type} {f g:A→List E}:∀ {l:List A},(∀ x∈l,f x=g x)→l.flatMap f=l.flatMap g
 | [],_=>rfl
 | x::r,h=>by rw[bG,bG,h x (by simp),aIf fun y hy=>h y (aV _ hy)]
theorem aDy:∀ (ex:List dM) (bl:List (List cU)) (n:Nat) (x:dM) (b:List cU),ex.length=bl.length→parts (ex++[x]) (bl++[b]) n=parts ex bl n++((if n+ex.length=0 then [] else [[69,76,83,73,70]])++pr.gC x++[[84,72,69,78]]++pr.iK b)
 | [],[],n,x,b,_=>by simp [parts]
 | y::r,c::s,n,x,b,h=>by
   have:=aDy r s (n+1) x b (by simpa using h)
   simp only[aM,parts,this,aC]
   rw[aG (show ¬ n+1+r.length=0 by omega),aG (show ¬ n+(r.length+1)=0 by omega)]
   simp
 | [],_::_,_,_,_,h=>by simp at h
 | _::_,[],_,_,_,h=>by simp at h
theorem aLe {E:Type} (g:Nat→List E):∀ (m n s:Nat),pr.lU (fun i (_:Nat)=>g i) n ((List.range' s m))=((List.range m).flatMap fun j=>g (n+j))
 | 0,n,s=>rfl
 | m+1,n,s=>by
   rw[List.range'_succ,pr.lU,aLe g m (n+1) (s+1),List.range_succ_eq_map,bG,List.flatMap_map]
   congr 1
   congr 1
   funext j
   show g (n+1+j)=g (n+(j+1))
   rw[show n+1+j=n+(j+1) by omega]
theorem aIg:∀ (ex:List dM) (bl:List (List cU)) (n:Nat),ex.length=bl.length→((List.range ex.length).flatMap fun j=>[pr.ifW (n+j)]++pr.gC (ex.getD j default)++[[84,72,69,78]]++pr.iK (bl.getD j []))=(if n=0∧ex≠[] then [[73,70]] else [])++parts ex bl n
 | [],[],n,_=>by simp [parts]
 | x::r,b::s,n,h=>by
   have ih:=aIg r s (n+1) (by simpa using h)
   rw[aG (by omega),aL] at ih
   rw[aC,List.range_succ_eq_map,bG,List.flatMap_map]
   have hf:((List.range r.length).flatMap fun j=>[pr.ifW (n+(j+1))]++pr.gC ((x::r).getD (j+1) default)++[[84,72,69,78]]++pr.iK ((b::s).getD (j+1) []))=parts r s (n+1):=by
    rw[← ih]
    congr 1
    funext j
    rw[show n+(j+1)=n+1+j by omega]
    rfl
   show _++((List.range r.length).flatMap fun j=>[pr.ifW (n+(j+1))]++pr.gC ((x::r).getD (j+1) default)++[[84,72,69,78]]++pr.iK ((b::s).getD (j+1) []))=_
   rw[hf]
   rw[aJ5]
   unfold pr.ifW
   by_cases hn:n=0
   ·subst hn;simp
   ·simp [hn]
 | [],_::_,_,h=>by simp at h
 | _::_,[],_,h=>by simp at h
theorem aH1 (bl:List (List cU)) (l:List cU):pr.z6 (pr.qK (bl++[l])) bl.length=aAd l:=by
 unfold pr.z6 pr.qK aAd
 rw[List.map_append]
 have:((bl.map fun b=>b.map pr.oG)++[l].map fun b=>b.map pr.oG).getD bl.length []=l.map pr.oG:=by
  have:bl.length=(bl.map fun b:List cU=>b.map pr.oG).length:=by simp
  rw[List.getD_eq_getElem?_getD,this,List.getElem?_append_right (aR _)]
  simp
 rw[this]
 cases l with
 | nil=>rfl
 | cons x r=>rw[aG (by simp)];rfl
theorem aK1 (bl:List (List cU)) (l:List cU) (j:Nat) (h:j<bl.length):pr.qJ (pr.qK (bl++[l])) j=pr.iK (bl.getD j []):=by
 unfold pr.qJ pr.qK pr.iK
 rw[List.getD_eq_getElem?_getD,List.getD_eq_getElem?_getD,bD,List.getElem?_append_left h,aN h]
 rfl
theorem aVe (ex:List dM) (bl:List (List cU)) (l:List cU) (h:ex.length=bl.length) (h0:ex≠[]):pr.ifT (pr.lI ex) (pr.qK (bl++[l]))=[73,70]::(parts ex bl 0++(aAd l++[[69,78,68,95,73,70]])):=by
 unfold pr.ifT
 have hm:max (pr.lI ex).length 1=ex.length:=by
  have:(pr.lI ex).length=ex.length:=by unfold pr.lI;simp
  have:1≤ex.length:=by cases ex with | nil=>exact absurd rfl h0 | cons x r=>simp
  omega
 rw[hm,List.range_eq_range',aLe]
 have hp:=aIg ex bl 0 h
 rw[aJ ⟨rfl,h0⟩] at hp
 have hf:((List.range ex.length).flatMap fun j=>[pr.ifW (0+j)]++pr.tA (pr.lI ex) (0+j)++[[84,72,69,78]]++pr.qJ (pr.qK (bl++[l])) (0+j))=((List.range ex.length).flatMap fun j=>[pr.ifW (0+j)]++pr.gC (ex.getD j default)++[[84,72,69,78]]++pr.iK (bl.getD j [])):=by
  refine aIf fun j hj=>?_
  have hj:=List.mem_range.1 hj
  rw[Nat.zero_add,aFO hj,aK1 bl l j (by omega)]
 rw[hf,hp,h,aH1]
 simp
section
variable {T:List fS} {e:Int} {K i:Nat} {b:Nat} {k a:Int} {l:List Bytes}
def wZ (d:Int) (K:Nat) (u:cV × List dM × List (List cU) × Bool):Option (((cV × List dM × List (List cU)) ⊕ (cU × cV)) ⊕ (cV × List dM × List (List cU) × Bool)) :=
 (cX u.2.2.2 (b5 (F17 K u.1)) default).bind fun r=>if (u.2.2.2 && r)=true then (b5 (uN K u.1 1)).bind fun x=>fI [room ((u.2.1.length+[x.1].length) * 72)] ((b5 (fV K x.2 [[84,72,69,78]])).bind fun q=>(b5 (rC K q (IntKind.i64.wrap (d+1)) [[69,76,83,73,70],[69,76,83,69],[69,78,68,95,73,70]])).bind fun s=>fI [room ((u.2.2.1.length+[s.1].length) * 24)] ((cX true (b5 (oF K s.2 [[69,76,83,73,70]])) default).bind fun c=>(if c=true then b5 (qV K s.2 (Int.ofNat (u.2.1++[x.1]).length) 6) else some s.2).bind fun q=>(b5 (kD K q [69,76,83,73,70])).bind fun m=>some (.inr (m.2,u.2.1++[x.1],u.2.2.1++[s.1],m.1)))) else some (.inl (.inl (u.1,u.2.1,u.2.2.1)))
theorem aPX (K:Nat) (p:cV) (d:Int):b5 (aFp (K+1) p d)=(iter K (wZ d K) (p,[],[],true)).bind (lpF fun u=>(b5 (lY K u.1 d [69,78,68,95,73,70])).bind fun r=>fI [room ((u.2.2.length+[r.1].length) * 24)] (some (⟨5,0,[],u.2.1,[],u.2.2++[r.1]⟩,r.2))):=by
 rw[aFp,aH2]
 simp only[mD,aXw,dS]
 congr 2
 funext u
 unfold wZ
 simp only[wB,oQ,wX,qL,aDo,aDp,aAf,aDq,cH,cC,cG,cD,cS,bE,aA]
theorem aRI (d:Int) (pI:List dM) (iQ:List (List cU)) (m:Bool):wZ d K (PE T e i k a,pI,iQ,m)=some (.inl (.inl (PE T e i k a,pI,iQ))):=by
 unfold wZ
 rw[aMi,aA,Bool.and_false,aG (by simp)]
theorem aDz (d:Int) (pI:List dM) (iQ:List (List cU)) (p:cV):wZ d K (p,pI,iQ,false)=some (.inl (.inl (p,pI,iQ))):=by
 unfold wZ
 rw[aBN,aA]
 rfl
abbrev aIh:List Bytes:=[[69,76,83,73,70],[69,76,83,69],[69,78,68,95,73,70]]
theorem aRJ (hK:100002<K) (d:Int) (n m:Nat) (pI:List dM) (iQ:List (List cU)) (hn:pI.length≤1500) (hm:iQ.length≤1500) (x:dM) :
 (fI [room ((pI.length+[x].length) * 72)] ((b5 (fV K (PE T e i k a) [[84,72,69,78]])).bind fun q=>(b5 (rC K q (IntKind.i64.wrap (d+1)) aIh)).bind fun s=>fI [room ((iQ.length+[s.1].length) * 24)] ((cX true (b5 (oF K s.2 [[69,76,83,73,70]])) default).bind fun c=>(if c=true then b5 (qV K s.2 (Int.ofNat (pI++[x]).length) 6) else some s.2).bind fun q=>(b5 (kD K q [69,76,83,73,70])).bind fun m=>some (.inr (m.2,pI++[x],iQ++[s.1],m.1)))):Option (((cV × List dM × List (List cU)) ⊕ (cU × cV)) ⊕ (cV × List dM × List (List cU) × Bool)))=some (.inr (PE T e i k a,pI++[x],iQ++[[]],false)):=by
 rw[dZ (room_le (by simp;omega)),cB,jW (by omega),aA,p9 (by omega) _ _ (by simp),aA,dZ (room_le (by simp;omega)),cB,cE,qF,aA]
 simp only[aE,if_false,aA,lS]
theorem aXU (hs:Ts T) (hT:T.length≤1500) (hi:i≤T.length) (hK:100006<K):Bd T e (b5 (aFp K (P T e i) 6)):=by
 obtain ⟨K,rfl⟩:∃ q,K=q+3:=⟨K - 3,by omega⟩
 rw[aPX]
 -- it comes to a state where the end is wrong
 have key:∃ x,wZ 6 (K+2) (P T e i,[],[],true)=some x∧((∃ j k a pI iQ,x = .inr (PE T e j k a,pI,iQ,false)∧iQ.length≤1)∨∃ j pI iQ,x = .inr (P T e j,pI,iQ,false)∧iQ.length≤1∧cW T j aIh=false):=by
  have hcb:wZ 6 (K+2) (P T e i,[],[],true)=(b5 (uN (K+2) (P T e i) 1)).bind fun x=>fI [room ((([]:List dM).length+[x.1].length) * 72)] ((b5 (fV (K+2) x.2 [[84,72,69,78]])).bind fun q=>(b5 (rC (K+2) q (IntKind.i64.wrap (6+1)) aIh)).bind fun s=>fI [room ((([]:List (List cU)).length+[s.1].length) * 24)] ((cX true (b5 (oF (K+2) s.2 [[69,76,83,73,70]])) default).bind fun c=>(if c=true then b5 (qV (K+2) s.2 (Int.ofNat (([]:List dM)++[x.1]).length) 6) else some s.2).bind fun q=>(b5 (kD (K+2) q [69,76,83,73,70])).bind fun m=>some (.inr (m.2,[]++[x.1],[]++[s.1],m.1)))):=rfl
  rw[hcb]
  rcases aPO (e:=e) (b:=100001) hs hT hi (K:=K+2) (by omega) (by omega) with ⟨⟨v,p⟩,j,k',a,e1,e2⟩ | ⟨⟨v,p⟩,j,t,e1,e2,⟨c1,c2,c3⟩,_⟩
  ·obtain rfl:p=PE T e j k' a:=e2
   rw[show b5 (uN (K+2) (P T e i) 1)=_ from e1,aA]
   rw[aRJ (by omega) 6 0 0 [] [] (by simp) (by simp)]
   exact ⟨_,rfl,.inl ⟨j,k',a,_,_,rfl,by simp⟩⟩
  ·obtain rfl:p=P T e j:=e2
   rw[show b5 (uN (K+2) (P T e i) 1)=_ from e1,aA]
   rw[dZ (room_le (by simp)),cB]
   cases hth:cW T j [[84,72,69,78]]
   ·rw[aDX (by omega) (by omega) hth,aA,p9 (by omega) _ _ (by simp),aA,dZ (room_le (by simp)),cB,cE,qF,aA]
    simp only[aE,if_false,aA,lS]
    exact ⟨_,rfl,.inl ⟨j,3,_,_,_,rfl,by simp⟩⟩
   ·have hw:IntKind.i64.wrap (6+1)=7:=by rw[wrap64 (by omega) (by omega)];rfl
    rw[aBs (by omega) (by omega) hth,aA,hw]
    rcases aPw (T:=T) (e:=e) (i:=j+1) (K:=K+2) (ends:=aIh) (by omega) (by simp) with ⟨⟨v2,p⟩,j2,k',a,f1,f2⟩ | ⟨f1,f2,_⟩
    ·obtain rfl:p=PE T e j2 k' a:=f2
     rw[f1,aA,dZ (room_le (by simp)),cB,cE,qF,aA]
     simp only[aE,if_false,aA,lS]
     exact ⟨_,rfl,.inl ⟨j2,k',a,_,_,rfl,by simp⟩⟩
    ·have hn:cW T (j+1) [[69,76,83,73,70]]=false:=gV f2 (by simp)
     rw[f1,aA,dZ (room_le (by simp)),cB,cE,p29 (by simp) (by omega),hn,aA]
     simp only[aE,if_false,aA,nJ (show T.length≤100000 by omega) (show 100<K+2 by omega) hn]
     exact ⟨_,rfl,.inr ⟨j+1,_,_,rfl,by simp,f2⟩⟩
 obtain ⟨x,hx,h⟩:=key
 rw[gA,hx,aA]
 rcases h with ⟨j,k',a,pI,iQ,rfl,hb⟩ | ⟨j,pI,iQ,rfl,hb,hn⟩
 ·dsimp only
  rw[gA,aDz]
  show Bd T e ((b5 (lY (K+2) (PE T e j k' a) 6 [69,78,68,95,73,70])).bind _)
  rw[aDs (by omega),aA,dZ (room_le (by simp;omega)),cB]
  exact Bd.one rfl
 ·dsimp only
  rw[gA,aDz]
  show Bd T e ((b5 (lY (K+2) (P T e j) 6 [69,78,68,95,73,70])).bind _)
  have aUN:b5 (lY (K+2) (P T e j) 6 [69,78,68,95,73,70])=some ([],PE T e j 3 (tok T e j).kQ):=by
   rw[lY]
   simp only[mD,aAU,oQ,qL,cD,dS]
   rw[nJ (by omega) (by omega) (gV hn (by simp)),aA]
   simp only[aE,if_false]
   rw[aDX (by omega) (by omega) (gV hn (by simp))];rfl
  rw[aUN,aA,dZ (room_le (by simp;omega)),cB]
  exact Bd.one rfl
theorem uF (iQ:List (List cU)) (l:List cU):pr.k8 (iQ++[l])=pr.k8 iQ+(1+pr.kS l):=by
 induction iQ with
 | nil=>rw[aL,aJX,pr.k8];omega
 | cons x r ih=>rw[aM,pr.k8,pr.k8,ih];omega
theorem uE {iQ:List (List cU)} {l:List cU} (h:pr.nF iQ) (hl:pr.oE l):pr.nF (iQ++[l]):=by
 induction iQ with
 | nil=>exact aJW hl
 | cons x r ih =>
   rw[pr.nF] at h
   rw[aM,pr.nF]
   exact ⟨h.1,ih h.2⟩
theorem aPY (l:List dM) (x:dM):pr.sO (l++[x])=pr.sO l+pr.sz x:=by
 induction l with
 | nil=>rw[aL,aFU,pr.sO];omega
 | cons y r ih=>rw[aM,pr.sO,pr.sO,ih];omega
theorem aVf {l:List dM} (h:∀ x∈l,Sx x):pr.yS l:=by
 induction l with
 | nil=>rw[pr.yS];trivial
 | cons x r ih=>rw[pr.yS];exact ⟨aFQ (h x (by simp)),ih fun y hy=>h y (aV _ hy)⟩
def IC (u:cV × List dM × List (List cU) × Bool) (t:List Bytes):Prop :=
 u.2.1.length=u.2.2.1.length∧(∀ x∈u.2.1,Sx x)∧pr.nF u.2.2.1∧pr.sO u.2.1+pr.k8 u.2.2.1≤20 * (parts u.2.1 u.2.2.1 0).length∧u.2.1.length≤t.length ∧
  ((u.2.2.2=true∧t=parts u.2.1 u.2.2.1 0++(if u.2.1.length=0 then [] else [[69,76,83,73,70]]))∨(u.2.2.2=false∧u.2.1≠[]∧t=parts u.2.1 u.2.2.1 0))
theorem aLf {pI:List dM} {iQ:List (List cU)} {x:dM} {dR:List cU} {p q:cV} {m:Bool} {t0:List Bytes} (h:IC (p,pI,iQ,true) t0) (hx:Sx x) (hxs:pr.sz x≤14 * (pr.gC x).length) (hl:pr.oE dR) (hls:pr.kS dR≤20 * (pr.iK dR).length) :
 IC (q,pI++[x],iQ++[dR],m) (t0++(pr.gC x++([84,72,69,78]::(pr.iK dR++(if m=true then [[69,76,83,73,70]] else []))))):=by
 obtain ⟨h1,h2,h3,h4,h5,h6⟩:=h
 dsimp only at h1 h2 h3 h4 h5 h6
 rcases h6 with ⟨_,h6⟩ | ⟨h,_⟩
 rotate_left
 ·cases h
 have hp:=aDy pI iQ 0 x dR h1
 have ht:t0++(pr.gC x++([84,72,69,78]::(pr.iK dR++(if m=true then [[69,76,83,73,70]] else []))))=parts (pI++[x]) (iQ++[dR]) 0++(if m=true then [[69,76,83,73,70]] else []):=by
  rw[h6,hp]
  rw[Nat.zero_add]
  simp
 refine ⟨by simp [h1],fun y hy=>?_,uE h3 hl,?_,?_,?_⟩
 ·rcases bH.1 hy with hy | hy
  ·exact h2 y hy
  ·rw[aS.1 hy];exact hx
 ·show pr.sO (pI++[x])+pr.k8 (iQ++[dR])≤20 * (parts (pI++[x]) (iQ++[dR]) 0).length
  rw[aPY,uF,hp]
  simp only[aB,aC,aD]
  omega
 ·simp only[aB,aC,aD];omega
 ·rw[ht]
  cases m
  ·exact .inr ⟨rfl,by simp,by simp⟩
  ·refine .inl ⟨rfl,?_⟩
   simp
theorem aAh {A U:Type} {f:U→Option (A ⊕ U)} (J:Nat→U→Prop) (JA:Nat→A→Prop) (h1:∀ n u a,J n u→f u=some (.inl a)→JA n a) (h2:∀ n u u',J n u→f u=some (.inr u')→J (n+1) u') (hm:∀ n m a,n≤m→JA n a→JA m a):∀ (k n:Nat) (u:U) (x:A),J n u→iter k f u=some x→JA (n+k) x
 | 0,n,u,x,_,h=>by cases h
 | k+1,n,u,x,hJ,h=>by
   rw[gA] at h
   cases hf:f u with
   | none=>rw[hf] at h;cases h
   | some y =>
     rw[hf,aA] at h
     cases y with
     | inl a =>
       obtain rfl:a=x:=by simpa using h
       exact hm n _ _ (by omega) (h1 n u a hJ hf)
     | inr u' =>
       have:=aAh J JA h1 h2 hm k (n+1) u' x (h2 n u u' hJ hf) h
       rwa [show n+1+k=n+(k+1) by omega] at this
theorem jA {X:Type} {c:Bool} {m:Option X} {y:X} (h:fI [c] m=some y):m=some y:=by
 cases c
 ·cases h
 ·exact h
theorem aLg {d:Int} {u:cV × List dM × List (List cU) × Bool} {y} (h:wZ d K u=some y):(∃ p,y = .inl (.inl (p,u.2.1,u.2.2.1)))∨∃ p x s m,y = .inr (p,u.2.1++[x],u.2.2.1++[s],m):=by
 unfold wZ at h
 obtain ⟨r,_,h⟩:=bF.1 h
 split at h
 ·obtain ⟨x,_,h⟩:=bF.1 h
  have h:=jA h
  obtain ⟨q,_,h⟩:=bF.1 h
  obtain ⟨s,_,h⟩:=bF.1 h
  have h:=jA h
  obtain ⟨c,_,h⟩:=bF.1 h
  obtain ⟨q2,_,h⟩:=bF.1 h
  obtain ⟨m,_,h⟩:=bF.1 h
  obtain rfl:=Option.some.inj h
  exact .inr ⟨_,_,_,_,rfl⟩
 ·obtain rfl:=Option.some.inj h
  exact .inl ⟨_,rfl⟩
theorem aPy {d:Int} {B:Nat} (hsub:Sub d B) (hd:1≤d) (hs:Ts T) (hT:T.length≤1500) (hi:i≤T.length) (hB:100006<B) (hK:B+2≤K) (hKm:K≤1000000000):Z T e K i (fun K p=>b5 (aFp K p d)) (fun x t=>okZ x.1 t∧[73,70]::(t++[[59]])=pr.oG x.1) [] (B+2):=by
 have aH4:=hsub
 rcases hsub with ⟨h5,hP⟩ | rfl
 rotate_left
 ·exact .inl (aXU hs hT hi (by omega))
 obtain ⟨K,rfl⟩:∃ q,K=q+1:=⟨K - 1,by omega⟩
 have gU:100000<K:=by omega
 refine Z.succ (b:=B+1) (g:=fun K p=>b5 (aFp (K+1) p d)) (fun _ _=>rfl) ?_
 refine Z.eqv (g:=fun K p=>(iter K (wZ d K) (p,[],[],true)).bind (lpF fun u=>(b5 (lY K u.1 d [69,78,68,95,73,70])).bind fun r=>fI [room ((u.2.2.length+[r.1].length) * 24)] (some (⟨5,0,[],u.2.1,[],u.2.2++[r.1]⟩,r.2)))) ?_ (fun K p=>aPX K p d)
 have hit:=Z.itr (T:=T) (e:=e) (i:=i) (l:=[69,76,83,73,70]::uT) (b:=B+1) (body:=wZ d) (lr:=fun u=>if u.2.2.2=true then [] else [69,76,83,73,70]::uT) (u0:=fun p=>(p,([]:List dM),([]:List (List cU)),true)) (fun _ _=>rfl) IC (pvA:=fun x t=>∃ p pI iQ,x = .inl (p,pI,iQ)∧IC (p,pI,iQ,false) t) (K:=K) (by omega) hT hi (fun _=>rfl) (fun _ _=>rfl) (fun p=>⟨rfl,by simp,oS,by show pr.sO []+pr.k8 []≤_;rw[pr.sO,pr.k8];omega,by simp,.inl ⟨rfl,rfl⟩⟩) ?_ ?_ (by omega)
 ·refine Z.aPs (k:=fun K=>lpF fun u=>(b5 (lY K u.1 d [69,78,68,95,73,70])).bind fun r=>fI [room ((u.2.2.length+[r.1].length) * 24)] (some (⟨5,0,[],u.2.1,[],u.2.2++[r.1]⟩,r.2))) hit (fun x j k' a hg hx=>?_) (fun x t j a1 a2 a3 a4=>?_) (aR _)
  ·have hlen:=aAh (f:=wZ d K) (fun n u=>u.2.2.1.length≤n) (fun n x=>match x with
    | .inl u=>u.2.2.length≤n
    | .inr _=>True) (fun n u a hJ hf=>by
      rcases aLg hf with ⟨p,h⟩ | ⟨p,x,s,m,h⟩
      ·obtain rfl:a = .inl (p,u.2.1,u.2.2.1):=by simpa using h
       exact hJ
      ·cases h) (fun n u u' hJ hf=>by
      rcases aLg hf with ⟨p,h⟩ | ⟨p,x,s,m,h⟩
      ·cases h
      ·obtain rfl:u'=(p,u.2.1++[x],u.2.2.1++[s],m):=by simpa using h
       simp;exact hJ) (fun n m a hnm h=>by
      cases a with
      | inl u=>exact bV h hnm
      | inr u=>trivial) K 0 _ x (by simp) hg
   cases x with
   | inl u =>
     obtain ⟨p0,pI,iQ⟩:=u
     obtain rfl:p0=PE T e j k' a:=hx
     have hlen:iQ.length≤0+K:=hlen
     show Bd T e ((b5 (lY K (PE T e j k' a) d [69,78,68,95,73,70])).bind _)
     rw[aDs (by omega),aA,dZ (room_le (by simp;omega)),cB]
     exact Bd.one rfl
   | inr u=>exact ⟨_,j,k',a,rfl,hx⟩
  ·obtain ⟨⟨p,pI,iQ,rfl,I1,I2,I3,I4,I5,I6⟩,_⟩:=a4
   dsimp only at I1 I2 I3 I4 I5 I6
   rcases I6 with ⟨h,_⟩ | ⟨_,I6,rfl⟩
   ·cases h
   show Z T e K j (fun K q=>(b5 (lY K q d [69,78,68,95,73,70])).bind fun r=>fI [Go.Dl.room ((iQ.length+[r.1].length) * 24)] (some ((⟨5,0,[],pI,[],iQ++[r.1]⟩:cU),r.2))) _ _ _
   have hbl:∀ l:List cU,Go.Dl.room ((iQ.length+[l].length) * 24)=true:=fun l=>room_le (by simp;omega)
   refine Z.bv (uW:=fun v t=>(pr.oE v∧pr.kS v≤20 * (aAd v).length)∧t=aAd v++[[69,78,68,95,73,70]]) (l1:=[]) (aPx (B:=B) (by simp) aH4 hd hs hT a2 (by omega) (by omega) (by omega)) (fun v j k a=>by rw[dZ (hbl v),cB];exact Bd.one rfl) (fun v t1 j1 j2 j3 q=>?_) (aR _)
   obtain ⟨⟨q1,q2⟩,rfl⟩:=q
   refine Z.fI (hbl v) ?_
   refine Z.val j3 fun p=>⟨⟨⟨⟨nN i0 (aVf I2) mY (uE I3 q1),?_⟩,?_⟩,?_⟩,lB _ _⟩
   ·show pr.szS ⟨5,0,[],pI,[],iQ++[v]⟩≤_
    rw[nO,uF,mZ]
    simp only[aB,aC,aD]
    omega
   ·show _=pr.oG ⟨5,0,[],pI,[],iQ++[v]⟩
    rw[rU]
    have:pr.gZ 5 0 [] (pr.lI pI) [] (pr.qK (iQ++[v]))=pr.ifT (pr.lI pI) (pr.qK (iQ++[v])):=rfl
    rw[this,aVe pI iQ v I1 I6]
    simp
   ·unfold aAd
    split
    ·exact cl (by decide) (by decide)
    ·exact cl (by decide) (by decide)
 ·intro u j k' a hu
  obtain ⟨p0,pI,iQ,m⟩:=u
  obtain rfl:p0=PE T e j k' a:=hu
  exact ⟨_,j,k',a,aRI d pI iQ m,rfl⟩
 ·intro u t0 j h0 hj hu hI
  obtain ⟨p0,pI,iQ,m⟩:=u
  have hI':=hI
  obtain ⟨I1,I2,I3,I4,I5,I6⟩:=hI
  dsimp only at I1 I2 I3 I4 I5 I6
  cases m
  ·right
   show Z T e K j (fun K q=>wZ d K (q,pI,iQ,false)) _ _ _
   refine Z.eqv (g:=fun K q=>some (.inl (.inl (q,pI,iQ)))) ?_ fun K q=>aDz d pI iQ q
   refine Z.ret (f:=fun q=>(.inl (.inl (q,pI,iQ)):((cV × List dM × List (List cU)) ⊕ (cU × cV)) ⊕ (cV × List dM × List (List cU) × Bool))) hj (fun _=>rfl) (fun _ _=>rfl) fun p=>⟨⟨_,rfl,p,pI,iQ,rfl,?_⟩,fun w h=>h⟩
   rw[aO];exact hI'
  ·left
   show Zx T e K j (fun K q=>wZ d K (q,pI,iQ,true)) _ _ _
   unfold wZ
   refine Z.okb ?_
   simp only[Bool.and_self,if_true]
   have hlb:iQ.length≤1500:=by omega
   have r1:∀ x:dM,Go.Dl.room ((pI.length+[x].length) * 72)=true:=fun x=>room_le (by simp;omega)
   have r2:∀ x:List cU,Go.Dl.room ((iQ.length+[x].length) * 24)=true:=fun x=>room_le (by simp;omega)
   have le1:∀ j k a,b5 (rC K (PE T e j k a) (IntKind.i64.wrap (d+1)) aIh)=some ([],PE T e j k a):=fun j k a=>p9 gU _ _ (by simp)
   have fin:∀ j k a (x:dM) (s:List cU),Bd T e ((cX true (b5 (oF K (PE T e j k a) [[69,76,83,73,70]])) default).bind fun c=>(if c=true then b5 (qV K (PE T e j k a) (Int.ofNat (pI++[x]).length) 6) else some (PE T e j k a)).bind fun q=>(b5 (kD K q [69,76,83,73,70])).bind fun m=>(some (.inr (m.2,pI++[x],iQ++[s],m.1)):Option (((cV × List dM × List (List cU)) ⊕ (cU × cV)) ⊕ (cV × List dM × List (List cU) × Bool)))):=fun j k a x s=>by
    rw[cE,qF,aA]
    simp only[aE,if_false,aA,lS]
    exact Bd.one rfl
   refine Z.expr hs hT hj gU (by omega) (fun v j k a=>by
    rw[dZ (r1 v),cB,jW gU,aA,le1,aA,dZ (r2 _),cB];exact fin j k a v _) fun x j1 x1 x2 x3 x4=>?_
   refine Z.fI (r1 x) ?_
   dsimp only
   refine Z.want (gR (by decide)) hT (by omega) (by omega) (fun j k a=>by rw[le1,aA,dZ (r2 _),cB];exact fin j k a x _) fun h3=>?_
   refine Z.list aH4 hd hs hT (by omega) (by omega) (by omega) (by omega) (by omega) (by simp) (fun v j k a=>by rw[dZ (r2 v),cB];exact fin j k a x v) (fun dR j4 l1 l2 l3 l4=>?_) (fun h=>by omega)
   refine Z.fI (r2 dR) ?_
   dsimp only
   refine Z.isb (fun w hw=>gR (by revert w;decide)) (by decide) (by omega) (by omega) (fun hE=>?_) (fun hE=>?_)
   ·simp only[if_true]
    refine Z.room (fun j k a=>by rw[lS];exact Bd.one rfl) fun hr=>?_
    refine Z.accept (gR (by decide)) hT (by omega) (by omega) (fun h=>?_) (fun h=>by rw[hE] at h;cases h)
    refine Z.ret (f:=fun q=>(.inr (q,pI++[x],iQ++[dR],true):((cV × List dM × List (List cU)) ⊕ (cU × cV)) ⊕ (cV × List dM × List (List cU) × Bool))) (by have:=eA h;omega) (fun _=>rfl) (fun _ _=>rfl) fun p=>?_
    have hic:=aLf (q:=p) (m:=true) hI' x1 x2 l1 l2
    rw[aJ rfl] at hic
    exact ⟨⟨⟨⟨⟨_,rfl,hic,by simp⟩,lB _ _⟩,cl (by decide) (by decide)⟩,cl (by decide) (by decide)⟩,_,_,rfl,by simp⟩
   ·simp only[aE,if_false,aA]
    refine Z.accept (gR (by decide)) hT (by omega) (by omega) (fun h=>by rw[hE] at h;cases h) (fun h=>?_)
    refine Z.ret (f:=fun q=>(.inr (q,pI++[x],iQ++[dR],false):((cV × List dM × List (List cU)) ⊕ (cU × cV)) ⊕ (cV × List dM × List (List cU) × Bool))) l4 (fun _=>rfl) (fun _ _=>rfl) fun p=>?_
    have hic:=aLf (q:=p) (m:=false) hI' x1 x2 l1 l2
    rw[aG (by simp)] at hic
    refine ⟨⟨⟨⟨⟨⟨_,rfl,hic,by simp⟩,lB _ _⟩,cl (by decide) (by decide)⟩,fun w h=>aV _ h⟩,fun w h=>?_⟩,fun w h=>?_⟩
    ·exact aT.2 (.inl (aS.1 h))
    ·exact aT.2 (.inl (aS.1 h))
end
end Go.Proofs.YtidjangjfekfjaaGreatDoor.ex
