/- No conditions. -/
import Derived.Test.YtidjangjfekfjaaGreatDoorGPd
import Derived.Test.YtidjangjfekfjaaGreatDoorGPb
import Derived.Test.YtidjangjfekfjaaGreatDoorGd
set_option linter.unusedVariables false
set_option linter.unusedSimpArgs false
set_option linter.unusedSectionVars false
namespace Go.Proofs.YtidjangjfekfjaaGreatDoor
open Go Go.Proofs Go.Dl
set_option maxRecDepth 100000
open pr (B J)
theorem ex.aFQ {x:dM} (hx:ex.Sx x):pr.okE x:=by
 have z:∀ n:Int,0≤n→n≤32768→zZ n:=fun n h1 h2=>⟨by omega,by omega⟩
 have z0:zZ 0:=⟨by decide,by decide⟩
 have ls:∀ l:List dM,(∀ a∈l,pr.okE a)→pr.yS l:=by
  intro l
  induction l with
  | nil=>intro _;rw[pr.yS];trivial
  | cons x r ih=>intro h;rw[pr.yS];exact ⟨h x (by simp),ih fun a ha=>h a (aV _ ha)⟩
 induction hx with
 | num n hn=>rw[pr.l6];exact ⟨z n (by omega) (by omega),ls _ (by simp)⟩
 | lit k hk=>rw[pr.l6];exact ⟨z0,ls _ (by simp)⟩
 | name w hw=>rw[pr.l6];exact ⟨z0,ls _ (by simp)⟩
 | index w a hw ha ih=>rw[pr.l6];exact ⟨z0,ls _ (by simpa using ih)⟩
 | sign k a hk ha ih=>rw[pr.l6];exact ⟨z0,ls _ (by simpa using ih)⟩
 | bin n a b h1 h2 ha hb iha ihb=>rw[pr.l6];exact ⟨z n (by omega) (by omega),ls _ (by simpa using ⟨iha,ihb⟩)⟩
 | of k w hk hw=>rw[pr.l6];exact ⟨z0,ls _ (by simp)⟩
 | cast w a hw ha ih=>rw[pr.l6];exact ⟨z0,ls _ (by simpa using ih)⟩
 | call w wh ag hw hwh hag hl ih=>rw[pr.l6];exact ⟨z0,ls _ ih⟩
 | own n wh ag hn hwh hag hl ih=>rw[pr.l6];exact ⟨z n (by omega) (by omega),ls _ ih⟩
theorem ex.aPr (x:dM):(B (pr.gC x)).length≤(B (ex.wH x)).length:=by
 unfold ex.wH
 split
 ·rw[show (B ([[40]]++pr.gC x++[[41]]))=B [[40]]++B (pr.gC x)++B [[41]] by rw[show (B:List Bytes→Bytes)=pr.B from rfl,pr.p5,pr.p5]]
  simp only[aB]
  omega
 ·exact aR _
theorem ex.aHZ:∀ (l:List dM),(∀ a∈l,pr.sz a≤(B (pr.gC a)).length)→pr.sO l≤(B (ex.jE l)).length:=by
 have hB:(B:List Bytes→Bytes)=pr.B:=rfl
 have fl:∀ (l:List dM),(∀ a∈l,pr.sz a≤(B (pr.gC a)).length)→pr.sO l≤(B (l.flatMap fun z=>[44]::pr.gC z)).length:=by
  intro l
  induction l with
  | nil=>intro _;rw[pr.sO];exact Nat.zero_le _
  | cons x r ih =>
    intro h
    have h1:=h x (by simp)
    have h2:=ih fun a ha=>h a (aV _ ha)
    rw[pr.sO,bG,hB,pr.p5,pr.kM]
    rw[hB] at h1 h2
    simp only[aB,aC]
    omega
 intro l h
 cases l with
 | nil=>rw[pr.sO];exact Nat.zero_le _
 | cons x r =>
   have h1:=h x (by simp)
   have h2:=fl r fun a ha=>h a (aV _ ha)
   rw[pr.sO]
   unfold ex.jE
   rw[hB,pr.p5]
   rw[hB] at h1 h2
   simp only[aB]
   omega
theorem ex.aRi {x:dM} (hx:ex.Sx x):pr.sz x≤(B (pr.gC x)).length:=by
 have hB:(B:List Bytes→Bytes)=pr.B:=rfl
 have one:∀ a:dM,pr.sO [a]=pr.sz a:=fun a=>by rw[pr.sO,pr.sO];omega
 induction hx with
 | num n hn =>
   have:=aGZ (aKP ⟨1,(n:Int),[],[],[]⟩)
   rw[pr.oB,pr.sO]
   show 1+0+0+0≤_
   omega
 | lit k hk=>
   have:=aGZ (aKP ⟨k,0,[],[],[]⟩)
   rw[pr.oB,pr.sO]
   show 1+0+0+0≤_
   omega
 | name w hw =>
   rw[ex.zK,pr.oB,pr.sO,hB,pr.kM]
   simp;omega
 | index w a hw ha ih =>
   rw[ex.vT,pr.oB,one,hB,pr.p5,pr.p5,pr.kM]
   rw[hB] at ih
   simp only[aB,aC,aD];omega
 | sign k a hk ha ih =>
   have:=ex.aPr a
   rw[ex.zL a hk,pr.oB,one,hB,pr.p5,pr.kM]
   rw[hB] at ih this
   simp only[aB,aC,aD];omega
 | bin n a b h1 h2 ha hb iha ihb =>
   have:=ex.aPr a
   have:=ex.aPr b
   rw[ex.aCz,pr.oB,pr.sO,one,hB,pr.p5,pr.p5,pr.kM]
   rw[hB] at iha ihb this
   rename_i q
   rw[hB] at q
   simp only[aB,aC,aD];omega
 | of k w hk hw =>
   rw[ex.aGU w hk,pr.oB,pr.sO,hB,pr.kM,pr.kM,pr.kM]
   simp only[aB,aC,aD];omega
 | cast w a hw ha ih =>
   rw[ex.aGT,pr.oB,one,hB,pr.p5,pr.p5,pr.kM,pr.kM]
   rw[hB] at ih
   simp only[aB,aC,aD];omega
 | call w wh ag hw hwh hag hl ih =>
   have:=ex.aHZ ag ih
   rw[ex.tL,pr.oB,hB,pr.p5,pr.p5,pr.kM,pr.kM,pr.kM]
   rw[hB] at this
   simp only[aB,aC,aD];omega
 | own n wh ag hn hwh hag hl ih =>
   have:=ex.aHZ ag ih
   rw[ex.aAG wh ag hn,pr.oB,hB,pr.p5,pr.p5,pr.kM,pr.kM,pr.kM]
   rw[hB] at this
   simp only[aB,aC,aD];omega
end Go.Proofs.YtidjangjfekfjaaGreatDoor

namespace Go.Proofs.YtidjangjfekfjaaGreatDoor.ex
open Go Go.Dl
set_option maxRecDepth 100000
class Pr (X:Type) where
 yT:X→cV
 put:X→cV→X
 aKZ:∀ x p,yT (put x p)=p
 aFR:∀ x p q,put (put x p) q=put x q
 aAb:∀ x,put x (yT x)=x
open Pr (yT put)
instance:Pr cV:=⟨id,fun _ q=>q,fun _ _=>rfl,fun _ _ _=>rfl,fun _=>rfl⟩
instance {A:Type}:Pr (A × cV):=⟨fun x=>x.2,fun x q=>(x.1,q),fun _ _=>rfl,fun _ _ _=>rfl,fun _=>rfl⟩
instance (priority:=900) {A:Type}:Pr (cV × A):=⟨fun x=>x.1,fun x q=>(q,x.2),fun _ _=>rfl,fun _ _ _=>rfl,fun _=>rfl⟩
instance {A B:Type} [Pr A] [Pr B]:Pr (A ⊕ B) where
 yT x:=match x with
  | .inl a=>yT a
  | .inr b=>yT b
 put x q:=match x with
  | .inl a=>.inl (put a q)
  | .inr b=>.inr (put b q)
 aKZ x p:=by cases x <;> exact Pr.aKZ _ _
 aFR x p q:=by
  cases x with
  | inl a=>exact congrArg Sum.inl (Pr.aFR a p q)
  | inr a=>exact congrArg Sum.inr (Pr.aFR a p q)
 aAb x:=by
  cases x with
  | inl a=>exact congrArg Sum.inl (Pr.aAb a)
  | inr a=>exact congrArg Sum.inr (Pr.aAb a)
def Fo (l:List Bytes) (T:List fS) (i:Nat):Prop:=cW T i l=false∧([1]∈l→eV T i 1=false)∧([3]∈l→eV T i 3=false)
theorem Fo.sub {l m:List Bytes} {T:List fS} {i:Nat} (h:Fo m T i) (hs:∀ x∈l,x∈m):Fo l T i:=⟨gV h.1 hs,fun g=>h.2.1 (hs _ g),fun g=>h.2.2 (hs _ g)⟩
def nh (l1:List Bytes) (t:List Bytes) (l2:List Bytes):Prop:=match t with
 | []=>∀ w∈l1,w∈l2
 | w::_=>w ∉ l1∧([1]∈l1→∀ n,¬ lx.Is 1 w n)∧([3]∈l1→∀ n,¬ lx.Is 3 w n)
theorem aAc {w:Bytes} {l1:List Bytes} (hw:Kw w) (h:w ∉ l1) (r l2:List Bytes):nh l1 (w::r) l2:=by
 obtain ⟨q,hq,hi⟩:=hw
 refine ⟨h,fun _ n g=>?_,fun _ n g=>?_⟩
 ·have:=(nT g hi).1
  omega
 ·have:=(nT g hi).1
  omega
def Bd (T:List fS) (e:Int) {X:Type} [Pr X] (m:Option X):Prop:=∃ x j k a,m=some x∧yT x=PE T e j k a
section
variable {X Y A B U V:Type} [Pr X] [Pr Y] [Pr A] [Pr B] [Pr U] [Pr V]
def Zx (T:List fS) (e:Int) (K i:Nat) (g:Nat→cV→Option X) (pv:X→List Bytes→Prop) (l:X→List Bytes) (b:Nat):Prop :=
 Bd T e (g K (P T e i))∨∃ x j t,g K (P T e i)=some x∧yT x=P T e j∧(i≤j∧j≤T.length∧t.length+i≤j)∧(∀ w∈t,Tk w)∧pv x t ∧
  ∀ (T':List fS) (e':Int) (i' K':Nat),T'.length≤100000→At T' i' t→Fo (l x) T' (i'+t.length)→b≤K'→g K' (P T' e' i')=some (put x (P T' e' (i'+t.length)))
abbrev Z (T:List fS) (e:Int) (K i:Nat) (g:Nat→cV→Option X) (pv:X→List Bytes→Prop) (l:List Bytes) (b:Nat):Prop:=Zx T e K i g pv (fun _=>l) b
variable {T:List fS} {e:Int} {K i:Nat} {l l1 l2:List Bytes} {fl:X→List Bytes} {fy:Y→List Bytes} {b:Nat} {pv uW pv2:X→List Bytes→Prop}
theorem Zx.mono {g:Nat→cV→Option X} (h:Z T e K i g uW l1 b) (hp:∀ x t,uW x t→pv2 x t) (hl:∀ w∈l1,w∈l2) {b2:Nat} (hb:b≤b2):Z T e K i g pv2 l2 b2:=by
 rcases h with h | ⟨x,j,t,h1,h2,h3,h4,h5,h6⟩
 ·exact .inl h
 ·exact .inr ⟨x,j,t,h1,h2,h3,h4,hp x t h5,fun T' e' i' K' a1 a2 a3 a4=>h6 T' e' i' K' a1 a2 (a3.sub hl) (by omega)⟩
theorem Zx.aJP {g:Nat→cV→Option X} (h:Zx T e K i g uW fl b) (hp:∀ x t,uW x t→pv2 x t):Zx T e K i g pv2 fl b:=by
 rcases h with h | ⟨x,j,t,h1,h2,h3,h4,h5,h6⟩
 ·exact .inl h
 ·exact .inr ⟨x,j,t,h1,h2,h3,h4,hp x t h5,h6⟩
theorem Zx.flw {g:Nat→cV→Option X} {fl2:X→List Bytes} (h:Zx T e K i g pv fl b) (hl:∀ x t,pv x t→∀ w∈fl x,w∈fl2 x):Zx T e K i g pv fl2 b:=by
 rcases h with h | ⟨x,j,t,h1,h2,h3,h4,h5,h6⟩
 ·exact .inl h
 ·exact .inr ⟨x,j,t,h1,h2,h3,h4,h5,fun T' e' i' K' a1 a2 a3 a4=>h6 T' e' i' K' a1 a2 (a3.sub (hl x t h5)) a4⟩
theorem Z.eqv {g g':Nat→cV→Option X} (h:Zx T e K i g pv fl b) (he:∀ K p,g' K p=g K p):Zx T e K i g' pv fl b:=by
 have:g'=g:=funext fun K=>funext fun p=>he K p
 rw[this];exact h
theorem Z.succ {g g':Nat→cV→Option X} (he:∀ K p,g' (K+1) p=g K p) (h:Zx T e K i g pv fl b):Zx T e (K+1) i g' pv fl (b+1):=by
 rcases h with h | ⟨x,j,t,h1,h2,h3,h4,h5,h6⟩
 ·exact .inl (by rw[he];exact h)
 ·refine .inr ⟨x,j,t,by rw[he];exact h1,h2,h3,h4,h5,fun T' e' i' K' a1 a2 a3 a4=>?_⟩
  obtain ⟨k,rfl⟩:∃ k,K'=k+1:=⟨K' - 1,by omega⟩
  rw[he];exact h6 T' e' i' k a1 a2 a3 (by omega)
theorem Z.ret {f:cV→X} (hi:i≤T.length) (hf:∀ p,yT (f p)=p) (hg:∀ p q,put (f p) q=f q) (hp:∀ p,pv (f p) []):Zx T e K i (fun _ p=>some (f p)) pv fl b :=
 .inr ⟨f (P T e i),i,[],rfl,hf _,⟨aR _,hi,by simp⟩,by simp,hp _,fun T' e' i' K' _ _ _ _=>by rw[hg];rfl⟩
theorem aJQ {T:List fS} {i:Nat} {a b:List Bytes} (h:At T i (a++b)):At T i a∧At T (i+a.length) b:=At.app.1 h
theorem wA {T':List fS} {i:Nat} {l1 l2 t:List Bytes} (h:nh l1 t l2) (ha:At T' i t) (hl:Fo l2 T' (i+t.length)):Fo l1 T' i:=by
 cases t with
 | nil=>exact hl.sub h
 | cons w r =>
   have h1:Tw T' i w:=ha.1
   obtain ⟨a1,a2,a3⟩:=h
   refine ⟨?_,fun g=>?_,fun g=>?_⟩
   ·unfold cW
    rw[h1.2.1,decide_eq_false a1,Bool.and_false]
   ·cases hk:eV T' i 1
    ·rfl
    ·unfold eV at hk
     rw[aK,beq_iff_eq] at hk
     have:=h1.2.2
     rw[hk.2] at this
     exact absurd this (a2 g _)
   ·cases hk:eV T' i 3
    ·rfl
    ·unfold eV at hk
     rw[aK,beq_iff_eq] at hk
     have:=h1.2.2
     rw[hk.2] at this
     exact absurd this (a3 g _)
theorem Z.aPs {g1:Nat→cV→Option X} {k:Nat→X→Option Y} {pvy:Y→List Bytes→Prop} {b1:Nat} (h1:Z T e K i g1 uW l1 b1)
 (j0:∀ x j k' a,g1 K (P T e i)=some x→yT x=PE T e j k' a→Bd T e (k K x))
 (h2:∀ x t j,i+t.length≤j→j≤T.length→yT x=P T e j→uW x t→Zx T e K j (fun K q=>k K (put x q)) (fun y t2=>pvy y (t++t2)∧nh l1 t2 (fy y)) fy b) (hb:b1≤b) :
 Zx T e K i (fun K p=>(g1 K p).bind (k K)) pvy fy b:=by
 rcases h1 with ⟨x,j,k',a,e1,e2⟩ | ⟨x,j,t,e1,e2,⟨j1,j2,j3⟩,e4,e5,e6⟩
 ·left
  dsimp only
  rw[e1,aA]
  exact j0 x j k' a e1 e2
 ·have hg:∀ K,k K x=k K (put x (P T e j)):=fun K=>by rw[← e2,Pr.aAb]
  rcases h2 x t j (by omega) j2 e2 e5 with h | ⟨y,j',t2,f1,f2,⟨c1,c2,c3⟩,f4,⟨f5,f7⟩,f6⟩
  ·left
   show Bd T e ((g1 K (P T e i)).bind (k K))
   rw[e1,aA,hg]
   exact h
  ·right
   refine ⟨y,j',t++t2,?_,f2,⟨by omega,c2,by simp only[aB];omega⟩,fun w hw=>?_,f5,fun T' e' i' K' a1 a2 a3 a4=>?_⟩
   ·show (g1 K (P T e i)).bind (k K)=_
    rw[e1,aA,hg]
    exact f1
   ·rcases bH.1 hw with hw | hw
    ·exact e4 w hw
    ·exact f4 w hw
   ·obtain ⟨b1',b2'⟩:=aJQ a2
    rw[aB,← Nat.add_assoc] at a3 ⊢
    show (g1 K' (P T' e' i')).bind (k K')=_
    rw[e6 T' e' i' K' a1 b1' (wA f7 b2' a3) (by omega),aA]
    exact f6 T' e' (i'+t.length) K' a1 b2' a3 a4
theorem Z.bind {g1:Nat→cV→Option X} {k:Nat→X→Option Y} {pvy:Y→List Bytes→Prop} {b1:Nat} (h1:Z T e K i g1 uW l1 b1)
 (j0:∀ x j k' a,yT x=PE T e j k' a→Bd T e (k K x))
 (h2:∀ x t j,i+t.length≤j→j≤T.length→yT x=P T e j→uW x t→Zx T e K j (fun K q=>k K (put x q)) (fun y t2=>pvy y (t++t2)∧nh l1 t2 (fy y)) fy b) (hb:b1≤b) :
 Zx T e K i (fun K p=>(g1 K p).bind (k K)) pvy fy b:=Z.aPs h1 (fun x j k' a _ h=>j0 x j k' a h) h2 hb
theorem gA {A U:Type} (k:Nat) (f:U→Option (A ⊕ U)) (u:U):iter (k+1) f u=(f u).bind fun x=>match x with
 | .inl a=>some a
 | .inr u=>iter k f u:=by
 rw[iter]
 cases f u with
 | none=>rfl
 | some x=>cases x <;> rfl
def nxt {A U:Type} (lr:U→List Bytes):A ⊕ U→List Bytes
 | .inl _=>[]
 | .inr u=>lr u
theorem Z.rounds {body:Nat→U→Option (A ⊕ U)} {lr:U→List Bytes} (hlr:∀ u q,lr (put u q)=lr u) (I:U→List Bytes→Prop) (pvA:A→List Bytes→Prop)
 (j0:∀ u j k' a,yT u=PE T e j k' a→∃ x j k' a,body K u=some (.inl x)∧yT x=PE T e j k' a)
 (hr:∀ u t0 j,i+t0.length≤j→j≤T.length→yT u=P T e j→I u t0→Zx T e K j (fun K q=>body K (put u q)) (fun x t=>(∃ u',x = .inr u'∧I u' (t0++t)∧t≠[])∧nh (lr u) t l) (nxt lr) b ∨
  Z T e K j (fun K q=>body K (put u q)) (fun x t=>(∃ a,x = .inl a∧pvA a (t0++t))∧nh (lr u) t l) l b) :
 ∀ (n j k:Nat) (u:U) (t0:List Bytes),T.length - j=n→n+1<k→i+t0.length≤j→j≤T.length→yT u=P T e j→I u t0 →
   (∃ x j k' a,iter k (body K) u=some x∧yT x=PE T e j k' a)∨∃ x j' t,iter k (body K) u=some x∧yT x=P T e j'∧(j≤j'∧j'≤T.length∧t.length+j≤j')∧(∀ w∈t,Tk w)∧pvA x (t0++t)∧nh (lr u) t l ∧
    ∀ (T':List fS) (e':Int) (i' K' k2:Nat),T'.length≤100000→At T' i' t→Fo l T' (i'+t.length)→b≤K'→t.length<k2→iter k2 (body K') (put u (P T' e' i'))=some (put x (P T' e' (i'+t.length))):=by
 intro n
 induction n using Nat.strongRecOn with
 | ind n ih =>
   intro j k u t0 hn hk h0 hj hp hI
   obtain ⟨k,rfl⟩:∃ q,k=q+1:=⟨k - 1,by omega⟩
   have hu:put u (P T e j)=u:=by rw[← hp,Pr.aAb]
   have bd:Bd T e (body K u)→∃ x j k' a,iter (k+1) (body K) u=some x∧yT x=PE T e j k' a:=by
    rintro ⟨x,j',k',a,e1,e2⟩
    rw[gA,e1,aA]
    cases x with
    | inl x=>exact ⟨x,j',k',a,rfl,e2⟩
    | inr u' =>
      obtain ⟨x,j2,k2,a2,f1,f2⟩:=j0 u' j' k' a e2
      obtain ⟨k,rfl⟩:∃ q,k=q+1:=⟨k - 1,by omega⟩
      exact ⟨x,j2,k2,a2,by dsimp only;rw[gA,f1];rfl,f2⟩
   rcases hr u t0 j h0 hj hp hI with (h | ⟨x,j',t,e1,e2,⟨c1,c2,c3⟩,e4,⟨⟨u',rfl,e5,e8⟩,e7⟩,e6⟩) | (h | ⟨x,j',t,e1,e2,⟨c1,c2,c3⟩,e4,⟨⟨a,rfl,e5⟩,e7⟩,e6⟩)
   ·left
    dsimp only at h
    rw[hu] at h
    exact bd h
   ·dsimp only at e1
    rw[hu] at e1
    rw[gA,e1,aA]
    have ht:1≤t.length:=by cases t with | nil=>exact absurd rfl e8 | cons x r=>simp
    dsimp only
    rcases ih (T.length - j') (by omega) j' k u' (t0++t) rfl (by omega) (by simp only[aB];omega) c2 e2 e5 with h | ⟨x,j2,t2,f1,f2,⟨d1,d2,d3⟩,f4,f5,f7,f6⟩
    ·exact .inl h
    ·refine .inr ⟨x,j2,t++t2,f1,f2,⟨by omega,d2,by simp only[aB];omega⟩,fun w hw=>?_,by rw[← aH];exact f5,?_,fun T' e' i' K' k2 a1 a2 a3 a4 a5=>?_⟩
     ·rcases bH.1 hw with hw | hw
      ·exact e4 w hw
      ·exact f4 w hw
     ·cases t with
      | nil=>exact absurd rfl e8
      | cons x r=>exact e7
     ·obtain ⟨b1',b2'⟩:=aJQ a2
      rw[aB] at a5
      rw[aB,← Nat.add_assoc] at a3 ⊢
      obtain ⟨k2,rfl⟩:∃ q,k2=q+1:=⟨k2 - 1,by omega⟩
      have:=e6 T' e' i' K' a1 b1' (wA f7 b2' a3) a4
      dsimp only at this
      rw[gA,this,aA]
      have h6:=f6 T' e' (i'+t.length) K' k2 a1 b2' a3 a4 (by omega)
      exact h6
   ·left
    dsimp only at h
    rw[hu] at h
    exact bd h
   ·dsimp only at e1
    rw[hu] at e1
    rw[gA,e1,aA]
    refine .inr ⟨a,j',t,rfl,e2,⟨c1,c2,c3⟩,e4,e5,e7,fun T' e' i' K' k2 a1 a2 a3 a4 a5=>?_⟩
    obtain ⟨k2,rfl⟩:∃ q,k2=q+1:=⟨k2 - 1,by omega⟩
    have:=e6 T' e' i' K' a1 a2 a3 a4
    dsimp only at this
    rw[gA,this];rfl
theorem Z.itr {body:Nat→U→Option (A ⊕ U)} {lr:U→List Bytes} {u0:cV→U} (hlr:∀ u q,lr (put u q)=lr u) (I:U→List Bytes→Prop) {pvA:A→List Bytes→Prop} (hK:100000<K) (hT:T.length≤1500) (hi:i≤T.length) (hu:∀ p,yT (u0 p)=p) (hu2:∀ p q,put (u0 p) q=u0 q) (h0:∀ p,I (u0 p) [])
 (j0:∀ u j k' a,yT u=PE T e j k' a→∃ x j k' a,body K u=some (.inl x)∧yT x=PE T e j k' a)
 (hr:∀ u t0 j,i+t0.length≤j→j≤T.length→yT u=P T e j→I u t0→Zx T e K j (fun K q=>body K (put u q)) (fun x t=>(∃ u',x = .inr u'∧I u' (t0++t)∧t≠[])∧nh (lr u) t l) (nxt lr) b ∨
  Z T e K j (fun K q=>body K (put u q)) (fun x t=>(∃ a,x = .inl a∧pvA a (t0++t))∧nh (lr u) t l) l b) (hb:100000<b) :
 Z T e K i (fun K p=>iter K (body K) (u0 p)) (fun x t=>pvA x t∧nh (lr (u0 (P T e i))) t l) l b:=by
 rcases Z.rounds (K:=K) (i:=i) hlr I pvA j0 hr (T.length - i) i K (u0 (P T e i)) [] rfl (by omega) (by simp) hi (hu _) (h0 _) with ⟨x,j,k',a,h1,h2⟩ | ⟨x,j,t,h1,h2,⟨c1,c2,c3⟩,h4,h5,h7,h6⟩
 ·exact .inl ⟨x,j,k',a,h1,h2⟩
 ·refine .inr ⟨x,j,t,h1,h2,⟨c1,c2,c3⟩,h4,⟨h5,h7⟩,fun T' e' i' K' a1 a2 a3 a4=>?_⟩
  have:=h6 T' e' i' K' K' a1 a2 a3 a4 (by omega)
  rw[hu2] at this
  exact this
end
end Go.Proofs.YtidjangjfekfjaaGreatDoor.ex

namespace Go.Proofs.YtidjangjfekfjaaGreatDoor.ex
open Pr (yT put)
open Go Go.Dl
set_option maxRecDepth 100000
section
variable {X Y A B U V:Type} [Pr X] [Pr Y] [Pr A] [Pr B] [Pr U] [Pr V]
variable {T:List fS} {e:Int} {K i:Nat} {l l1 l2:List Bytes} {fl:X→List Bytes} {fy:Y→List Bytes} {b:Nat} {pv:X→List Bytes→Prop}
theorem Bd.one {x:X} {j:Nat} {k a:Int} (h:yT x=PE T e j k a):Bd T e (some x):=⟨x,j,k,a,rfl,h⟩
theorem Bd.bv {A:Type} {m:Option (A × cV)} {f:A × cV→Option Y} (h:Bd T e m) (hf:∀ v j k a,Bd T e (f (v,PE T e j k a))):Bd T e (m.bind f):=by
 obtain ⟨⟨v,p⟩,j,k,a,h1,h2⟩:=h
 obtain rfl:p=PE T e j k a:=h2
 rw[h1,aA]
 exact hf v j k a
end
section
variable {T:List fS} {e:Int} {K i:Nat} {k a:Int}
theorem aD6:b5 (F67 K (PE T e i k a))=some (0,PE T e i k a):=by
 unfold F67
 simp only[aFb,cE,aDU,aA,bA,if_true,aM5]
 rfl
theorem xJ:b5 (mC K (PE T e i k a))=some (0,PE T e i k a):=by
 unfold mC
 rw[lS,aA,aG (by simp),aD6];rfl
theorem aLc:b5 (aBv K (PE T e i k a))=some false:=by
 unfold aBv
 simp only[aDU,aA,bA,cE,qF,Bool.or_self]
 rfl
theorem aPt:b5 (zQ K (PE T e i k a))=some false:=by
 unfold zQ
 simp only[aDU,aA,bA,cE,qF,Bool.or_self]
 rfl
theorem aMi {c:Bool}:(cX c (b5 (F17 K (PE T e i k a))) default)=some false:=by cases c <;> rfl
def aId (K:Nat) (p:cV) (w:Bytes):Option cV:=(b5 (kD K p w)).bind fun r=>if (!r.1)=true then b5 (F16 K r.2 3) else some r.2
def aPM (K:Nat) (a1:List Bytes) (kB:cV × Int):Option ((cV ⊕ cV) ⊕ (cV × Int)):=(cY (decide ((kB.2:Int)<(Int.ofNat a1.length))) (fun (x36:Bool)=>(if x36=true then (cO (cN (fI [jL kB.2 a1.length] ((b5 (kD K kB.1 (a1.getD (kB.2:Int).toNat default))).bind (fun yD=>(if (!yD.1)=true then ((b5 (F16 K yD.2 3)).bind (fun r41=>(some (.inr (r41))))) else (some (.inr (yD.2)))))))) (fun (u39:cV)=>(some (.inr (u39,(IntKind.i64.wrap (kB.2+1))))))) else (some (.inl (Sum.inl (kB.1)))))))
theorem w79 (K:Nat) (p:cV) (l:List Bytes) (hl:l.length≤1000) (hK:l.length<K):b5 (fV K p l)=l.foldlM (aId K) p:=by
 show b5 (cO (cN ((iter K (aPM K l) (p,0)).map .inl)) (fun (gN:cV)=>(some (.inr (gN)):Option (cV ⊕ cV))))=_
 have hit:∀ (q n:Nat) (p:cV),n≤l.length→l.length - n<q→iter q (aPM K l) (p,(n:Int))=((l.drop n).foldlM (aId K) p).map Sum.inl:=by
  intro q
  induction q with
  | zero=>intro n p h1 h2;omega
  | succ q ih =>
    intro n p h1 h2
    rw[gA]
    unfold aPM cY
    dsimp only
    by_cases hn:n<l.length
    ·have hd:l.drop n=l.getD n default::l.drop (n+1):=kL l default n hn
     rw[aJ (by simp;omega),dZ (eW hn),cB,aY,hd,List.foldlM_cons]
     unfold aId
     cases h37:b5 (kD K p (l.getD n default)) with
     | none=>rfl
     | some r =>
       obtain ⟨b,p'⟩:=r
       simp only[aA]
       have hw:IntKind.i64.wrap ((n:Int)+1)=((n+1:Nat):Int):=by rw[wrap64 (by omega) (by omega)];omega
       cases b
       ·simp only[bA,if_true]
        cases h16:b5 (F16 K p' 3) with
        | none=>rfl
        | some p'' =>
          simp only[aA,cH,cD,hw]
          exact ih (n+1) p'' (by omega) (by omega)
       ·simp only[bN,aE,if_false,cH,cD,aA,hw]
        exact ih (n+1) p' (by omega) (by omega)
    ·rw[aG (by simp;omega),List.drop_eq_nil_of_le (by omega)]
     rfl
 have h0:=hit K 0 p (Nat.zero_le _) (by omega)
 rw[List.drop_zero,show ((0:Nat):Int)=0 from rfl] at h0
 rw[h0]
 cases l.foldlM (aId K) p <;> rfl
theorem aU9 (hK:1000<K) (p:cV) (w:Bytes) (r:List Bytes) (hr:r.length≤100) (h0:r≠[]):b5 (fV K p (w::r))=(b5 (fV K p [w])).bind fun q=>b5 (fV K q r):=by
 rw[w79 K p (w::r) (by simp;omega) (by simp;omega),w79 K p [w] (by simp) (by simp;omega),List.foldlM_cons,List.foldlM_cons]
 cases aId K p w with
 | none=>rfl
 | some q=>simp only[List.foldlM_nil];exact (w79 K q r (by omega) (by omega)).symm
theorem aRz (hK:1000<K):∀ (ws:List Bytes),ws≠[]→ws.length≤100→∀ i k a,b5 (fV K (PE T e i k a) ws)=some (PE T e i k a)
 | [],h,_,_,_,_=>absurd rfl h
 | [w],_,_,i,k,a=>vP (by omega)
 | w::x::r,_,hl,i,k,a=>by
   rw[aU9 hK _ w (x::r) (by simp at hl ⊢;omega) (by simp),vP (by omega),aA]
   exact aRz hK (x::r) (by simp) (by simp at hl ⊢;omega) i k a
end
section
variable {X Y A B U V:Type} [Pr X] [Pr Y] [Pr A] [Pr B] [Pr U] [Pr V]
variable {T:List fS} {e:Int} {K i:Nat} {l l1 l2:List Bytes} {fl:X→List Bytes} {fy:Y→List Bytes} {b:Nat} {pv:X→List Bytes→Prop}
theorem Z.bv {A:Type} {g1:Nat→cV→Option (A × cV)} {k:Nat→A × cV→Option Y} {uW:A→List Bytes→Prop} {pvy:Y→List Bytes→Prop} {b1:Nat} (h1:Z T e K i g1 (fun x t=>uW x.1 t) l1 b1)
 (j0:∀ v j k' a,Bd T e (k K (v,PE T e j k' a)))
 (h2:∀ v t j,i+t.length≤j→j≤T.length→uW v t→Zx T e K j (fun K q=>k K (v,q)) (fun y t2=>pvy y (t++t2)∧nh l1 t2 (fy y)) fy b) (hb:b1≤b) :
 Zx T e K i (fun K p=>(g1 K p).bind (k K)) pvy fy b :=
 Z.bind h1 (fun x j k' a hx=>by
  obtain ⟨v,p⟩:=x
  obtain rfl:p=PE T e j k' a:=hx
  exact j0 v j k' a) (fun x t j a1 a2 a3 a4=>by
  obtain ⟨v,p⟩:=x
  exact h2 v t j a1 a2 a4) hb
theorem Z.step1 {g g':Nat→cV→Option X} {w:Bytes} (ht:Tk w) (hi:i<T.length) (h:Zx T e K (i+1) g' (fun x t=>pv x (w::t)) fl b) (h1:g K (P T e i)=g' K (P T e (i+1)))
 (h2:∀ (T':List fS) (e':Int) (i' K':Nat),T'.length≤100000→Tw T' i' w→b≤K'→g K' (P T' e' i')=g' K' (P T' e' (i'+1))):Zx T e K i g pv fl b:=by
 rcases h with h | ⟨x,j,t,e1,e2,⟨c1,c2,c3⟩,e4,e5,e6⟩
 ·exact .inl (by rw[h1];exact h)
 ·refine .inr ⟨x,j,w::t,by rw[h1];exact e1,e2,⟨by omega,c2,by simp only[aC];omega⟩,fun v hv=>?_,e5,fun T' e' i' K' a1 a2 a3 a4=>?_⟩
  ·rcases aT.1 hv with rfl | hv
   ·exact ht
   ·exact e4 v hv
  ·obtain ⟨b1,b2⟩:=a2
   rw[aC,show i'+(t.length+1)=i'+1+t.length by omega] at a3 ⊢
   rw[h2 T' e' i' K' a1 b1 a4]
   exact e6 T' e' (i'+1) K' a1 b2 a3 a4
theorem Z.step0 {g g':Nat→cV→Option X} {Q:X→List Bytes→Prop} (h:Zx T e K i g' (fun x t=>pv x t∧Q x t) fl b) (h1:g K (P T e i)=g' K (P T e i))
 (h2:∀ (x:X) (t:List Bytes) (T':List fS) (e':Int) (i' K':Nat),Q x t→T'.length≤100000→At T' i' t→Fo (fl x) T' (i'+t.length)→b≤K'→g K' (P T' e' i')=g' K' (P T' e' i')):Zx T e K i g pv fl b:=by
 rcases h with h | ⟨x,j,t,e1,e2,e3,e4,⟨e5,e7⟩,e6⟩
 ·exact .inl (by rw[h1];exact h)
 ·exact .inr ⟨x,j,t,by rw[h1];exact e1,e2,e3,e4,e5,fun T' e' i' K' a1 a2 a3 a4=>by rw[h2 x t T' e' i' K' e7 a1 a2 a3 a4];exact e6 T' e' i' K' a1 a2 a3 a4⟩
theorem Z.accept {k:Nat→Bool × cV→Option X} {w:Bytes} (hw:Kw w) (hT:T.length≤1500) (hK:1000<K) (hb:1000<b)
 (hA:cW T i [w]=true→Zx T e K (i+1) (fun K q=>k K (true,q)) (fun x t=>pv x (w::t)) fl b)
 (hB:cW T i [w]=false→Zx T e K i (fun K q=>k K (false,q)) (fun x t=>pv x t∧nh [w] t (fl x)) fl b):Zx T e K i (fun K p=>(b5 (kD K p w)).bind (k K)) pv fl b:=by
 cases h:cW T i [w]
 ·refine Z.step0 (hB h) (by (try dsimp only);rw[nJ (by omega) (by omega) h];rfl) fun _ t T' e' i' K' q a1 a2 a3 a4=>?_
  try dsimp only
  rw[nJ a1 (by omega) (wA q a2 a3).1];rfl
 ·refine Z.step1 hw.tk (eA h) (hA h) (by (try dsimp only);rw[sN (by omega) (by omega) h];rfl) fun T' e' i' K' a1 a2 a4=>?_
  try dsimp only
  rw[sN a1 (by omega) (by rw[a2.cW hw];simp)];rfl
theorem Z.want {k:Nat→cV→Option X} {w:Bytes} (hw:Kw w) (hT:T.length≤1500) (hK:1000<K) (hb:1000<b) (j0:∀ j k' a,Bd T e (k K (PE T e j k' a)))
 (hA:i<T.length→Zx T e K (i+1) k (fun x t=>pv x (w::t)) fl b):Zx T e K i (fun K p=>(b5 (fV K p [w])).bind (k K)) pv fl b:=by
 cases h:cW T i [w]
 ·left
  try dsimp only
  rw[aDX (by omega) (by omega) h]
  exact j0 _ _ _
 ·refine Z.step1 hw.tk (eA h) (hA (eA h)) (by (try dsimp only);rw[aBs (by omega) (by omega) h];rfl) fun T' e' i' K' a1 a2 a4=>?_
  try dsimp only
  rw[aBs a1 (by omega) (by rw[a2.cW hw];simp)];rfl
theorem Z.aH6 {k:Nat→cV→Option X} {w w2:Bytes} (hw:Kw w) (hw2:Kw w2) (hT:T.length≤1500) (hK:1000<K) (hb:1000<b) (j0:∀ j k' a,Bd T e (k K (PE T e j k' a)))
 (hA:i+1<T.length→Zx T e K (i+1+1) k (fun x t=>pv x (w::w2::t)) fl b):Zx T e K i (fun K p=>(b5 (fV K p [w,w2])).bind (k K)) pv fl b:=by
 have hg:∀ K,1000<K→∀ p,(b5 (fV K p [w,w2])).bind (k K)=(b5 (fV K p [w])).bind fun q=>(b5 (fV K q [w2])).bind (k K):=fun K hK p=>by
  rw[aU9 hK p w [w2] (by simp) (by simp),bE]
 have h:=Z.want (k:=fun K q=>(b5 (fV K q [w2])).bind (k K)) (pv:=pv) (fl:=fl) (i:=i) hw hT hK hb (fun j k' a=>by
  rw[vP (by omega),aA];exact j0 j k' a) fun hi=>Z.want hw2 hT hK hb j0 hA
 rcases h with ⟨x,j,k',a,e1,e2⟩ | ⟨x,j,t,e1,e2,e3,e4,e5,e6⟩
 ·exact .inl ⟨x,j,k',a,by rw[← e1];exact hg K hK _,e2⟩
 ·exact .inr ⟨x,j,t,by rw[← e1];exact hg K hK _,e2,e3,e4,e5,fun T' e' i' K' a1 a2 a3 a4=>by rw[← e6 T' e' i' K' a1 a2 a3 a4];exact hg K' (by omega) _⟩
theorem Z.aXJ {k:Nat→cV→Option X} {w w2 w3:Bytes} (hw:Kw w) (hw2:Kw w2) (hw3:Kw w3) (hT:T.length≤1500) (hK:1000<K) (hb:1000<b) (j0:∀ j k' a,Bd T e (k K (PE T e j k' a)))
 (hA:i+1+1<T.length→Zx T e K (i+1+1+1) k (fun x t=>pv x (w::w2::w3::t)) fl b):Zx T e K i (fun K p=>(b5 (fV K p [w,w2,w3])).bind (k K)) pv fl b:=by
 have hg:∀ K,1000<K→∀ p,(b5 (fV K p [w,w2,w3])).bind (k K)=(b5 (fV K p [w])).bind fun q=>(b5 (fV K q [w2,w3])).bind (k K):=fun K hK p=>by
  rw[aU9 hK p w [w2,w3] (by simp) (by simp),bE]
 have h:=Z.want (k:=fun K q=>(b5 (fV K q [w2,w3])).bind (k K)) (pv:=pv) (fl:=fl) (i:=i) hw hT hK hb (fun j k' a=>by
  rw[aRz hK _ (by simp) (by simp),aA];exact j0 j k' a) fun hi=>Z.aH6 hw2 hw3 hT hK hb j0 hA
 rcases h with ⟨x,j,k',a,e1,e2⟩ | ⟨x,j,t,e1,e2,e3,e4,e5,e6⟩
 ·exact .inl ⟨x,j,k',a,by rw[← e1];exact hg K hK _,e2⟩
 ·exact .inr ⟨x,j,t,by rw[← e1];exact hg K hK _,e2,e3,e4,e5,fun T' e' i' K' a1 a2 a3 a4=>by rw[← e6 T' e' i' K' a1 a2 a3 a4];exact hg K' (by omega) _⟩
theorem Z.name {k:Nat→Bytes × cV→Option X} (hs:Ts T) (hT:T.length≤1500) (j0:∀ v j k' a,Bd T e (k K (v,PE T e j k' a)))
 (hA:∀ w,Wd w→i<T.length→eV T i 1=true→Zx T e K (i+1) (fun K q=>k K (w,q)) (fun x t=>pv x (w::t)) fl b):Zx T e K i (fun K p=>(b5 (s8 K p)).bind (k K)) pv fl b:=by
 cases h:eV T i 1
 ·left
  try dsimp only
  rw[aDV (by omega),h]
  exact j0 _ _ _ _
 ·have hw:=hs.word (e:=e) h
  refine Z.step1 ⟨1,0,hw⟩ (kK h) (hA _ hw (kK h) h) (by (try dsimp only);rw[aDV (by omega),h];rfl) fun T' e' i' K' a1 a2 a4=>?_
  try dsimp only
  rw[aDV a1,a2.eV hw,aJ (show ((1:Int) == 1)=true from rfl),a2.text];rfl
theorem Z.number {k:Nat→Int × cV→Option X} (hs:Ts T) (hT:T.length≤1500) (j0:∀ v j k' a,Bd T e (k K (v,PE T e j k' a)))
 (hA:∀ m:Nat,m≤32768→i<T.length→Zx T e K (i+1) (fun K q=>k K ((m:Int),q)) (fun x t=>pv x (Lib.decDigits m::t)) fl b):Zx T e K i (fun K p=>(b5 (F67 K p)).bind (k K)) pv fl b:=by
 cases h:eV T i 3
 ·left
  try dsimp only
  rw[aDW (by omega),h]
  exact j0 _ _ _ _
 ·obtain ⟨m,hm,hm2⟩:=hs.num (e:=e) h
  refine Z.step1 ⟨3,_,lM hm2⟩ (kK h) (hA m hm2 (kK h)) (by (try dsimp only);rw[aDW (by omega),h,hm];rfl) fun T' e' i' K' a1 a2 a4=>?_
  try dsimp only
  rw[aDW a1,a2.eV (lM hm2),aJ (show ((3:Int) == 3)=true from rfl),a2.num (lM hm2)];rfl
theorem Z.isb {k:Nat→cV→Bool→Option X} {ws:List Bytes} (hws:∀ w∈ws,Kw w) (hl:ws.length≤100) (hK:1000<K) (hb:1000<b)
 (hA:cW T i ws=true→Zx T e K i (fun K q=>k K q true) (fun x t=>pv x t∧∃ w r,t=w::r∧w∈ws) fl b)
 (hB:cW T i ws=false→Zx T e K i (fun K q=>k K q false) (fun x t=>pv x t∧nh ws t (fl x)) fl b):Zx T e K i (fun K p=>(cX true (b5 (oF K p ws)) default).bind (k K p)) pv fl b:=by
 cases h:cW T i ws
 ·refine Z.step0 (hB h) (by (try dsimp only);rw[cE,p29 hl (by omega),h];rfl) fun _ t T' e' i' K' q a1 a2 a3 a4=>?_
  try dsimp only
  rw[cE,p29 hl (by omega),(wA q a2 a3).1];rfl
 ·refine Z.step0 (hA h) (by (try dsimp only);rw[cE,p29 hl (by omega),h];rfl) fun _ t T' e' i' K' q a1 a2 a3 a4=>?_
  obtain ⟨w,r,rfl,hm⟩:=q
  try dsimp only
  rw[cE,p29 hl (by omega),(show Tw T' i' w from a2.1).cW (hws w hm),decide_eq_true hm];rfl
def kq (q:Int):Bytes:=if q=1 then [1] else [3]
theorem Z.aK3 {k:Nat→cV→Bool→Option X} {q:Int} (hq:q=1∨q=3)
 (hA:eV T i q=true→Zx T e K i (fun K p=>k K p true) (fun x t=>pv x t∧∃ w r n,t=w::r∧lx.Is q w n) fl b)
 (hB:eV T i q=false→Zx T e K i (fun K p=>k K p false) (fun x t=>pv x t∧nh [kq q] t (fl x)) fl b):Zx T e K i (fun K p=>(cX true (b5 (F66 K p q)) default).bind (k K p)) pv fl b:=by
 have hq0:q≠0:=by rcases hq with rfl | rfl <;> decide
 cases h:eV T i q
 ·refine Z.step0 (hB h) (by (try dsimp only);rw[cE,p69 hq0,h];rfl) fun _ t T' e' i' K' g a1 a2 a3 a4=>?_
  have hf:=wA g a2 a3
  have:eV T' i' q=false:=by
   rcases hq with rfl | rfl
   ·exact hf.2.1 (by decide)
   ·exact hf.2.2 (by decide)
  try dsimp only
  rw[cE,p69 hq0,this];rfl
 ·refine Z.step0 (hA h) (by (try dsimp only);rw[cE,p69 hq0,h];rfl) fun _ t T' e' i' K' g a1 a2 a3 a4=>?_
  obtain ⟨w,r,n,rfl,hm⟩:=g
  try dsimp only
  rw[cE,p69 hq0,(show Tw T' i' w from a2.1).eV hm,beq_self_eq_true];rfl
theorem Z.okb {k:Nat→cV→Bool→Option X} {c:Bool} (hA:Zx T e K i (fun K p=>k K p c) pv fl b):Zx T e K i (fun K p=>(cX c (b5 (F17 K p)) default).bind (k K p)) pv fl b:=by
 have:∀ (T:List fS) (e:Int) (i K:Nat),(cX c (b5 (F17 K (P T e i))) default)=some c:=fun T e i K=>by cases c <;> rfl
 rcases hA with h | ⟨x,j,t,e1,e2,e3,e4,e5,e6⟩
 ·exact .inl (by (try dsimp only);rw[this];exact h)
 ·exact .inr ⟨x,j,t,by dsimp only;rw[this];exact e1,e2,e3,e4,e5,fun T' e' i' K' a1 a2 a3 a4=>by dsimp only;rw[this];exact e6 T' e' i' K' a1 a2 a3 a4⟩
theorem Z.room {k:Nat→cV→Option X} {n m:Int} (j0:∀ j k' a,Bd T e (k K (PE T e j k' a))) (hA:n<m→Zx T e K i k pv fl b):Zx T e K i (fun K p=>(b5 (qV K p n m)).bind (k K)) pv fl b:=by
 by_cases h:n<m
 ·have:∀ (T:List fS) (e:Int) (i K:Nat),b5 (qV K (P T e i) n m)=some (P T e i):=fun T e i K=>by
   unfold qV
   rw[aG (by simp;omega)];rfl
  rcases hA h with h | ⟨x,j,t,e1,e2,e3,e4,e5,e6⟩
  ·exact .inl (by (try dsimp only);rw[this];exact h)
  ·exact .inr ⟨x,j,t,by dsimp only;rw[this];exact e1,e2,e3,e4,e5,fun T' e' i' K' a1 a2 a3 a4=>by dsimp only;rw[this];exact e6 T' e' i' K' a1 a2 a3 a4⟩
 ·left
  try dsimp only
  have:b5 (qV K (P T e i) n m)=some (PE T e i 5 (tok T e i).kQ):=by
   unfold qV
   rw[aJ (by simp;omega),p20];rfl
  rw[this]
  exact j0 _ _ _
theorem Z.fI {g:Nat→cV→Option X} {c:Bool} (hc:c=true) (h:Zx T e K i g pv fl b):Zx T e K i (fun K p=>fI [c] (g K p)) pv fl b:=by
 subst hc
 exact Z.eqv h fun K p=>by rw[dZ rfl,cB]
end
section
variable {T:List fS} {e:Int} {K i:Nat} {l:List Bytes} {b:Nat}
theorem sY (m:Nat):gT (m:Int)=[Lib.decDigits m]:=by
 unfold gT
 rw[aG (by omega),aY]
theorem aPN {m:Nat} (h:m≠0):gT (-(m:Int))=[[45],Lib.decDigits m]:=by
 unfold gT
 rw[aJ (by omega),show (-(m:Int)).natAbs=m by omega]
theorem aRA (T:List fS) (e:Int) (i K m:Nat) (hm:m≤32768) (hT:T.length≤100000) (hK:100<K) (h:Tw T i (Lib.decDigits m)):b5 (mC K (P T e i))=some ((m:Int),P T e (i+1)):=by
 unfold mC
 rw[nJ hT hK (h.noL (lM hm) (.inr rfl) _),aA,aG (by simp),aDW hT,h.eV (lM hm),aJ (show ((3:Int) == 3)=true from rfl),h.num (lM hm)]
 rfl
theorem aLd (T:List fS) (e:Int) (i K m:Nat) (hm:m≤32768) (hT:T.length≤100000) (hK:100<K) (h1:cW T i [[45]]=true) (h3:eV T (i+1) 3=true) (hn:(tok T e (i+1)).fN=m):b5 (mC K (P T e i))=some (-(m:Int),P T e (i+1+1)):=by
 unfold mC
 rw[sN hT hK h1,aA,aJ rfl,aDW hT,h3,aJ rfl,aA,hn,wrap64 (by omega) (by omega),show 0 - (m:Int) = -(m:Int) by omega]
 rfl
theorem aSR (hs:Ts T) (hT:T.length≤1500) (hK:1000<K) (hb:1000<b):Z T e K i (fun K p=>b5 (mC K p)) (fun x t=>(-32768≤x.1∧x.1≤32768)∧t=gT x.1) l b:=by
 have pos:∀ (m j:Nat) (x:Int × cV),m≤32768→b5 (mC K (P T e i))=some x→x=((m:Int),P T e j)→i+1≤j→j≤T.length→Z T e K i (fun K p=>b5 (mC K p)) (fun x t=>(-32768≤x.1∧x.1≤32768)∧t=gT x.1) l b:=by
  intro m j x hm hx he hj hj2
  subst he
  refine .inr ⟨_,j,[Lib.decDigits m],hx,rfl,⟨by omega,hj2,by simp;omega⟩,fun w hw=>by rw[aS.1 hw];exact ⟨3,_,lM hm⟩,⟨⟨by dsimp only;omega,by dsimp only;omega⟩,(sY m).symm⟩,fun T' e' i' K' a1 a2 a3 a4=>?_⟩
  exact aRA T' e' i' K' m hm a1 (by omega) a2.1
 cases h:cW T i [[45]]
 ·cases h3:eV T i 3
  ·left
   show Bd T e (b5 (mC K (P T e i)))
   unfold mC
   rw[nJ (by omega) (by omega) h,aA,aG (by simp),aDW (by omega),h3]
   exact ⟨_,_,_,_,rfl,rfl⟩
  ·obtain ⟨m,hm,hm2⟩:=hs.num (e:=e) h3
   have hi:=kK h3
   refine pos m (i+1) _ hm2 ?_ rfl (by omega) (by omega)
   unfold mC
   rw[nJ (by omega) (by omega) h,aA,aG (by simp),aDW (by omega),h3,aJ rfl,aA,hm]
   rfl
 ·cases h3:eV T (i+1) 3
  ·left
   show Bd T e (b5 (mC K (P T e i)))
   unfold mC
   rw[sN (by omega) (by omega) h,aA,aJ rfl,aDW (by omega),h3]
   exact ⟨_,_,_,_,rfl,rfl⟩
  ·obtain ⟨m,hm,hm2⟩:=hs.num (e:=e) h3
   have hi:=kK h3
   have hx:=aLd T e i K m hm2 (by omega) (by omega) h h3 hm
   by_cases h0:m=0
   ·subst h0
    exact pos 0 (i+1+1) _ (by omega) hx rfl (by omega) (by omega)
   ·refine .inr ⟨_,i+1+1,[[45],Lib.decDigits m],hx,rfl,⟨by omega,by omega,by simp;omega⟩,fun w hw=>?_,⟨⟨by dsimp only;omega,by dsimp only;omega⟩,(aPN h0).symm⟩,fun T' e' i' K' a1 a2 a3 a4=>?_⟩
    ·simp only[aT,List.not_mem_nil,or_false] at hw
     rcases hw with rfl | rfl
     ·exact (pK (by decide)).tk
     ·exact ⟨3,_,lM hm2⟩
    ·obtain ⟨t1,t2,_⟩:=a2
     exact aLd T' e' i' K' m hm2 a1 (by omega) (by rw[t1.cW (pK (by decide))];decide) (by rw[t2.eV (lM hm2)];rfl) (t2.num (lM hm2))
theorem aVa {x:dM} (hx:Sx x):∃ w r,pr.gC x=w::r∧((∃ q n:Int,(q=1∨q=3)∧lx.Is q w n)∨w∈qU):=by
 have mk:∀ l:List Bytes,(∀ w∈l,Tk w)→∃ m,Tl m l:=by
  intro l
  induction l with
  | nil=>intro _;exact ⟨[],trivial⟩
  | cons w r ih =>
    intro h
    obtain ⟨m,hm⟩:=ih fun x hx=>h x (aV _ hx)
    obtain ⟨k,n,hi⟩:=h w (by simp)
    exact ⟨⟨k,w,n,0⟩::m,⟨⟨rfl,hi⟩,hm⟩⟩
 obtain ⟨m,hm⟩:=mk _ (vU hx)
 have lX:=hm.at0
 have hst:=aNi hx lX
 cases hc:pr.gC x with
 | nil=>exact absurd hc (aKP x)
 | cons w r =>
   rw[hc] at lX
   have ht:Tw m 0 w:=lX.1
   refine ⟨w,r,rfl,?_⟩
   unfold fY at hst
   rw[bK,bK] at hst
   obtain ⟨t1,t2,t3⟩:=ht
   rcases hst with (h | h) | h
   ·left
    unfold eV at h
    rw[aK,beq_iff_eq] at h
    rw[h.2] at t3
    exact ⟨1,_,.inl rfl,t3⟩
   ·left
    unfold eV at h
    rw[aK,beq_iff_eq] at h
    rw[h.2] at t3
    exact ⟨3,_,.inr rfl,t3⟩
   ·right
    unfold cW at h
    rw[aK,bQ,t2] at h
    exact h.2
theorem aXK {w:Bytes} {q n:Int} (hi:lx.Is q w n) (hq:q=1∨q=3) {l:List Bytes} (hl:∀ v∈l,Kw v):w ∉ l:=by
 intro hm
 obtain ⟨z,hz,hi2⟩:=hl w hm
 have:=(nT hi hi2).1
 rcases hq with rfl | rfl <;> rcases hz with rfl | rfl <;> cases this
theorem Tk.real {w:Bytes} (h:Tk w):w≠[1]∧w≠[3]:=by
 obtain ⟨k,n,hi⟩:=h
 have a:=lx.wI hi (c:=32) (.inl rfl) []
 refine ⟨fun e=>?_,fun e=>?_⟩
 ·rw[e] at a
  have:lx.step ([1]++32::[]) = .err 1:=by kernel_rfl
  rw[this] at a;cases a
 ·rw[e] at a
  have:lx.step ([3]++32::[]) = .err 1:=by kernel_rfl
  rw[this] at a;cases a
theorem aH0 {w:Bytes} {q n:Int} (hi:lx.Is q w n) (hq:q=1∨q=3) {l:List Bytes} (hl:∀ v∈l,v∈([[1],[3]]:List Bytes)∨Kw v) (hk:kq q ∉ l) (r l2:List Bytes):nh l (w::r) l2:=by
 have hr:=Tk.real ⟨q,n,hi⟩
 refine ⟨fun hm=>?_,fun g n' h'=>?_,fun g n' h'=>?_⟩
 ·rcases hl w hm with h | ⟨z,hz,hi2⟩
  ·simp only[aT,List.not_mem_nil,or_false] at h
   rcases h with h | h
   ·exact hr.1 h
   ·exact hr.2 h
  ·have:=(nT hi hi2).1
   rcases hq with rfl | rfl <;> rcases hz with rfl | rfl <;> cases this
 ·rcases hq with rfl | rfl
  ·exact hk g
  ·have:=(nT hi h').1;cases this
 ·rcases hq with rfl | rfl
  ·have:=(nT hi h').1;cases this
  ·exact hk g
theorem aRn {x:dM} (hx:Sx x) {l:List Bytes} (hl:∀ v∈l,Kw v∧v ∉ qU) (r l2:List Bytes):nh l (pr.gC x++r) l2:=by
 obtain ⟨w,r',h1,h2⟩:=aVa hx
 rw[h1]
 have h1':[1] ∉ l:=fun g=>(hl _ g).1.tk.real.1 rfl
 have h3':[3] ∉ l:=fun g=>(hl _ g).1.tk.real.2 rfl
 refine ⟨?_,fun g=>absurd g h1',fun g=>absurd g h3'⟩
 rcases h2 with ⟨q,n,hq,hi⟩ | h2
 ·exact aXK hi hq fun v hv=>(hl v hv).1
 ·exact fun hm=>(hl w hm).2 h2
theorem aPO (hs:Ts T) (hT:T.length≤1500) (hi:i≤T.length) (hK:100000<K) (hb:100000<b):Z T e K i (fun K p=>b5 (uN K p 1)) (fun x t=>(Sx x.1∧pr.sz x.1≤14 * t.length)∧t=pr.gC x.1) zN b:=by
 obtain ⟨x,h1,h2⟩:=aR1 (T:=T) (e:=e) (by omega) hs T.length K i 1 (by omega) hi (by omega) (by omega) (by omega)
 cases h2 with
 | er j k a v hk=>exact .inl ⟨_,j,k,a,h1,rfl⟩
 | ok j v hj hj2 hq =>
   obtain ⟨q1,q2,q3⟩:=hq
   have hsz:=bV (aRi q1) (aLI _ (vU q1))
   refine .inr ⟨_,j,pr.gC v,h1,rfl,⟨by omega,hj2,by omega⟩,vU q1,⟨⟨q1,hsz⟩,rfl⟩,fun T' e' i' K' a1 a2 a3 a4=>?_⟩
   exact (aNm _ v (aR _) q1 T' e' i' 1 K' a1 (by omega) (by omega) a2 a3.1 (by omega)).1 (by omega)
theorem aRB:∀ {l:List dM} {x:dM},x∈l→(pr.gC x).length≤(jE l).length:=by
 have fl:∀ (l:List dM) (x:dM),x∈l→(pr.gC x).length≤(l.flatMap fun y=>[44]::pr.gC y).length:=by
  intro l
  induction l with
  | nil=>intro x h;cases h
  | cons y r ih =>
    intro x h
    rw[bG,aB,aC]
    rcases aT.1 h with rfl | h
    ·omega
    ·have:=ih x h;omega
 intro l x h
 cases l with
 | nil=>cases h
 | cons y r =>
   unfold jE
   rw[aB]
   rcases aT.1 h with rfl | h
   ·omega
   ·have:=fl r x h;omega
theorem aIe (hs:Ts T) (hT:T.length≤1500) (hi:i≤T.length) (hK:100001<K) (hb:100001<b) (n:Int) (nm:Bytes):Z T e K i (fun K p=>b5 (F72 K p ⟨13,n,nm,[],[]⟩ 1))
 (fun x t=>∃ wh ag,x.1=⟨13,n,nm,wh,ag⟩∧Wd wh∧(∀ y∈ag,Sx y)∧ag.length≤3∧t=[[46],wh,[40]]++jE ag++[[41]]) l b:=by
 obtain ⟨K,rfl⟩:∃ q,K=q+1:=⟨K - 1,by omega⟩
 obtain ⟨x,h1,h2⟩:=aCB (T:=T) (e:=e) (by omega) hs (aR1 (by omega) hs T.length) K i 1 ⟨13,n,nm,[],[]⟩ rfl (by omega) hi (by omega) (by omega) (by omega)
 cases h2 with
 | er j k a v hk=>exact .inl ⟨_,j,k,a,h1,rfl⟩
 | ok j v hj hj2 hq =>
   obtain ⟨wh,ag,rfl,q1,q2,q3,q4⟩:=hq
   have hk1:∀ w∈aKw,Tk w:=fun w h=>(pK h).tk
   have lX:∀ w∈([[46],wh,[40]]++jE ag++[[41]]:List Bytes),Tk w:=by
    intro w hw
    simp only[bH,aT,List.not_mem_nil,or_false] at hw
    rcases hw with ((rfl | rfl | rfl) | hw) | rfl
    ·exact hk1 _ (by decide)
    ·exact ⟨1,0,q1⟩
    ·exact hk1 _ (by decide)
    ·rcases aGX hw with rfl | ⟨y,hy,hw⟩
     ·exact hk1 _ (by decide)
     ·exact vU (q2 y hy).1 w hw
    ·exact hk1 _ (by decide)
   refine .inr ⟨_,j,[[46],wh,[40]]++jE ag++[[41]],h1,rfl,⟨by omega,hj2,by simp;omega⟩,lX,⟨wh,ag,rfl,q1,fun y hy=>(q2 y hy).1,q3,rfl⟩,fun T' e' i' K' a1 a2 a3 a4=>?_⟩
   obtain ⟨K',rfl⟩:∃ q,K'=q+1:=⟨K' - 1,by omega⟩
   have hr:=(aCD (T:=T') (e:=e') (i:=i') (K:=K') a1 1 (by omega) (by omega) (by omega) ⟨13,n,nm,[],[]⟩ rfl wh ag q1 (fun y hy=>⟨aNm _ y (aR _) (q2 y hy).1,by
    have h3:=bV (aRi (q2 y hy).1) (aLI _ (vU (q2 y hy).1))
    have h4:=aRB hy
    omega⟩) q3 (fun y hy=>(q2 y hy).1) a2).1 (fun y hy=>(q2 y hy).2)
   dsimp only
   rw[hr]
   simp only[aB,aC,aD]
   rw[show i'+(0+1+1+1+(jE ag).length+(0+1))=i'+(jE ag).length+4 by omega]
   rfl
theorem aRC {n:Int} {w wh:Bytes} {ag:List dM} (h:Sx ⟨13,n,w,wh,ag⟩):pr.sz ⟨13,n,w,wh,ag⟩≤14 * (pr.gC ⟨13,n,w,wh,ag⟩).length:=bV (aRi h) (aLI _ (vU h))
theorem aXD (hs:Ts T) (hT:T.length≤1500) (hK:100002<K) (hb:100002<b) (h:cW T i [[84,72,73,83],[83,85,80,69,82]]=true):Z T e K i (fun K p=>b5 (F71 K p 1))
 (fun x t=>(Sx x.1∧pr.sz x.1≤14 * t.length∧∃ w r,t=w::r∧w∈([[84,72,73,83],[83,85,80,69,82]]:List Bytes))∧t=pr.gC x.1) l b:=by
 have hi:=eA h
 obtain ⟨n,hn,hn2⟩:∃ n:Int,n=(if cW T i [[84,72,73,83]]=true then 1 else 2)∧(n=1∨n=2):=⟨_,rfl,by split <;> simp⟩
 obtain ⟨K,rfl⟩:∃ q,K=q+1:=⟨K - 1,by omega⟩
 have e1:b5 (F71 (K+1) (P T e i) 1)=b5 (F72 K (P T e (i+1)) ⟨13,n,[],[],[]⟩ 1):=by rw[s74 (by omega) (by omega) 1 h,← hn]
 rcases aIe (e:=e) (l:=l) hs hT (i:=i+1) (by omega) (K:=K) (b:=b - 1) (by omega) (by omega) n [] with ⟨x,j,k',a,f1,f2⟩ | ⟨x,j,t,f1,f2,⟨c1,c2,c3⟩,f4,⟨wh,ag,g1,g2,g3,g4,g5⟩,f6⟩
 ·exact .inl ⟨x,j,k',a,by dsimp only;rw[e1];exact f1,f2⟩
 ·have hx:Sx x.1:=by rw[g1];exact .own n wh ag hn2 g2 g3 g4
  have ht:(if n=1 then [84,72,73,83] else [83,85,80,69,82])::t=pr.gC x.1:=by rw[g1,aAG wh ag hn2,g5];rfl
  refine .inr ⟨x,j,(if n=1 then [84,72,73,83] else [83,85,80,69,82])::t,by dsimp only;rw[e1];exact f1,f2,⟨by omega,c2,by simp only[aC];omega⟩,by rw[ht];exact vU hx,⟨⟨hx,?_,_,t,rfl,by split <;> simp⟩,ht⟩,fun T' e' i' K' a1 a2 a3 a4=>?_⟩
  ·rw[ht];exact bV (aRi hx) (aLI _ (vU hx))
  ·obtain ⟨b1,b2⟩:=a2
   obtain ⟨K',rfl⟩:∃ q,K'=q+1:=⟨K' - 1,by omega⟩
   have e2:b5 (F71 (K'+1) (P T' e' i') 1)=b5 (F72 K' (P T' e' (i'+1)) ⟨13,n,[],[],[]⟩ 1):=by
    rcases hn2 with rfl | rfl
    ·have b1:Tw T' i' [84,72,73,83]:=b1
     rw[s74 a1 (by omega) 1 (by rw[b1.cW (pK (by decide))];decide),b1.cW (pK (by decide))];rfl
    ·have b1:Tw T' i' [83,85,80,69,82]:=b1
     rw[s74 a1 (by omega) 1 (by rw[b1.cW (pK (by decide))];decide),b1.cW (pK (by decide))];rfl
   dsimp only
   rw[e2,aC,show i'+(t.length+1)=i'+1+t.length by omega]
   exact f6 T' e' (i'+1) K' a1 b2 (by rw[aC,show i'+(t.length+1)=i'+1+t.length by omega] at a3;exact a3) (by omega)
end
end Go.Proofs.YtidjangjfekfjaaGreatDoor.ex

namespace Go.Proofs.YtidjangjfekfjaaGreatDoor.ex
open Go Go.Dl
set_option maxRecDepth 100000
section
variable {A U V X R:Type}
theorem wB (m:Option X) (f:X→Option ((U ⊕ A) ⊕ U)):cN (m.bind f)=m.bind fun x=>cN (f x):=by cases m <;> rfl
theorem oQ (m:Option X) (f:X→Option (A ⊕ U)) (k:U→Option (A ⊕ V)):cO (m.bind f) k=m.bind fun x=>cO (f x) k:=by cases m <;> rfl
theorem mD (m:Option X) (f:X→Option (A ⊕ A)):b5 (m.bind f)=m.bind fun x=>b5 (f x):=by cases m <;> rfl
theorem wX (c:Prop) [Decidable c] (x y:Option ((U ⊕ A) ⊕ U)):cN (if c then x else y)=if c then cN x else cN y:=by split <;> rfl
theorem qL (c:Prop) [Decidable c] (x y:Option (A ⊕ U)) (k:U→Option (A ⊕ V)):cO (if c then x else y) k=if c then cO x k else cO y k:=by split <;> rfl
theorem aAU (c:Prop) [Decidable c] (x y:Option (A ⊕ A)):b5 (if c then x else y)=if c then b5 x else b5 y:=by split <;> rfl
theorem aDo (vs:List Bool) (x:Option ((U ⊕ A) ⊕ U)):cN (fI vs x)=fI vs (cN x):=by
 induction vs with
 | nil=>rfl
 | cons c r ih=>cases c with
   | true=>rw[dZ rfl,dZ rfl];exact ih
   | false=>rfl
theorem aDp (vs:List Bool) (x:Option (A ⊕ U)) (k:U→Option (A ⊕ V)):cO (fI vs x) k=fI vs (cO x k):=by
 induction vs with
 | nil=>rfl
 | cons c r ih=>cases c with
   | true=>rw[dZ rfl,dZ rfl];exact ih
   | false=>rfl
theorem aXw (vs:List Bool) (x:Option (A ⊕ A)):b5 (fI vs x)=fI vs (b5 x):=by
 induction vs with
 | nil=>rfl
 | cons c r ih=>cases c with
   | true=>rw[dZ rfl,dZ rfl];exact ih
   | false=>rfl
def lpF (k:U→Option A):U ⊕ A→Option A
 | .inl u=>k u
 | .inr a=>some a
theorem aH2 (m:Option (U ⊕ A)) (k:U→Option (A ⊕ A)):b5 (cO (cN (m.map (Sum.inl:U ⊕ A→(U ⊕ A) ⊕ U))) k)=m.bind (lpF fun u=>b5 (k u)):=by
 cases m with
 | none=>rfl
 | some x=>cases x <;> rfl
def lpB (k:U→Option (A ⊕ V)):U ⊕ A→Option (A ⊕ V)
 | .inl u=>k u
 | .inr a=>some (.inl a)
theorem aZK (m:Option (U ⊕ A)) (k:U→Option (A ⊕ V)):cO (cN (m.map (Sum.inl:U ⊕ A→(U ⊕ A) ⊕ U))) k=m.bind (lpB k):=by
 cases m with
 | none=>rfl
 | some x=>cases x <;> rfl
end
abbrev uD:List Bytes:=[[73,78,84,69,82,70,65,67,69],[69,78,68,95,73,78,84,69,82,70,65,67,69],[67,76,65,83,83],[69,78,68,95,67,76,65,83,83],[80,82,79,71,82,65,77],[69,78,68,95,80,82,79,71,82,65,77],[77,69,84,72,79,68],[69,78,68,95,77,69,84,72,79,68],[84,65,83,75],[73,78,84,69,82,86,65,76],[80,82,73,79,82,73,84,89],[69,88,84,69,78,68,83],[73,77,80,76,69,77,69,78,84,83],[65,66,83,84,82,65,67,84],[70,73,78,65,76],[79,86,69,82,82,73,68,69],[86,65,82],[65,84],[73,78],[79,85,84],[73,78,84],[66,79,79,76],[65,82,82,65,89],[79,70],[82,69,70,95,84,79],[82,69,70],[84,79,78],[84,79,70],[84,80],[67,84,85],[67,84,68],[82,95,84,82,73,71],[70,95,84,82,73,71],[84,82,85,69],[70,65,76,83,69],[78,85,76,76],[84,72,73,83],[83,85,80,69,82],[65,83],[78,79,84],[65,78,68],[79,82],[88,79,82],[77,79,68],[73,70],[84,72,69,78],[69,76,83,73,70],[69,76,83,69],[69,78,68,95,73,70],[67,65,83,69],[69,78,68,95,67,65,83,69],[87,72,73,76,69],[68,79],[69,78,68,95,87,72,73,76,69],[70,79,82],[84,79],[66,89],[69,78,68,95,70,79,82],[82,69,84,85,82,78],[69,88,73,84],[83,84,69,80],[68,79,78,69],[67,79,85,78,84],[43],[45],[42],[47],[61],[60,62],[60],[60,61],[62],[62,61],[40],[41],[91],[93],[44],[59],[58],[58,61],[63,61],[46],[46,46]]
theorem aXL:uD.all kwb=true:=by kernel_rfl
theorem gR {w:Bytes} (h:w∈uD):Kw w:=kw (aW.1 aXL w h)
section
variable {X:Type} [Pr X] {T:List fS} {e:Int} {K i:Nat} {l:List Bytes} {b:Nat} {pv:X→List Bytes→Prop}
def aRD (p:cV):fS:=tok p.bZ p.lT p.fi.toNat
theorem Z.aZP {k:Nat→cV→fS→Option X} {fl:X→List Bytes} (h:Zx T e K i (fun K p=>k K p (aRD p)) pv fl b):Zx T e K i (fun K p=>(cX true (b5 (F24 K p)) default).bind (k K p)) pv fl b:=by
 have:∀ (T:List fS) (e:Int) (i K:Nat),(cX true (b5 (F24 K (P T e i))) default)=some (aRD (P T e i)):=fun T e i K=>by
  rw[cE,p31];rfl
 rcases h with h | ⟨x,j,t,e1,e2,e3,e4,e5,e6⟩
 ·exact .inl (by (try dsimp only);rw[this];exact h)
 ·exact .inr ⟨x,j,t,by (try dsimp only);rw[this];exact e1,e2,e3,e4,e5,fun T' e' i' K' a1 a2 a3 a4=>by (try dsimp only);rw[this];exact e6 T' e' i' K' a1 a2 a3 a4⟩
end
abbrev tmL:List Bytes:=[[84,79,78],[84,79,70],[84,80],[67,84,85],[67,84,68],[82,95,84,82,73,71],[70,95,84,82,73,71]]
section
variable {T:List fS} {e:Int} {K i:Nat} {l:List Bytes} {b:Nat}
theorem aFT {n:Int} (h1 : -32768≤n) (h2:n≤32768):zZ n:=⟨by omega,by omega⟩
theorem aVb:∀ w∈tmL,pr.named ((first (fun v=>w == v) tmL:Nat):Int) pr.timers=w∧1≤first (fun v=>w == v) tmL∧first (fun v=>w == v) tmL≤7:=by decide
theorem i0:zZ 0:=⟨by decide,by decide⟩
theorem Z.val {A:Type} {v:A} {pv:A × cV→List Bytes→Prop} (hi:i≤T.length) (hp:∀ p,pv (v,p) []):Z T e K i (fun _ p=>some (v,p)) pv l b:=Z.ret (f:=fun q=>(v,q)) hi (fun _=>rfl) (fun _ _=>rfl) hp
theorem aPP {ws:List Bytes} (h:cW T i ws=true):(tok T e i).eG∈ws:=by
 have hi:=eA h
 unfold cW at h
 rw[aK,bQ] at h
 unfold tok
 rw[aJ hi];exact h.2
variable {k a:Int}
theorem jW (hK:100000<K) (w:Bytes):b5 (fV K (PE T e i k a) [w])=some (PE T e i k a):=vP (by omega)
theorem we2 (hK:100000<K) (w w2:Bytes):b5 (fV K (PE T e i k a) [w,w2])=some (PE T e i k a):=aRz (by omega) _ (by simp) (by simp) i k a
theorem we3 (hK:100000<K) (w w2 w3:Bytes):b5 (fV K (PE T e i k a) [w,w2,w3])=some (PE T e i k a):=aRz (by omega) _ (by simp) (by simp) i k a
theorem aD5 (hK:100000<K) (d:Int):b5 (uN K (PE T e i k a) d)=some (⟨5,0,(tok T e i).eG,[],[]⟩,PE T e i k a):=by
 obtain ⟨q,rfl⟩:∃ q,K=q+2:=⟨K - 2,by omega⟩
 exact aQA
theorem aAi (hK:100000<K):b5 (zT K (PE T e i k a))=some (⟨1,0,0,[]⟩,PE T e i k a):=by
 have aVc:∀ K,b5 (aLL K)=some tmL:=fun _=>rfl
 unfold zT
 simp only[wB,oQ,mD,wX,qL,aAU,cH,cC,cG,cD,cS,dS,eE,aVc,aA,cE,aFb,aDU,qF,lS,jW hK,aE,if_false,bA,if_true]
theorem lB (t l2:List Bytes):nh [] t l2:=by
 cases t with
 | nil=>exact fun w h=>by cases h
 | cons w r=>exact ⟨by simp,by simp,by simp⟩
theorem Z.int {X:Type} [Pr X] {pv:X→List Bytes→Prop} {fl:X→List Bytes} {k:Nat→Int × cV→Option X} (hs:Ts T) (hT:T.length≤1500) (hK:1000<K) (hb:1000<b) (j0:∀ v j k' a,Bd T e (k K (v,PE T e j k' a)))
 (hA:∀ n j,-32768≤n→n≤32768→i+(gT n).length≤j→j≤T.length→Zx T e K j (fun K q=>k K (n,q)) (fun x t=>pv x (gT n++t)) fl b):Zx T e K i (fun K p=>(b5 (mC K p)).bind (k K)) pv fl b :=
 Z.bv (uW:=fun n t=>(-32768≤n∧n≤32768)∧t=gT n) (l1:=[]) (aSR (b:=1001) hs hT hK (by omega)) j0 (fun n t j a1 a2 q=>by
  obtain ⟨⟨q1,q2⟩,rfl⟩:=q
  exact (hA n j q1 q2 a1 a2).aJP (fun x t h=>⟨h,lB _ _⟩)) (by omega)
theorem Z.expr {X:Type} [Pr X] {pv:X→List Bytes→Prop} {fl:X→List Bytes} {k:Nat→dM × cV→Option X} (hs:Ts T) (hT:T.length≤1500) (hi:i≤T.length) (hK:100000<K) (hb:100001≤b) (j0:∀ v j k' a,Bd T e (k K (v,PE T e j k' a)))
 (hA:∀ v j,Sx v→pr.sz v≤14 * (pr.gC v).length→i+(pr.gC v).length≤j→j≤T.length→Zx T e K j (fun K q=>k K (v,q)) (fun x t=>pv x (pr.gC v++t)∧nh zN t (fl x)) fl b):Zx T e K i (fun K p=>(b5 (uN K p 1)).bind (k K)) pv fl b :=
 Z.bv (uW:=fun v t=>(Sx v∧pr.sz v≤14 * t.length)∧t=pr.gC v) (l1:=zN) (aPO (b:=100001) hs hT hi hK (by omega)) j0 (fun n t j a1 a2 q=>by
  obtain ⟨⟨q1,q2⟩,rfl⟩:=q
  exact hA n j q1 q2 a1 a2) hb
theorem aXM (hs:Ts T) (hT:T.length≤1500) (hi:i≤T.length) (hK:100000<K) (hb:100000<b):Z T e K i (fun K p=>b5 (zT K p)) (fun x t=>(pr.okT x.1∧x.1.b9≠0)∧t=pr.rY x.1) [[40]] b:=by
 have aVc:∀ K,b5 (aLL K)=some tmL:=fun _=>rfl
 unfold zT
 simp only[wB,oQ,mD,wX,qL,aAU,cH,cC,cG,cD,cS,dS,eE,aVc,aA]
 refine Z.aZP ?_
 refine Z.aK3 (.inl rfl) (fun h1=>?_) (fun h1=>?_)
 ·simp only[if_true]
  refine Z.name hs hT (fun v j k a=>Bd.one rfl) fun w hw hi2 hk=>?_
  exact Z.val (by omega) fun p=>⟨⟨⟨⟨i0,i0⟩,by show (6:Int)≠0;decide⟩,rfl⟩,w,[],0,rfl,hw⟩
 simp only[aE,if_false]
 refine Z.isb (ws:=tmL) (fun w hw=>gR ((show ∀ w∈tmL,w∈uD by decide) w hw)) (by decide) (by omega) (by omega) (fun h2=>?_) (fun h2=>?_)
 ·obtain ⟨w,hw⟩:∃ w,w=(tok T e i).eG:=⟨_,rfl⟩
  have hm:w∈tmL:=by rw[hw];exact aPP h2
  obtain ⟨f1,f2,f3⟩:=aVb w hm
  have hwr:IntKind.i64.wrap ((((first (fun v=>w == v) tmL:Nat):Int) - 1)+1)=((first (fun v=>w == v) tmL:Nat):Int):=by rw[wrap64 (by omega) (by omega)];omega
  have hk:Kw w:=gR ((show ∀ w∈tmL,w∈uD by decide) w hm)
  have hone:∀ (T:List fS) (e:Int) (i K:Nat),T.length≤100000→i<T.length→100<K→(tok T e i).eG=w→(if True then ((cX true (b5 (F40 K tmL (aRD (P T e i)).eG)) default).bind fun r22=>some (((⟨7,IntKind.i64.wrap (r22+1),0,[]⟩:kI),(⟨(P T e i).bZ,IntKind.i64.wrap ((P T e i).fi+1),(P T e i).lT,(P T e i).j9⟩:cV)))) else none)=some (((⟨7,((first (fun v=>w == v) tmL:Nat):Int),0,[]⟩:kI),P T e (i+1))):=by
   intro T e i K hT hi hK ht
   have e1:(aRD (P T e i)).eG=w:=ht
   rw[aJ trivial,cE,e1,aEj hK tmL (by decide),aA,hwr]
   have:IntKind.i64.wrap ((P T e i).fi+1)=((i+1:Nat):Int):=by
    show IntKind.i64.wrap ((i:Int)+1)=_
    rw[wrap64 (by omega) (by omega)];omega
   rw[this];rfl
  refine Z.step1 (g':=fun _ q=>some (((⟨7,((first (fun v=>w == v) tmL:Nat):Int),0,[]⟩:kI),q))) (w:=w) hk.tk (eA h2) ?_ (hone T e i K (by omega) (eA h2) (by omega) hw.symm) fun T' e' i' K' a1 a2 a4=>hone T' e' i' K' a1 a2.1 (by omega) a2.text
  refine Z.val (by have:=eA h2;omega) fun p=>?_
  refine ⟨⟨⟨⟨⟨⟨by dsimp only;omega,by dsimp only;omega⟩,i0⟩,by show (7:Int)≠0;decide⟩,?_⟩,aAc hk (by intro g;exact hk.tk.real.1 (aS.1 g)) _ _⟩,w,[],rfl,hm⟩
  show [w]=pr.rY ⟨7,((first (fun v=>w == v) tmL:Nat):Int),0,[]⟩
  have:pr.rY ⟨7,((first (fun v=>w == v) tmL:Nat):Int),0,[]⟩=[pr.named ((first (fun v=>w == v) tmL:Nat):Int) pr.timers]:=rfl
  rw[this,f1]
 simp only[aE,if_false]
 have cl:∀ {w:Bytes} {ws:List Bytes} {r l2:List Bytes},w∈uD→w ∉ ws→nh ws (w::r) l2:=fun h1 h2=>aAc (gR h1) h2 _ _
 refine Z.accept (gR (by decide)) hT (by omega) (by omega) (fun h3=>?_) (fun h3=>?_)
 ·simp only[if_true]
  exact Z.val (by have:=eA h3;omega) fun p=>⟨⟨⟨⟨⟨i0,i0⟩,by show (2:Int)≠0;decide⟩,rfl⟩,cl (by decide) (by decide)⟩,cl (by decide) (by decide)⟩
 simp only[aE,if_false]
 refine Z.accept (gR (by decide)) hT (by omega) (by omega) (fun h4=>?_) (fun h4=>?_)
 ·simp only[if_true]
  refine Z.name hs hT (fun v j k a=>Bd.one rfl) fun w hw hi2 hk=>?_
  exact Z.val (by omega) fun p=>⟨⟨⟨⟨⟨⟨i0,i0⟩,by show (5:Int)≠0;decide⟩,rfl⟩,cl (by decide) (by decide)⟩,cl (by decide) (by decide)⟩,cl (by decide) (by decide)⟩
 simp only[aE,if_false]
 refine Z.accept (gR (by decide)) hT (by omega) (by omega) (fun h5=>?_) (fun h5=>?_)
 ·simp only[if_true]
  refine Z.want (gR (by decide)) hT (by omega) (by omega) (fun j k a=>by simp only[aD6,aA,we3 hK];exact Bd.one rfl) fun h6=>?_
  refine Z.number hs hT (fun v j k a=>by simp only[aA,we3 hK];exact Bd.one rfl) fun m hm h7=>?_
  dsimp only
  refine Z.aXJ (gR (by decide)) (gR (by decide)) (gR (by decide)) hT (by omega) (by omega) (fun j k a=>Bd.one rfl) fun h8=>?_
  exact Z.val (by omega) fun p=>⟨⟨⟨⟨⟨⟨⟨i0,aFT (n:=(m:Int)) (by omega) (by omega)⟩,by show (4:Int)≠0;decide⟩,(by
   show _=pr.rY ⟨4,0,(m:Int),[]⟩
   have:pr.rY ⟨4,0,(m:Int),[]⟩=[[65,82,82,65,89],[91]]++gT (m:Int)++[[93],[79,70],[73,78,84]]:=rfl
   rw[this,sY];rfl)⟩,cl (by decide) (by decide)⟩,cl (by decide) (by decide)⟩,cl (by decide) (by decide)⟩,cl (by decide) (by decide)⟩
 simp only[aE,if_false]
 refine Z.want (gR (by decide)) hT (by omega) (by omega) (fun j k a=>by simp only[lS,aA,bA,if_true];exact Bd.one rfl) fun h6=>?_
 refine Z.accept (gR (by decide)) hT (by omega) (by omega) (fun h7=>?_) (fun h7=>?_)
 ·simp only[bN,aE,if_false]
  refine Z.int hs hT (by omega) (by omega) (fun v j k a=>by simp only[aA,jW hK,xJ];exact Bd.one rfl) fun lo j1 lo1 lo2 lo3 lo4=>?_
  dsimp only
  refine Z.want (gR (by decide)) hT (by omega) (by omega) (fun j k a=>by simp only[aA,jW hK,xJ];exact Bd.one rfl) fun h8=>?_
  refine Z.int hs hT (by omega) (by omega) (fun v j k a=>by simp only[aA,jW hK];exact Bd.one rfl) fun hi' j2 hi1 hi2 hi3 hi4=>?_
  dsimp only
  refine Z.want (gR (by decide)) hT (by omega) (by omega) (fun j k a=>Bd.one rfl) fun h9=>?_
  refine Z.val (by omega) fun p=>?_
  exact ⟨⟨⟨⟨⟨⟨⟨⟨aFT lo1 lo2,aFT hi1 hi2⟩,by show (3:Int)≠0;decide⟩,(by
   show _=pr.rY ⟨3,lo,hi',[]⟩
   have:pr.rY ⟨3,lo,hi',[]⟩=[[73,78,84],[40]]++gT lo++[[46,46]]++gT hi'++[[41]]:=rfl
   rw[this];simp)⟩,cl (by decide) (by decide)⟩,cl (by decide) (by decide)⟩,cl (by decide) (by decide)⟩,cl (by decide) (by decide)⟩,cl (by decide) (by decide)⟩
 ·simp only[bA,if_true]
  refine Z.val (by omega) fun p=>?_
  exact ⟨⟨⟨⟨⟨⟨⟨⟨⟨i0,i0⟩,by show (1:Int)≠0;decide⟩,rfl⟩,cl (by decide) (by decide)⟩,cl (by decide) (by decide)⟩,cl (by decide) (by decide)⟩,cl (by decide) (by decide)⟩,cl (by decide) (by decide)⟩,fun w h=>h⟩
end
end Go.Proofs.YtidjangjfekfjaaGreatDoor.ex

namespace Go.Proofs.YtidjangjfekfjaaGreatDoor.ex
open Go Go.Dl
set_option maxRecDepth 100000
theorem aAf {X Y:Type} (c:Prop) [Decidable c] (x y:Option X) (f:X→Option Y):(if c then x else y).bind f=if c then x.bind f else y.bind f:=by split <;> rfl
theorem aDq {X Y:Type} (vs:List Bool) (x:Option X) (f:X→Option Y):(fI vs x).bind f=fI vs (x.bind f):=by
 induction vs with
 | nil=>rfl
 | cons c r ih=>cases c with
   | true=>rw[dZ rfl,dZ rfl];exact ih
   | false=>rfl
def xL (K:Nat) (p:cV):Option (Int × cV):=(b5 (kD K p [58,61])).bind fun r=>if r.1=true then (b5 (mC K r.2)).bind fun q=>some (q.1,q.2) else some (0,r.2)
def aPQ (K:Nat) (p:cV):Option (Int × cV):=(b5 (kD K p [73,78])).bind fun r=>if (!r.1)=true then (b5 (fV K r.2 [[79,85,84]])).bind fun q=>some (2,q) else some (1,r.2)
def aMj (K:Nat) (p:cV):Option ((Int × Int) × cV):=(b5 (kD K p [65,84])).bind fun r=>if r.1=true then (aPQ K r.2).bind fun u=>(b5 (F67 K u.2)).bind fun q=>some ((u.1,q.1),q.2) else some ((0,0),r.2)
def aMk (K:Nat) (p:cV):Option (fO × cV):=(b5 (fV K p [[86,65,82]])).bind fun p=>(b5 (s8 K p)).bind fun r=>(b5 (fV K r.2 [[58]])).bind fun p=>(b5 (zT K p)).bind fun ty=>(xL K ty.2).bind fun n=>(aMj K n.2).bind fun d=>(b5 (fV K d.2 [[59]])).bind fun p=>some (⟨r.1,⟨ty.1.b9,ty.1.jJ,ty.1.jM,ty.1.cA⟩,n.1,d.1.1,d.1.2⟩,p)
def aDu (K:Nat) (u:cV × List fO):Option (((cV × List fO) ⊕ (List fO × cV)) ⊕ (cV × List fO)):=(cX true (b5 (oF K u.1 [[86,65,82]])) default).bind fun c=>if c=true then (b5 (qV K u.1 (Int.ofNat u.2.length) 8)).bind fun p=>(aMk K p).bind fun r=>fI [room ((u.2.length+[r.1].length) * 80)] (some (.inr (r.2,u.2++[r.1]))) else some (.inl (.inl (u.1,u.2)))
theorem aPR (K:Nat) (p:cV):b5 (F81 K p)=(iter K (aDu K) (p,[])).bind (lpF fun u=>some (u.2,u.1)):=by
 unfold F81
 rw[aH2]
 congr 2
 funext u
 unfold aDu aMk aMj aPQ xL
 simp only[wB,oQ,wX,qL,aDo,aDp,aAf,aDq,cH,cC,cG,cD,cS,bE,aA]
section
variable {T:List fS} {e:Int} {K i:Nat} {l:List Bytes} {b:Nat} {k a:Int}
theorem aDv:xL K (PE T e i k a)=some (0,PE T e i k a):=by
 unfold xL
 rw[lS,aA,aG (by simp)]
theorem aEL:aMj K (PE T e i k a)=some ((0,0),PE T e i k a):=by
 unfold aMj
 rw[lS,aA,aG (by simp)]
def aDw (n:Int):List Bytes:=if n=0 then [] else [[58,61]]++gT n
theorem aVd (hs:Ts T) (hT:T.length≤1500) (hi:i≤T.length) (hK:100000<K) (hb:100000<b):Z T e K i xL (fun x t=>(-32768≤x.1∧x.1≤32768)∧t=aDw x.1) [[58,61]] b:=by
 cases h:cW T i [[58,61]]
 ·refine .inr ⟨(0,P T e i),i,[],?_,rfl,⟨aR _,hi,by simp⟩,by simp,⟨⟨by show (-32768:Int)≤0;decide,by show (0:Int)≤32768;decide⟩,rfl⟩,fun T' e' i' K' a1 a2 a3 a4=>?_⟩
  ·unfold xL
   rw[nJ (by omega) (by omega) h,aA,aG (by simp)]
  ·have a5:cW T' i' [[58,61]]=false:=a3.1
   unfold xL
   rw[nJ a1 (by omega) a5,aA,aG (by simp)];rfl
 ·have hl:=eA h
  have hg:∀ (T:List fS) (e:Int) (i K:Nat),T.length≤100000→100<K→cW T i [[58,61]]=true→xL K (P T e i)=(b5 (mC K (P T e (i+1)))).bind fun q=>some (q.1,q.2):=fun T e i K a1 a2 a3=>by
   unfold xL
   rw[sN a1 a2 a3,aA,aJ rfl]
  rcases aSR (e:=e) (i:=i+1) (l:=[]) (b:=b) hs hT (K:=K) (by omega) (by omega) with ⟨x,j,k',a,e1,e2⟩ | ⟨x,j,t,e1,e2,⟨c1,c2,c3⟩,e4,⟨⟨q1,q2⟩,q3⟩,e6⟩
  ·exact .inl ⟨x,j,k',a,by rw[hg _ _ _ _ (by omega) (by omega) h,show b5 (mC K (P T e (i+1)))=_ from e1];rfl,e2⟩
  ·by_cases h0:x.1=0
   ·refine .inr ⟨x,j,[],by rw[hg _ _ _ _ (by omega) (by omega) h,show b5 (mC K (P T e (i+1)))=_ from e1];rfl,e2,⟨by omega,c2,by simp;omega⟩,by simp,⟨⟨q1,q2⟩,by unfold aDw;rw[aJ h0]⟩,fun T' e' i' K' a1 a2 a3 a4=>?_⟩
    have a5:cW T' i' [[58,61]]=false:=a3.1
    unfold xL
    rw[nJ a1 (by omega) a5,aA,aG (by simp)]
    show some ((0:Int),P T' e' i')=some (x.1,P T' e' (i'+0))
    rw[h0];rfl
   ·refine .inr ⟨x,j,[58,61]::t,by rw[hg _ _ _ _ (by omega) (by omega) h,show b5 (mC K (P T e (i+1)))=_ from e1];rfl,e2,⟨by omega,c2,by simp;omega⟩,fun w hw=>?_,⟨⟨q1,q2⟩,by unfold aDw;rw[aG h0,q3];rfl⟩,fun T' e' i' K' a1 a2 a3 a4=>?_⟩
    ·rcases aT.1 hw with rfl | hw
     ·exact (gR (by decide)).tk
     ·exact e4 w hw
    ·have t1:Tw T' i' [58,61]:=a2.1
     have h6:=e6 T' e' (i'+1) K' a1 a2.2 ⟨by unfold cW;simp,by simp,by simp⟩ a4
     dsimp only at h6
     rw[hg _ _ _ _ a1 (by omega) (by rw[t1.cW (gR (by decide))];decide),h6,aC,show i'+(t.length+1)=i'+1+t.length by omega];rfl
def aPS (d s:Int):List Bytes:=if d=1 then [[65,84],[73,78]]++gT s else if d=2 then [[65,84],[79,85,84]]++gT s else []
theorem cl {w:Bytes} {ws:List Bytes} {r l2:List Bytes} (h1:w∈uD) (h2:w ∉ ws):nh ws (w::r) l2:=aAc (gR h1) h2 _ _
theorem aXN (hs:Ts T) (hT:T.length≤1500) (hi:i≤T.length) (hK:100000<K) (hb:100000<b):Z T e K i aMj (fun x t=>(0≤x.1.2∧x.1.2≤32768∧(x.1.1=0∨x.1.1=1∨x.1.1=2))∧t=aPS x.1.1 x.1.2) [[65,84]] b:=by
 unfold aMj aPQ
 simp only[aAf,bE,aA]
 refine Z.accept (gR (by decide)) hT (by omega) (by omega) (fun h1=>?_) (fun h1=>?_)
 ·simp only[if_true]
  refine Z.accept (gR (by decide)) hT (by omega) (by omega) (fun h2=>?_) (fun h2=>?_)
  ·simp only[bN,aE,if_false]
   refine Z.number hs hT (fun v j k a=>Bd.one rfl) fun m hm h7=>?_
   refine Z.val (by omega) fun p=>⟨⟨by show (0:Int)≤(m:Int);omega,by show (m:Int)≤32768;omega,.inr (.inl rfl)⟩,?_⟩
   show _=[[65,84],[73,78]]++gT (m:Int)
   rw[sY];rfl
  ·simp only[bA,if_true]
   refine Z.want (gR (by decide)) hT (by omega) (by omega) (fun j k a=>by simp only[aD6,aA];exact Bd.one rfl) fun h3=>?_
   refine Z.number hs hT (fun v j k a=>Bd.one rfl) fun m hm h7=>?_
   refine Z.val (by omega) fun p=>⟨⟨⟨by show (0:Int)≤(m:Int);omega,by show (m:Int)≤32768;omega,.inr (.inr rfl)⟩,?_⟩,cl (by decide) (by decide)⟩
   show _=[[65,84],[79,85,84]]++gT (m:Int)
   rw[sY];rfl
 ·simp only[aE,if_false]
  exact Z.val hi fun p=>⟨⟨⟨by show (0:Int)≤0;decide,by show (0:Int)≤32768;decide,.inl rfl⟩,rfl⟩,fun w h=>h⟩
theorem aRE {n:Int} {l1 r l2:List Bytes} (h:[58,61] ∉ l1) (hr:nh l1 r l2):nh l1 (aDw n++r) l2:=by
 unfold aDw
 split
 ·exact hr
 ·exact aAc (gR (by decide)) h _ _
theorem aPT {d s:Int} {l1 r l2:List Bytes} (h:[65,84] ∉ l1) (hr:nh l1 r l2):nh l1 (aPS d s++r) l2:=by
 unfold aPS
 split
 ·exact aAc (gR (by decide)) h _ _
 ·split
  ·exact aAc (gR (by decide)) h _ _
  ·exact hr
theorem Z.typ {X:Type} [Pr X] {pv:X→List Bytes→Prop} {fl:X→List Bytes} {k:Nat→kI × cV→Option X} (hs:Ts T) (hT:T.length≤1500) (hi:i≤T.length) (hK:100000<K) (hb:100001≤b) (j0:∀ v j k' a,Bd T e (k K (v,PE T e j k' a)))
 (hA:∀ v j,pr.okT v→v.b9≠0→i+(pr.rY v).length≤j→j≤T.length→Zx T e K j (fun K q=>k K (v,q)) (fun x t=>pv x (pr.rY v++t)∧nh [[40]] t (fl x)) fl b):Zx T e K i (fun K p=>(b5 (zT K p)).bind (k K)) pv fl b :=
 Z.bv (uW:=fun v t=>(pr.okT v∧v.b9≠0)∧t=pr.rY v) (l1:=[[40]]) (aXM (b:=100001) hs hT hi hK (by omega)) j0 (fun n t j a1 a2 q=>by
  obtain ⟨⟨q1,q2⟩,rfl⟩:=q
  exact hA n j q1 q2 a1 a2) hb
theorem aXO (hK:100000<K):∃ v,aMk K (PE T e i k a)=some (v,PE T e i k a):=by
 unfold aMk
 simp only[qG,jW hK,aAi hK,aDv,aEL,aA]
 exact ⟨_,rfl⟩
theorem aXP (hs:Ts T) (hT:T.length≤1500) (hi:i≤T.length) (hK:100000<K) (hb:100001<b):Z T e K i aMk (fun x t=>pr.okV x.1∧t=pr.sX x.1) [] b:=by
 unfold aMk
 refine Z.want (gR (by decide)) hT (by omega) (by omega) (fun j k a=>by simp only[qG,jW hK,aAi hK,aDv,aEL,aA];exact Bd.one rfl) fun h1=>?_
 refine Z.name hs hT (fun v j k a=>by simp only[jW hK,aAi hK,aDv,aEL,aA];exact Bd.one rfl) fun w hw h2 hk=>?_
 dsimp only
 refine Z.want (gR (by decide)) hT (by omega) (by omega) (fun j k a=>by simp only[jW hK,aAi hK,aDv,aEL,aA];exact Bd.one rfl) fun h3=>?_
 refine Z.typ hs hT (by omega) hK (by omega) (fun v j k a=>by simp only[jW hK,aDv,aEL,aA];exact Bd.one rfl) fun ty j o1 o2 o3 o4=>?_
 dsimp only
 refine Z.bv (uW:=fun n t=>(-32768≤n∧n≤32768)∧t=aDw n) (l1:=[[58,61]]) (aVd (b:=100001) hs hT (by omega) hK (by omega)) (fun v j k a=>by simp only[jW hK,aEL,aA];exact Bd.one rfl) (fun n t1 j1 j2 j3 q=>?_) (by omega)
 obtain ⟨⟨n1,n2⟩,rfl⟩:=q
 dsimp only
 refine Z.bv (uW:=fun (d:Int × Int) t=>(0≤d.2∧d.2≤32768∧(d.1=0∨d.1=1∨d.1=2))∧t=aPS d.1 d.2) (l1:=[[65,84]]) (aXN (b:=100001) hs hT (by omega) hK (by omega)) (fun v j k a=>by simp only[jW hK,aA];exact Bd.one rfl) (fun d t2 j4 j5 j6 q=>?_) (by omega)
 obtain ⟨⟨d1,d2,d3⟩,rfl⟩:=q
 dsimp only
 refine Z.want (gR (by decide)) hT (by omega) (by omega) (fun j k a=>Bd.one rfl) fun h9=>?_
 refine Z.val (by omega) fun p=>?_
 refine ⟨⟨⟨⟨⟨o1,aFT n1 n2,aFT (by show -32768≤d.2;omega) d2⟩,?_⟩,aRE (by decide) (aPT (by decide) (cl (by decide) (by decide)))⟩,aPT (by decide) (cl (by decide) (by decide))⟩,cl (by decide) (by decide)⟩
 show _=[[86,65,82],w,[58]]++pr.rY ty++aDw n++aPS d.1 d.2++[[59]]
 simp
theorem wD (hK:100000<K):b5 (F81 K (PE T e i k a))=some ([],PE T e i k a):=by
 obtain ⟨K,rfl⟩:∃ q,K=q+1:=⟨K - 1,by omega⟩
 rw[aPR,gA]
 unfold aDu
 rw[cE,qF];rfl
theorem aJ3 (l:List fO) (v:fO):pr.nE (l++[v])=pr.nE l++pr.sX v:=by
 unfold pr.nE
 rw[pr.uB]
 show _++(pr.sX v++[])=_
 rw[aO]
theorem Z.aFX {V Y:Type} [Pr Y] {pvy:Y→List Bytes→Prop} {l2:List Bytes} {body:Nat→cV × List V→Option (((cV × List V) ⊕ Y) ⊕ (cV × List V))} {k:Nat→cV × List V→Option Y} (tk:List V→List Bytes) (ok:V→Prop) (l:List Bytes) (hK:100000<K) (hT:T.length≤1500) (hi:i≤T.length) (hb:100000<b) (htk:tk []=[])
 (j0:∀ j k' a dR,body K (PE T e j k' a,dR)=some (.inl (.inl (PE T e j k' a,dR)))) (aH3:∀ j k' a dR,Bd T e (k K (PE T e j k' a,dR)))
 (hr:∀ dR j,j≤T.length→(∀ v∈dR,ok v)→dR.length≤1500→Z T e K j (fun K q=>body K (q,dR)) (fun x t=>∃ v p,x = .inr (p,dR++[v])∧ok v∧tk (dR++[v])=tk dR++t∧t≠[]) [] b ∨
  Z T e K j (fun K q=>body K (q,dR)) (fun x t=>∃ p,x = .inl (.inl (p,dR))∧t=[]) l b)
 (hA:∀ dR j,(∀ v∈dR,ok v)→dR.length≤(tk dR).length→i+(tk dR).length≤j→j≤T.length→Z T e K j (fun K q=>k K (q,dR)) (fun y t2=>pvy y (tk dR++t2)∧nh l t2 l2) l2 b) :
 Z T e K i (fun K p=>(iter K (body K) (p,[])).bind (lpF (k K))) pvy l2 b:=by
 have hit:=Z.itr (T:=T) (e:=e) (i:=i) (l:=l) (b:=b) (body:=body) (lr:=fun _=>[]) (u0:=fun p=>(p,([]:List V))) (fun _ _=>rfl) (fun u t=>((∀ v∈u.2,ok v)∧u.2.length≤t.length)∧t=tk u.2) (pvA:=fun x t=>∃ u,x = .inl u∧((∀ v∈u.2,ok v)∧u.2.length≤t.length)∧t=tk u.2) (K:=K) hK hT hi (fun _=>rfl) (fun _ _=>rfl) (fun p=>⟨⟨by simp,by simp⟩,htk.symm⟩) ?_ ?_ hb
 ·refine Z.bind (k:=fun K=>lpF (k K)) hit (fun x j k' a hx=>?_) (fun x t j a1 a2 a3 a4=>?_) (aR _)
  ·cases x with
   | inl u =>
     obtain ⟨p0,dR⟩:=u
     obtain rfl:p0=PE T e j k' a:=hx
     exact aH3 j k' a dR
   | inr u=>exact ⟨_,j,k',a,rfl,hx⟩
  ·obtain ⟨⟨⟨p0,dR⟩,rfl,⟨q1,q2⟩,q3⟩,a5⟩:=a4
   dsimp only at q1 q2 q3
   subst q3
   exact hA dR j q1 q2 a1 a2
 ·intro u j k' a hu
  obtain ⟨p0,dR⟩:=u
  obtain rfl:p0=PE T e j k' a:=hu
  exact ⟨_,j,k',a,j0 j k' a dR,rfl⟩
 ·intro u t0 j h0 hj hu hI
  obtain ⟨p0,dR⟩:=u
  obtain ⟨⟨I1,I2⟩,I3⟩:=hI
  dsimp only at I1 I2 I3
  rcases hr dR j hj I1 (by omega) with h | h
  ·refine .inl ((h.mono (fun x t q=>?_) (fun w h=>h) (aR _)).flw fun x t q w hw=>by cases hw)
   obtain ⟨v,p,rfl,q1,q2,q3⟩:=q
   refine ⟨⟨_,rfl,⟨⟨fun x hx=>?_,?_⟩,?_⟩,q3⟩,lB _ _⟩
   ·rcases bH.1 hx with hx | hx
    ·exact I1 x hx
    ·rw[aS.1 hx];exact q1
   ·have:1≤t.length:=by cases t with | nil=>exact absurd rfl q3 | cons w r=>simp
    simp only[aB,aC,aD];omega
   ·rw[I3];exact q2.symm
  ·refine .inr (h.mono (fun x t q=>?_) (fun w h=>h) (aR _))
   obtain ⟨p,rfl,rfl⟩:=q
   exact ⟨⟨_,rfl,_,rfl,⟨I1,by rw[aO];exact I2⟩,by rw[aO];exact I3⟩,lB _ _⟩
theorem Z.exit {V Y U:Type} [Pr Y] [Pr U] {dR:List V} (hi:i≤T.length) {pv:((cV × List V) ⊕ Y) ⊕ U→List Bytes→Prop} (hp:∀ p,pv (.inl (.inl (p,dR))) []):Z T e K i (fun _ p=>some (.inl (.inl (p,dR)):((cV × List V) ⊕ Y) ⊕ U)) pv l b :=
 Z.ret (f:=fun q=>(.inl (.inl (q,dR)):((cV × List V) ⊕ Y) ⊕ U)) hi (fun _=>rfl) (fun _ _=>rfl) hp
theorem Z.more {V Y:Type} [Pr Y] {dR:List V} (hi:i≤T.length) {pv:((cV × List V) ⊕ Y) ⊕ (cV × List V)→List Bytes→Prop} (hp:∀ p,pv (.inr (p,dR)) []):Z T e K i (fun _ p=>some (.inr (p,dR):((cV × List V) ⊕ Y) ⊕ (cV × List V))) pv l b :=
 Z.ret (f:=fun q=>(.inr (q,dR):((cV × List V) ⊕ Y) ⊕ (cV × List V))) hi (fun _=>rfl) (fun _ _=>rfl) hp
theorem Z.vars {X:Type} [Pr X] {pv:X→List Bytes→Prop} {k:Nat→List fO × cV→Option X} (hs:Ts T) (hT:T.length≤1500) (hi:i≤T.length) (hK:100001<K) (hb:100002<b) (j0:∀ v j k' a,Bd T e (k K (v,PE T e j k' a)))
 (hA:∀ dR j,(∀ v∈dR,pr.okV v)→dR.length≤(pr.nE dR).length→i+(pr.nE dR).length≤j→j≤T.length→Z T e K j (fun K q=>k K (dR,q)) (fun x t=>pv x (pr.nE dR++t)∧nh [[86,65,82]] t l) l b):Z T e K i (fun K p=>(b5 (F81 K p)).bind (k K)) pv l b:=by
 have key:Z T e K i (fun K p=>b5 (F81 K p)) (fun x t=>((∀ v∈x.1,pr.okV v)∧x.1.length≤t.length)∧t=pr.nE x.1) [[86,65,82]] b:=by
  refine Z.eqv ?_ aPR
  refine Z.aFX (body:=aDu) (k:=fun _ u=>some (u.2,u.1)) pr.nE pr.okV [[86,65,82]] (by omega) hT hi (by omega) rfl (fun j k' a dR=>?_) (fun j k' a dR=>Bd.one rfl) (fun dR j hj h1 h2=>?_) fun dR j h1 h2 h3 h4=>?_
  ·unfold aDu
   rw[cE,qF];rfl
  ·cases hv:cW T j [[86,65,82]]
   ·refine .inr ?_
    unfold aDu
    refine Z.isb (fun w hw=>gR (by revert w;decide)) (by decide) (by omega) (by omega) (fun h2=>by rw[hv] at h2;cases h2) (fun h2=>?_)
    simp only[aE,if_false]
    exact Z.exit hj fun p=>⟨⟨p,rfl,rfl⟩,fun w h=>h⟩
   ·refine .inl ?_
    unfold aDu
    refine Z.isb (fun w hw=>gR (by revert w;decide)) (by decide) (by omega) (by omega) (fun h2=>?_) (fun h2=>by rw[hv] at h2;cases h2)
    simp only[if_true]
    refine Z.room (fun j k a=>?_) fun hr=>?_
    ·obtain ⟨v,hv⟩:=aXO (T:=T) (e:=e) (i:=j) (K:=K) (k:=k) (a:=a) (by omega)
     rw[hv,aA,dZ (room_le (by simp;omega)),cB]
     exact Bd.one rfl
    refine Z.bv (uW:=fun v t=>pr.okV v∧t=pr.sX v) (l1:=[]) (aXP (b:=100002) hs hT hj (by omega) (by omega)) (fun v j k a=>by
     rw[dZ (room_le (by simp;omega)),cB];exact Bd.one rfl) (fun v t1 j1 j2 j3 q=>?_) (by omega)
    obtain ⟨q1,rfl⟩:=q
    dsimp only
    refine Z.fI (room_le (by simp;omega)) ?_
    refine Z.more j3 fun p=>?_
    have hv:pr.sX v=[86,65,82]::(pr.sX v).tail:=rfl
    rw[aO]
    exact ⟨⟨⟨v,p,rfl,q1,aJ3 dR v,by rw[hv];simp⟩,_,_,hv,by simp⟩,lB _ _⟩
  ·exact Z.val h4 fun p=>⟨⟨⟨h1,by rw[aO];exact h2⟩,by rw[aO]⟩,fun w h=>h⟩
 exact Z.bv (uW:=fun v t=>((∀ x∈v,pr.okV x)∧v.length≤t.length)∧t=pr.nE v) (l1:=[[86,65,82]]) key j0 (fun n t j a1 a2 q=>by
  obtain ⟨⟨q1,q2⟩,rfl⟩:=q
  exact hA n j q1 q2 a1 a2) (aR _)
end
end Go.Proofs.YtidjangjfekfjaaGreatDoor.ex
