/- No conditions. -/
import Derived.Test.YtidjangjfekfjaaGreatDoorGb
import Derived.Test.YtidjangjfekfjaaGreatDoorLW
import Derived.Test.YtidjangjfekfjaaGreatDoorPP
import Derived.Test.YtidjangjfekfjaaGreatDoorLP
set_option linter.unusedVariables false
set_option linter.unusedSimpArgs false
set_option linter.unusedSectionVars false
namespace Go.Proofs.YtidjangjfekfjaaGreatDoor.ex
open Go Go.Dl
set_option maxHeartbeats 4000000
theorem aIO (K:Nat) (l:List Bytes) (x:Bytes) (hl:l.length≤100) (hK:100<K):b5 (F50 K l x)=some (decide (x∈l)):=by
 obtain ⟨i,h1,h2⟩:=aGJ K l x (by omega) (by omega)
 unfold F50
 rw[h1]
 show some (decide (i ≥ 0))=_
 rw[decide_eq_decide.2 h2]
variable (T:List fS) (e:Int)
def tok (i:Nat):fS:=if i<T.length then T.getD i default else ⟨0,[],0,e⟩
def P (i:Nat):cV:=⟨T,i,e,[]⟩
def PE (i:Nat) (k a:Int):cV:=⟨T,i,e,[(k,a)]⟩
def eV (i:Nat) (k:Int):Bool:=decide (i<T.length) && ((T.getD i default).b9 == k)
def cW (i:Nat) (l:List Bytes):Bool:=(decide (i<T.length) && (((T.getD i default).b9 == 2) || ((T.getD i default).b9 == 4))) && decide ((T.getD i default).eG∈l)
variable {T e} {i:Nat} {k a:Int} {K:Nat}
theorem kK (h:eV T i k=true):i<T.length:=by
 unfold eV at h
 rw[aK] at h
 exact of_decide_eq_true h.1
theorem eA {l:List Bytes} (h:cW T i l=true):i<T.length:=by
 unfold cW at h
 rw[aK,aK] at h
 exact of_decide_eq_true h.1.1
theorem aV3 (f:List (Int × Int)):b5 (F24 K ⟨T,(i:Int),e,f⟩)=some (tok T e i):=by
 unfold F24 cY tok
 dsimp only
 by_cases h:i<T.length
 ·rw[aG (by simp;omega),dZ (eW h),cB,aJ h];rfl
 ·rw[aJ (by simp;omega),aG h];rfl
theorem p31:b5 (F24 K (P T e i))=some (tok T e i):=aV3 _
theorem aFb:b5 (F24 K (PE T e i k a))=some (tok T e i):=aV3 _
theorem p21:b5 (F17 K (P T e i))=some true:=rfl
theorem aTp:b5 (F17 K (PE T e i k a))=some false:=rfl
theorem p69 {q:Int} (hq:q≠0):b5 (F66 K (P T e i) q)=some (eV T i q):=by
 unfold F66
 simp only[p21,cE,p31,aA,dS,bM]
 congr 1
 unfold tok eV
 by_cases h:i<T.length
 ·rw[aJ h,decide_eq_true h,bM]
 ·rw[aG h,decide_eq_false h,Bool.false_and]
  simp;exact fun h=>hq h.symm
theorem aDU {q:Int}:b5 (F66 K (PE T e i k a) q)=some false:=by
 unfold F66
 simp only[aTp,aBN,aA,dS,Bool.false_and]
theorem p29 {l:List Bytes} (hl:l.length≤100) (hK:100<K):b5 (oF K (P T e i) l)=some (cW T i l):=by
 unfold oF cY
 simp only[p31,p21,aA,bM,aIO K l _ hl hK]
 unfold tok cW
 by_cases h:i<T.length
 ·rw[aJ h,decide_eq_true h,bM]
  cases (((T.getD i default).b9 == 2) || ((T.getD i default).b9 == 4)) <;> rfl
 ·rw[aG h,decide_eq_false h];rfl
theorem qF {l:List Bytes}:b5 (oF K (PE T e i k a) l)=some false:=by
 unfold oF cY
 simp only[aFb,aTp,aA,Bool.false_and]
 rfl
theorem p39 {w:Bytes} (hT:T.length≤100000) (hK:100<K):b5 (kD K (P T e i) w)=some (if cW T i [w]=true then (true,P T e (i+1)) else (false,P T e i)):=by
 unfold kD
 simp only[p29 (l:=[w]) (by simp) hK,cE,aA]
 cases h:cW T i [w]
 ·rfl
 ·have:=eA h
  simp only[bN,aE,if_false,if_true,dS]
  have e1:IntKind.i64.wrap ((P T e i).fi+1)=((i+1:Nat):Int):=by
   show IntKind.i64.wrap ((i:Int)+1)=_
   rw[wrap64 (by omega) (by omega)];omega
  rw[e1];rfl
theorem lS {w:Bytes}:b5 (kD K (PE T e i k a) w)=some (false,PE T e i k a):=by
 unfold kD
 simp only[qF,cE,aA]
 rfl
theorem p20 {q:Int}:b5 (F16 K (P T e i) q)=some (PE T e i q (tok T e i).kQ):=by
 unfold F16
 have h0:(!tF (P T e i).j9)=true:=rfl
 rw[aJ h0]
 simp only[p31,cE,aA]
 rfl
theorem aM5 {q:Int}:b5 (F16 K (PE T e i k a) q)=some (PE T e i k a):=rfl
theorem p72:b5 (s8 K (P T e i))=some (if eV T i 1=true then ((tok T e i).eG,⟨T,IntKind.i64.wrap ((i:Int)+1),e,[]⟩) else ([],PE T e i 3 (tok T e i).kQ)):=by
 unfold s8
 simp only[p31,cE,p69 (q:=1) (by decide),aA]
 cases h:eV T i 1
 ·simp only[bA,if_true,p20,aA,aE,if_false];rfl
 ·simp only[bN,aE,if_false,if_true];rfl
theorem qG:b5 (s8 K (PE T e i k a))=some ([],PE T e i k a):=by
 unfold s8
 simp only[aFb,cE,aDU,aA,bA,if_true,aM5]
 rfl
theorem p70:b5 (F67 K (P T e i))=some (if eV T i 3=true then ((tok T e i).fN,⟨T,IntKind.i64.wrap ((i:Int)+1),e,[]⟩) else (0,PE T e i 3 (tok T e i).kQ)):=by
 unfold F67
 simp only[p31,cE,p69 (q:=3) (by decide),aA]
 cases h:eV T i 3
 ·simp only[bA,if_true,p20,aA,aE,if_false];rfl
 ·simp only[bN,aE,if_false,if_true];rfl
abbrev qT:List Bytes:=[[45],[78,79,84]]
abbrev pS:List Bytes:=[[84,82,85,69],[70,65,76,83,69],[78,85,76,76],[84,72,73,83],[83,85,80,69,82],[82,69,70],[68,79,78,69],[67,79,85,78,84],[65,83],[40]]
abbrev qU:List Bytes:=[[45],[78,79,84],[84,82,85,69],[70,65,76,83,69],[78,85,76,76],[84,72,73,83],[83,85,80,69,82],[82,69,70],[68,79,78,69],[67,79,85,78,84],[65,83],[40]]
abbrev opsL:List Bytes:=[[43],[45],[42],[47],[77,79,68],[61],[60,62],[60],[60,61],[62],[62,61],[65,78,68],[79,82],[88,79,82]]
def fY (T:List fS) (i:Nat):Bool:=(eV T i 1 || eV T i 3) || cW T i qU
theorem aFc (l m:List Bytes):cW T i (l++m)=(cW T i l || cW T i m):=by
 unfold cW
 cases (decide (i<T.length) && (((T.getD i default).b9 == 2) || ((T.getD i default).b9 == 4)))
 ·rfl
 ·rw[bM,bM,bM,Bool.eq_iff_iff];simp
theorem kA (w:Bytes) (l:List Bytes):cW T i (w::l)=(cW T i [w] || cW T i l):=aFc [w] l
theorem aM6:cW T i []=false:=by unfold cW;simp
theorem p37 (hK:100<K):b5 (F35 K (P T e i))=some ((eV T i 1 || eV T i 3) || cW T i pS):=by
 unfold F35
 simp only[p69 (q:=1) (by decide),aA]
 cases eV T i 1
 ·simp only[bA,cE,p69 (q:=3) (by decide),aA,bT]
  cases eV T i 3
  ·simp only[bA,cE,p29 (l:=pS) (by decide) hK,aA,bT];rfl
  ·rfl
 ·rfl
theorem aY3:b5 (F35 K (PE T e i k a))=some false:=by
 unfold F35
 simp only[aDU,aA,bA,cE,qF,Bool.or_self]
 rfl
theorem aKn (l:List Bytes):l.any (fun w=>cW T i [w])=cW T i l:=by
 induction l with
 | nil=>rw[aM6];rfl
 | cons w l ih=>rw[List.any_cons,ih];exact (aFc [w] l).symm
def first (f:Bytes→Bool):List Bytes→Nat
 | []=>0
 | w::l=>if f w=true then 1 else match first f l with
   | 0=>0
   | n+1=>n+2
theorem aLF (f:Bytes→Bool) (l:List Bytes):(first f l=0)↔l.any f=false:=by
 induction l with
 | nil=>exact ⟨fun _=>rfl,fun _=>rfl⟩
 | cons w l ih =>
   unfold first
   rw[List.any_cons]
   cases h:f w
   ·simp only[aE,if_false,bT]
    rw[← ih]
    cases first f l <;> simp
   ·simp
theorem aGK {f g:Bytes→Bool} {l:List Bytes} (h:∀ w∈l,f w=g w):first f l=first g l:=by
 induction l with
 | nil=>rfl
 | cons w l ih =>
   unfold first
   rw[h w (bR ..),ih fun x hx=>h x (aV _ hx)]
theorem aGL (l:List Bytes) (hl:l.length≤100) (f:Bytes→Bool) (B:Int→Option ((Unit ⊕ (Unit ⊕ Int)) ⊕ Unit)) (hB:∀ n:Nat,n<l.length→B (n:Int)=if f (l.getD n default)=true then some (.inl (.inr (.inr (n:Int)))) else some (.inr ())) :
 ∀ (K n:Nat),n≤l.length→l.length - n<K→iter K (fun (u:Int)=>(if decide ((u:Int)<(Int.ofNat l.length))=true then (cO (cN (B u)) (fun (_:Unit)=>(some (.inr ((IntKind.i64.wrap (u+1))))))) else (some (.inl (Sum.inl ()))):Option ((Unit ⊕ Int) ⊕ Int))) (n:Int) =
   some (match first f (l.drop n) with
    | 0=>.inl ()
    | m+1=>.inr ((n+m:Nat):Int))
 | 0,n,hn,hk=>absurd hk (by omega)
 | K+1,n,hn,hk=>by
   unfold iter
   dsimp only
   by_cases h:n<l.length
   ·rw[aJ (by simp;omega),hB n h,kL l default n h]
    unfold first
    cases hf:f (l.getD n default)
    ·simp only[aE,if_false,cH,cD]
     rw[wrap64 (by omega) (by omega),show ((n:Int)+1)=((n+1:Nat):Int) by omega]
     rw[aGL l hl f B hB K (n+1) (by omega) (by omega)]
     cases first f (l.drop (n+1)) with
     | zero=>rfl
     | succ m=>simp only[];congr 3;omega
    ·simp only[if_true,cG,cS,Nat.add_zero]
   ·rw[aG (by simp;omega),List.drop_eq_nil_of_le (by omega)]
    rfl
theorem aEj (hK:100<K) (l:List Bytes) (hl:l.length≤100) (x:Bytes):b5 (F40 K l x)=some (((first (fun w=>x == w) l:Nat):Int) - 1):=by
 unfold F40
 simp only[cY]
 have:=aGL l hl (fun w=>x == w) (fun u=>fI [jL u l.length] (if (x == (l.getD (u:Int).toNat default))=true then (some (.inl (Sum.inr (Sum.inr u)))) else (some (.inr ()))))
  (fun n hn=>by rw[eW hn,dZ rfl,cB,aY]) K 0 (by omega) (by omega)
 rw[List.drop_zero,show ((0:Nat):Int)=0 from rfl] at this
 rw[this]
 cases first (fun w=>x == w) l with
 | zero=>rfl
 | succ m=>simp [b5,cO,cN] <;> omega
def opN (T:List fS) (i:Nat):Nat:=first (fun w=>cW T i [w]) opsL
theorem aGM:opN T i=0↔cW T i opsL=false:=by
 unfold opN
 rw[aLF,aKn]
theorem aM9 (h:cW T i opsL=true):opN T i=first (fun w=>(T.getD i default).eG == w) opsL:=by
 unfold opN
 refine aGK fun w _=>?_
 unfold cW at h ⊢
 rw[aK] at h
 rw[h.1,bM,Bool.eq_iff_iff]
 simp
theorem p41:b5 (F39 K)=some opsL:=rfl
theorem aNa {w:Bytes} {p q:cV} {b:Bool} (h:b5 (kD K p w)=some (b,q)) (hq:b=false→∃ x,b5 (F16 K q 3)=some x) (hK:2≤K):b5 (fV K p [w])=if b=true then some q else b5 (F16 K q 3):=by
 obtain ⟨j,rfl⟩:∃ j,K=(j+1)+1:=⟨K - 2,by omega⟩
 unfold fV
 simp only[cY]
 unfold iter
 dsimp only
 rw[aJ (by simp)]
 rw[dZ (by rfl),cB]
 have e0:([w]:List Bytes).getD (0:Int).toNat default=w:=rfl
 rw[e0,h,aA]
 unfold iter
 cases b
 ·obtain ⟨x,hx⟩:=hq rfl
  simp only[bA,if_true,hx,aA,cH,cD,aE,if_false]
  rfl
 ·simp only[bN,aE,if_false,cH,cD,if_true]
  rfl
theorem p93 {w:Bytes} (hT:T.length≤100000) (hK:100<K):b5 (fV K (P T e i) [w])=some (if cW T i [w]=true then P T e (i+1) else PE T e i 3 (tok T e i).kQ):=by
 have h:=p39 (e:=e) (i:=i) (w:=w) hT hK
 cases hb:cW T i [w]
 ·rw[hb] at h
  rw[aNa (b:=false) (q:=P T e i) (by simpa using h) (fun _=>⟨_,p20⟩) (by omega),p20]
  simp
 ·rw[hb] at h
  rw[aNa (b:=true) (q:=P T e (i+1)) (by simpa using h) (fun h=>by cases h) (by omega)]
  simp
theorem vP {w:Bytes} (hK:100<K):b5 (fV K (PE T e i k a) [w])=some (PE T e i k a):=by
 rw[aNa (b:=false) lS (fun _=>⟨_,aM5⟩) (by omega),aM5]
 simp
theorem aDV (hT:T.length≤100000):b5 (s8 K (P T e i))=some (if eV T i 1=true then ((tok T e i).eG,P T e (i+1)) else ([],PE T e i 3 (tok T e i).kQ)):=by
 rw[p72]
 cases h:eV T i 1
 ·rfl
 ·have:=kK h
  rw[wrap64 (by omega) (by omega)];rfl
theorem aDW (hT:T.length≤100000):b5 (F67 K (P T e i))=some (if eV T i 3=true then ((tok T e i).fN,P T e (i+1)) else (0,PE T e i 3 (tok T e i).kQ)):=by
 rw[p70]
 cases h:eV T i 3
 ·rfl
 ·have:=kK h
  rw[wrap64 (by omega) (by omega)];rfl
theorem aV4 {d:Int}:b5 (F38 (K+1) (PE T e i k a) d)=some (⟨5,0,(tok T e i).eG,[],[]⟩,PE T e i k a):=by
 rw[F38]
 simp only[aFb,aDU,lS,qF,qG,cE,aA,aE,if_false,cD,cH]
 rfl
theorem aQA {d:Int}:b5 (uN (K+2) (PE T e i k a) d)=some (⟨5,0,(tok T e i).eG,[],[]⟩,PE T e i k a):=by
 rw[uN]
 simp only[qF,aY3,cE,aA,bA,Bool.or_self,aE,if_false,cD,lS,cH,aV4,aFb,p41,if_true]
 rfl
theorem sN {w:Bytes} (hT:T.length≤100000) (hK:100<K) (h:cW T i [w]=true):b5 (kD K (P T e i) w)=some (true,P T e (i+1)):=by rw[p39 hT hK,aJ h]
theorem nJ {w:Bytes} (hT:T.length≤100000) (hK:100<K) (h:cW T i [w]=false):b5 (kD K (P T e i) w)=some (false,P T e i):=by rw[p39 hT hK,aG (by rw[h];simp)]
theorem aBs {w:Bytes} (hT:T.length≤100000) (hK:100<K) (h:cW T i [w]=true):b5 (fV K (P T e i) [w])=some (P T e (i+1)):=by rw[p93 hT hK,aJ h]
theorem aDX {w:Bytes} (hT:T.length≤100000) (hK:100<K) (h:cW T i [w]=false):b5 (fV K (P T e i) [w])=some (PE T e i 3 (tok T e i).kQ):=by rw[p93 hT hK,aG (by rw[h];simp)]
def mT (K:Nat) (d:Int) (kE:cV × (List dM) × Bool):Option (((cV × (List dM)) ⊕ (dM × cV)) ⊕ (cV × (List dM) × Bool)):=((cX kE.2.2 (b5 (F17 K kE.1)) default).bind (fun qH=>(if (kE.2.2 && qH)=true then (cO (cN (cY ((decide (((Int.ofNat kE.2.1.length):Int) ≥ 3)) && (decide ((d:Int)<6))) (fun (zH:Bool)=>((cX zH (b5 (oF K kE.1 ([[45],[78,79,84]]:List Bytes))) default).bind (fun aFd=>((cX ((!aFd) && zH) (b5 (F35 K kE.1)) default).bind (fun aLG=>(cO (if (zH && (aFd || aLG))=true then ((b5 (F16 K kE.1 5)).bind (fun aQB=>(some (.inr (aQB))))) else (some (.inr (kE.1)))) (fun (aFe:cV)=>((b5 (uN K aFe (IntKind.i64.wrap (d+1)))).bind (fun lK=>(fI [room ((kE.2.1.length+([lK.1].length)) * 72)] (some (.inr (lK.2,(kE.2.1++[lK.1])))))))))))))))) (fun (aAC:cV × (List dM))=>((b5 (kD K aAC.1 ([44]:Bytes))).bind (fun aGN=>(some (.inr (aGN.2,aAC.2,aGN.1))))))) else (some (.inl (Sum.inl (kE.1,kE.2.1)))))))
theorem aNb (K:Nat) (a0:cV) (a1:dM) (d:Int):F72 (K+1) a0 a1 d=((b5 (fV K a0 ([[46]]:List Bytes))).bind (fun r1=>((b5 (s8 K r1)).bind (fun r2=>((b5 (fV K r2.2 ([[40]]:List Bytes))).bind (fun r3=>((b5 (kD K r3 ([41]:Bytes))).bind (fun r4=>(if r4.1=true then (some (.inl ((⟨a1.b9,a1.fN,a1.cA,r2.1,[]⟩:dM),r4.2))) else (cO (cN ((iter K (mT K d) (r4.2,[],true)).map .inl)) (fun (u65:cV × (List dM))=>((b5 (fV K u65.1 ([[41]]:List Bytes))).bind (fun aFf=>(some (.inl ((⟨a1.b9,a1.fN,a1.cA,r2.1,u65.2⟩:dM),aFf)))))))))))))))):=by
 rw[F72];rfl
theorem aNc {d:Int} {l:List dM} {b:Bool}:mT K d (PE T e i k a,l,b)=some (.inl (.inl (PE T e i k a,l))):=by
 unfold mT
 cases b
 ·rfl
 ·simp only[cE,aTp,aA,Bool.and_false,aE,if_false]
theorem vQ {d:Int} {l:List dM} {p:cV}:mT K d (p,l,false)=some (.inl (.inl (p,l))):=rfl
theorem wG:(cW T i qT || ((eV T i 1 || eV T i 3) || cW T i pS))=fY T i:=by
 unfold fY
 have:cW T i qU=(cW T i qT || cW T i pS):=aFc qT pS
 rw[this]
 cases cW T i qT <;> cases (eV T i 1 || eV T i 3) <;> rfl
theorem pJ (hK:100<K) {d:Int} {l:List dM} {v:dM} {p' p'':cV} {b:Bool} (hx:¬ ((3≤l.length∧d<6)∧fY T i=true)) (hd:1≤d∧d≤7) (hl:l.length≤100000)
 (h:b5 (uN K (P T e i) (d+1))=some (v,p')) (h2:b5 (kD K p' [44])=some (b,p'')):mT K d (P T e i,l,true)=some (.inr (p'',l++[v],b)):=by
 unfold mT
 simp only[cE,p21,aA,Bool.and_self,if_true,cY]
 generalize hxx:((decide (((Int.ofNat l.length):Int) ≥ 3)) && (decide ((d:Int)<6)))=x
 have hx':¬ (x=true∧fY T i=true):=by
  rintro ⟨g1,g2⟩
  refine hx ⟨?_,g2⟩
  rw[← hxx] at g1
  simp at g1
  omega
 rw[wrap64 (by omega) (by omega)]
 cases x
 ·simp only[aBN,aA,Bool.and_false,Bool.false_and,aE,if_false,cD,h]
  rw[dZ (room_le (by simp;omega)),cB]
  simp only[cH,cD,h2,aA]
 ·have hs:=wG (T:=T) (i:=i)
  have h0:fY T i=false:=by simpa using hx'
  rw[h0,Bool.or_eq_false_iff] at hs
  simp only[cE,p29 (l:=qT) (by decide) hK,aA,hs.1,bA,Bool.and_self,p37 hK,hs.2,Bool.or_self,Bool.and_false,aE,if_false,cD,h]
  rw[dZ (room_le (by simp;omega)),cB]
  simp only[cH,cD,h2,aA]
theorem aGO (hK:102<K) {d:Int} {l:List dM} (hx:(3≤l.length∧d<6)∧fY T i=true) (hd:1≤d∧d≤7) (hl:l.length≤100000) :
 mT K d (P T e i,l,true)=some (.inr (PE T e i 5 (tok T e i).kQ,l++[⟨5,0,(tok T e i).eG,[],[]⟩],false)):=by
 unfold mT
 simp only[cE,p21,aA,Bool.and_self,if_true,cY]
 have hxx:((decide (((Int.ofNat l.length):Int) ≥ 3)) && (decide ((d:Int)<6)))=true:=by simp;omega
 rw[hxx]
 obtain ⟨q,rfl⟩:∃ q,K=q+2:=⟨K - 2,by omega⟩
 have hs:=wG (T:=T) (i:=i)
 rw[hx.2] at hs
 simp only[cE,p29 (l:=qT) (by decide) (show 100<q+2 by omega),aA,Bool.and_true,bM]
 have hc:((cX (!cW T i qT) (b5 (F35 (q+2) (P T e i))) default))=some (if cW T i qT=true then false else ((eV T i 1 || eV T i 3) || cW T i pS)):=by
  cases cW T i qT
  ·rw[p37 (by omega)];rfl
  ·rfl
 rw[hc,aA]
 have hor:(cW T i qT || (if cW T i qT=true then false else ((eV T i 1 || eV T i 3) || cW T i pS)))=true:=by
  cases hg:cW T i qT
  ·rw[hg] at hs;simpa using hs
  ·rfl
 rw[hor,aJ rfl,p20]
 simp only[aA,cD,aQA]
 rw[dZ (room_le (by simp;omega)),cB]
 simp only[cH,cD,lS,aA]
def aAD (K:Nat) (d n:Int) (nm s:Bytes) (p:cV):Option ((dM × cV) ⊕ (dM × cV)):=(b5 (kD K p ([41]:Bytes))).bind fun r4=>if r4.1=true then some (.inl ((⟨13,n,nm,s,[]⟩:dM),r4.2)) else cO (cN ((iter K (mT K d) (r4.2,[],true)).map .inl)) fun (u65:cV × (List dM))=>(b5 (fV K u65.1 ([[41]]:List Bytes))).bind fun aFf=>some (.inl ((⟨13,n,nm,s,u65.2⟩:dM),aFf))
theorem iP {w:Bytes} (hw:w∈qU) (h:cW T i [w]=true):fY T i=true:=by
 unfold fY
 have:cW T i qU=true:=by
  rw[← aKn,List.any_eq_true]
  exact ⟨w,hw,h⟩
 rw[this,Bool.or_true]
theorem aBb {q:Int} (hq:q=1∨q=3) (h:eV T i q=true):fY T i=true:=by
 unfold fY
 rcases hq with rfl | rfl <;> rw[h] <;> simp
end Go.Proofs.YtidjangjfekfjaaGreatDoor.ex

namespace Go.Proofs.YtidjangjfekfjaaGreatDoor.ex
open Go Go.Dl
set_option maxRecDepth 100000
abbrev Wd (w:Bytes):Prop:=lx.Is 1 w 0
inductive Sx:dM→Prop
 | num (n:Nat):n≤32768→Sx ⟨1,n,[],[],[]⟩
 | lit (k:Int):k=2∨k=3∨k=4→Sx ⟨k,0,[],[],[]⟩
 | name (w:Bytes):Wd w→Sx ⟨5,0,w,[],[]⟩
 | index (w:Bytes) (a:dM):Wd w→Sx a→Sx ⟨6,0,w,[],[a]⟩
 | sign (k:Int) (a:dM):k=7∨k=8→Sx a→Sx ⟨k,0,[],[],[a]⟩
 | bin (n:Nat) (a b:dM):1≤n→n≤14→Sx a→Sx b→Sx ⟨9,n,[],[],[a,b]⟩
 | of (k:Int) (w:Bytes):k=10∨k=11∨k=12→Wd w→Sx ⟨k,0,w,[],[]⟩
 | cast (w:Bytes) (a:dM):Wd w→Sx a→Sx ⟨14,0,w,[],[a]⟩
 | call (w wh:Bytes) (ag:List dM):Wd w→Wd wh→(∀ a,a∈ag→Sx a)→ag.length≤3→Sx ⟨13,0,w,wh,ag⟩
 | own (n:Int) (wh:Bytes) (ag:List dM):n=1∨n=2→Wd wh→(∀ a,a∈ag→Sx a)→ag.length≤3→Sx ⟨13,n,[],wh,ag⟩
def np (k:Int):Bool:=k == 7 || k == 8 || k == 9
def opd (p:Int × Nat):Nat:=if np p.1=true then p.2+1 else p.2
def mx:List Nat→Nat
 | []=>0
 | x::r=>max x (mx r)
def ndK (k:Int) (l:List (Int × Nat)):Nat:=if np k=true then max 1 (mx (l.map opd)) else 1+mx (l.map (·.2))
mutual
def nd:dM→Nat
 | ⟨k,_,_,_,ag⟩=>ndK k (ndL ag)
def ndL:List dM→List (Int × Nat)
 | []=>[]
 | x::r=>(x.b9,nd x)::ndL r
end
theorem aKo:∀ l:List dM,ndL l=l.map fun x=>(x.b9,nd x)
 | []=>by rw[ndL];rfl
 | x::r=>by rw[ndL,aKo r];rfl
theorem aEk (k n:Int) (w s:Bytes) (l:List dM):nd ⟨k,n,w,s,l⟩=ndK k (l.map fun x=>(x.b9,nd x)):=by rw[nd,aKo]
theorem aCy (x:dM):1≤nd x:=by
 obtain ⟨k,n,w,s,l⟩:=x
 rw[aEk];unfold ndK;split <;> omega
def n7 (x:dM):Nat:=opd (x.b9,nd x)
def wH (x:dM):List Bytes:=if np x.b9=true then [[40]]++pr.gC x++[[41]] else pr.gC x
theorem aNd (k:Int):np k=true↔k=7∨k=8∨k=9:=by unfold np;simp [or_assoc]
theorem aFg (l:List dM) (i:Nat) (h:i<l.length):pr.pT (l.map fun x=>(x.b9,pr.gC x)) i=wH (l.getD i default):=by
 unfold pr.pT wH
 rw[bD,aN h]
 have:l.getD i default=l[i]:=by simp [List.getD,aN h]
 rw[this]
 dsimp only[Option.map]
 by_cases hk:l[i].b9=7∨l[i].b9=8∨l[i].b9=9
 ·rw[aJ hk,aJ ((aNd _).2 hk)]
 ·rw[aG hk,aG (fun h=>hk ((aNd _).1 h))]
theorem nT {k k' n n':Int} {w:Bytes} (h:lx.Is k w n) (h':lx.Is k' w n'):k=k'∧n=n':=by
 have a:=lx.wI h (c:=32) (.inl rfl) []
 have b:=lx.wI h' (c:=32) (.inl rfl) []
 rw[a] at b
 injection b with b1 _ b3
 exact ⟨b1,b3⟩
def Kw (w:Bytes):Prop:=∃ q:Int,(q=2∨q=4)∧lx.Is q w 0
def kwb (w:Bytes):Bool:=match lx.step w with
 | .tok k x n=>(k == 2 || k == 4) && (x == w && n == 0) && !(w == [])
 | _=>false
theorem kw {w:Bytes} (h:kwb w=true):Kw w:=by
 unfold kwb at h
 split at h
 ·rename_i k x n hs
  simp only[aK,bK,beq_iff_eq,Bool.not_eq_true',beq_eq_false_iff_ne] at h
  obtain ⟨⟨h1,rfl,rfl⟩,h3⟩:=h
  exact ⟨k,h1,x,h3,hs⟩
 ·cases h
def Tw (T:List fS) (i:Nat) (w:Bytes):Prop:=i<T.length∧(T.getD i default).eG=w∧lx.Is (T.getD i default).b9 w (T.getD i default).fN
def At (T:List fS) (i:Nat):List Bytes→Prop
 | []=>True
 | w::l=>Tw T i w∧At T (i+1) l
variable {T:List fS} {e:Int} {i:Nat} {w:Bytes}
theorem At.app:∀ {a b:List Bytes} {i:Nat},At T i (a++b)↔At T i a∧At T (i+a.length) b
 | [],b,i=>by simp [At]
 | x::a,b,i=>by
   simp only[aM,At,At.app (a:=a),aC,and_assoc]
   rw[show i+1+a.length=i+(a.length+1) by omega]
theorem At.one:At T i [w]↔Tw T i w:=by simp [At]
theorem Tw.tok (h:Tw T i w):tok T e i=T.getD i default:=by unfold ex.tok;rw[aJ h.1]
theorem Tw.text (h:Tw T i w):(ex.tok T e i).eG=w:=by rw[h.tok];exact h.2.1
theorem Tw.eV (h:Tw T i w) {q n:Int} (hq:lx.Is q w n) (z:Int):eV T i z=(q == z):=by
 unfold ex.eV
 rw[decide_eq_true h.1,bM,(nT h.2.2 hq).1]
theorem Tw.num (h:Tw T i w) {q n:Int} (hq:lx.Is q w n):(ex.tok T e i).fN=n:=by rw[h.tok];exact (nT h.2.2 hq).2
theorem Tw.cW (h:Tw T i w) (hk:Kw w) (l:List Bytes):ex.cW T i l=decide (w∈l):=by
 obtain ⟨q,hq,hi⟩:=hk
 unfold ex.cW
 rw[decide_eq_true h.1,bM,(nT h.2.2 hi).1,h.2.1]
 rcases hq with rfl | rfl <;> simp
theorem Tw.noL (h:Tw T i w) {q n:Int} (hi:lx.Is q w n) (hq:q=1∨q=3) (l:List Bytes):ex.cW T i l=false:=by
 unfold ex.cW
 rw[decide_eq_true h.1,bM,(nT h.2.2 hi).1]
 rcases hq with rfl | rfl <;> simp
theorem Tw.kwK (h:Tw T i w) (hk:Kw w) {z:Int} (hz:z=1∨z=3):ex.eV T i z=false:=by
 obtain ⟨q,hq,hi⟩:=hk
 rw[h.eV hi]
 rcases hq with rfl | rfl <;> rcases hz with rfl | rfl <;> rfl
theorem gV {l m:List Bytes} (h:cW T i m=false) (hs:∀ x∈l,x∈m):cW T i l=false:=by
 unfold ex.cW at h ⊢
 rw[Bool.and_eq_false_iff] at h ⊢
 rcases h with h | h
 ·exact .inl h
 ·exact .inr (by simp at h ⊢;exact fun g=>h (hs _ g))
theorem aGP:∀ (a:Bytes) (c:UInt8) (n j:Nat),j+a.length<6→lx.uO n j (a++[c])=lx.uO n j a * 10+(c.toNat - 48)
 | [],c,n,j,h=>by rw[aL,lx.uO,lx.uO,lx.uO,aJ (by simpa using h)]
 | b::a,c,n,j,h=>by
   rw[aM,lx.uO,lx.uO,aGP a c _ _ (by simp at h;omega)]
theorem aKp:∀ (k n:Nat),n<10 ^ k→k≤5→(Lib.decDigits n).length≤5→(∀ c∈Lib.decDigits n,lx.isDigit c=true)∧lx.uO 0 0 (Lib.decDigits n)=n
 | 0,n,h,hk,hl=>by
   obtain rfl:n=0:=by simpa using h
   rw[Lib.decDigits_one (by omega)]
   refine ⟨fun c hc=>?_,rfl⟩
   rw[aS.1 hc];rfl
 | k+1,n,h,hk,hl=>by
   have dig:∀ d:Nat,d<10→(UInt8.ofNat (48+d)).toNat=48+d:=by
    intro d hd
    rw[UInt8.toNat_ofNat']
    omega
   by_cases hn:n<10
   ·rw[Lib.decDigits_one hn]
    refine ⟨fun c hc=>?_,?_⟩
    ·rw[aS.1 hc]
     unfold lx.isDigit
     rw[dig n hn];simp;omega
    ·rw[lx.uO,lx.uO,dig n hn];simp
   ·have e:Lib.decDigits n=Lib.decDigits (n / 10)++[UInt8.ofNat (48+n % 10)]:=by rw[Lib.decDigits,dif_neg hn]
    rw[e] at hl
    simp only[aB,aC,aD] at hl
    obtain ⟨h1,h2⟩:=aKp k (n / 10) (by rw[Nat.pow_succ] at h;omega) (by omega) (by omega)
    have hm:n % 10<10:=Nat.mod_lt _ (by decide)
    rw[e]
    refine ⟨fun c hc=>?_,?_⟩
    ·rcases bH.1 hc with hc | hc
     ·exact h1 c hc
     ·rw[aS.1 hc]
      unfold lx.isDigit
      rw[dig _ hm];simp;omega
    ·rw[aGP _ _ _ _ (by omega),h2,dig _ hm];omega
theorem aKq:∀ (k n:Nat),n<10 ^ (k+1)→Lib.nDigits n≤k+1
 | 0,n,h=>by rw[Lib.nDigits_small (by simpa using h)];omega
 | k+1,n,h=>by
   by_cases hn:n<10
   ·rw[Lib.nDigits_small hn];omega
   ·rw[Lib.nDigits_big hn]
    have:=aKq k (n / 10) (by rw[Nat.pow_succ] at h;omega)
    omega
theorem aGQ {n:Nat} (h:n≤32768):(Lib.decDigits n).length≤5:=by
 rw[Lib.decDigits_length]
 exact aKq 4 n (by omega)
theorem aIP (n:Nat):Lib.decDigits n≠[]:=by
 intro h
 have:=Lib.nDigits_pos n
 rw[← Lib.decDigits_length,h] at this
 simp at this
theorem lM {n:Nat} (h:n≤32768):lx.Is 3 (Lib.decDigits n) n:=by
 obtain ⟨h1,h2⟩:=aKp 5 n (by omega) (by omega) (aGQ h)
 refine ⟨_,aIP n,?_⟩
 have htw:(Lib.decDigits n).takeWhile lx.isDigit=Lib.decDigits n:=by
  have:∀ l:Bytes,(∀ c∈l,lx.isDigit c=true)→l.takeWhile lx.isDigit=l:=by
   intro l
   induction l with
   | nil=>intro _;rfl
   | cons b r ih=>intro g;rw[bX,aJ (g b (bR ..)),ih fun c hc=>g c (aV _ hc)]
  exact this _ h1
 have hd:lx.isDigit ((Lib.decDigits n).headD 0)=true:=by
  cases hc:Lib.decDigits n with
  | nil=>exact absurd hc (aIP n)
  | cons b r=>exact h1 b (by rw[hc];exact bR ..)
 unfold lx.step
 rw[lx.vR _ _ _ hd,lx.aGR _ (by rw[htw];exact aIP n) (by rw[htw];exact h1),htw,h2,aG]
 have:=aGQ h
 omega
theorem aQD {w:Bytes} {n:Int} (h:lx.Is 3 w n):∃ m:Nat,n=m∧m≤32768:=by
 have a:=lx.wI h (c:=32) (.inl rfl) []
 generalize w++32::[]=l at a
 unfold lx.step at a
 by_cases hb:l.headD 0=32∨l.headD 0=9∨l.headD 0=10∨l.headD 0=13
 ·unfold lx.iR at a;rw[aJ hb] at a;cases a
 by_cases hc:l.headD 0=40∧l.tail.headD 0=42
 ·unfold lx.iR at a
  rw[aG hb,aJ hc.1,aJ hc.2] at a
  unfold lx.aBt at a
  split at a <;> cases a
 cases h1:lx.iJ (l.headD 0)
 rotate_left
 ·rw[lx.zI _ _ _ h1] at a
  unfold lx.nD at a
  dsimp only at a
  split at a
  ·cases a
  ·split at a
   ·cases a
   ·split at a <;> cases a
 cases h2:lx.isDigit (l.headD 0)
 ·rw[lx.aEl _ _ _ hb hc h1 h2] at a
  unfold lx.aFh at a
  split at a
  ·cases a
  ·split at a <;> cases a
 rw[lx.vR _ _ _ h2] at a
 have hl:l.takeWhile lx.isDigit≠[]:=by
  cases l with
  | nil=>rw[show ([]:Bytes).headD 0=0 from rfl] at h2;exact absurd h2 (by decide)
  | cons b r=>rw[bX,aJ (show lx.isDigit b=true from h2)];simp
 rw[lx.aGR l hl (lx.nU l)] at a
 split at a
 ·cases a
 ·rename_i hv
  injection a with _ _ a3
  exact ⟨_,a3.symm,by omega⟩
theorem aNe {w:Bytes} {n:Int} (h:lx.Is 1 w n):n=0:=by
 have a:=lx.wI h (c:=32) (.inl rfl) []
 generalize w++32::[]=l at a
 unfold lx.step at a
 by_cases hb:l.headD 0=32∨l.headD 0=9∨l.headD 0=10∨l.headD 0=13
 ·unfold lx.iR at a;rw[aJ hb] at a;cases a
 by_cases hc:l.headD 0=40∧l.tail.headD 0=42
 ·unfold lx.iR at a
  rw[aG hb,aJ hc.1,aJ hc.2] at a
  unfold lx.aBt at a
  split at a <;> cases a
 cases h1:lx.iJ (l.headD 0)
 rotate_left
 ·rw[lx.zI _ _ _ h1] at a
  unfold lx.nD at a
  dsimp only at a
  split at a
  ·cases a
  ·split at a
   ·cases a
   ·split at a <;> cases a
    rfl
 cases h2:lx.isDigit (l.headD 0)
 ·rw[lx.aEl _ _ _ hb hc h1 h2] at a
  unfold lx.aFh at a
  split at a
  ·cases a
  ·split at a <;> cases a
 rw[lx.vR _ _ _ h2] at a
 unfold lx.tJ at a
 dsimp only at a
 split at a
 ·split at a <;> cases a
 ·cases a
end Go.Proofs.YtidjangjfekfjaaGreatDoor.ex

namespace Go.Proofs.YtidjangjfekfjaaGreatDoor.ex
open Go Go.Dl
set_option maxHeartbeats 8000000
variable {T:List fS} {e:Int} {i:Nat} {k a:Int} {K:Nat}
theorem s71 (hT:T.length≤100000) (hK:101<K):b5 (F68 K (P T e i))=some (if cW T i [[40]]=true then if eV T (i+1) 1=true then if cW T (i+1+1) [[41]]=true then ((tok T e (i+1)).eG,P T e (i+1+1+1)) else ((tok T e (i+1)).eG,PE T e (i+1+1) 3 (tok T e (i+1+1)).kQ) else ([],PE T e (i+1) 3 (tok T e (i+1)).kQ) else ([],PE T e i 3 (tok T e i).kQ)):=by
 unfold F68
 rw[p93 hT (by omega)]
 cases h1:cW T i [[40]]
 ·simp only[aA,aE,if_false,qG,vP (show 100<K by omega)];rfl
 ·simp only[aA,if_true,aDV hT]
  cases h2:eV T (i+1) 1
  ·simp only[aA,aE,if_false,vP (show 100<K by omega)];rfl
  ·simp only[aA,if_true,p93 hT (show 100<K by omega)]
   cases h3:cW T (i+1+1) [[41]]
   ·simp only[aA,aE,if_false];rfl
   ·simp only[aA,if_true];rfl
theorem s73 (hT:T.length≤100000) (hK:100<K) (d:Int) (l r:Bytes) (h:cW T i [l]=true):b5 (F70 (K+1) (P T e i) d l r)=(b5 (uN K (P T e (i+1)) (IntKind.i64.wrap (d+1)))).bind fun x=>(b5 (fV K x.2 [r])).map fun p=>(x.1,p):=by
 rw[F70,aBs hT hK h,aA]
 cases b5 (uN K (P T e (i+1)) (IntKind.i64.wrap (d+1))) with
 | none=>rfl
 | some x=>simp only[aA];cases b5 (fV K x.2 [r]) <;> rfl
theorem aY6 (hK:100<K) (d:Int) (l r:Bytes):∃ v,b5 (F70 (K+3) (PE T e i k a) d l r)=some (v,PE T e i k a):=by
 rw[F70,vP (by omega),aA,aQA,aA,vP (by omega)]
 exact ⟨_,rfl⟩
theorem aY7 (hT:T.length≤100000) (hK:100<K) (d:Int) (l r:Bytes) (h:cW T i [l]=false):∃ v,b5 (F70 (K+3) (P T e i) d l r)=some (v,PE T e i 3 (tok T e i).kQ):=by
 rw[F70,aDX hT (by omega) h,aA,aQA,aA,vP (by omega)]
 exact ⟨_,rfl⟩
theorem aIQ {d n:Int} {nm s:Bytes} (hK:100<K):∃ v,b5 (aAD K d n nm s (PE T e i k a))=some (v,PE T e i k a):=by
 obtain ⟨q,hq⟩:∃ z,K=z+1:=⟨K - 1,by omega⟩
 have i1:iter K (mT K d) (PE T e i k a,[],true)=some (.inl (PE T e i k a,[])):=by
  have:∀ z,iter (z+1) (mT K d) (PE T e i k a,[],true)=some (.inl (PE T e i k a,[])):=fun z=>by unfold iter;rw[aNc]
  have h:=this q
  rwa [← hq] at h
 unfold aAD
 rw[lS,aA]
 simp only[aE,if_false]
 rw[i1]
 simp only[aQ,cC,cD]
 rw[vP hK]
 exact ⟨_,rfl⟩
theorem s75 (hT:T.length≤100000) (hK:100<K) (e0:dM) (d:Int) (hk:e0.b9=13) (h1:cW T i [[46]]=true) (h2:eV T (i+1) 1=true) (h3:cW T (i+1+1) [[40]]=true) :
 b5 (F72 (K+1) (P T e i) e0 d)=b5 (aAD K d e0.fN e0.cA (tok T e (i+1)).eG (P T e (i+1+1+1))):=by
 rw[aNb,hk,aBs hT hK h1,aA,aDV hT,h2,aA]
 simp only[if_true]
 rw[aBs hT hK h3,aA]
 rfl
theorem aY8 (hT:T.length≤100000) (hK:100<K) (e0:dM) (d:Int) (hk:e0.b9=13) (h:cW T i [[46]]=false∨eV T (i+1) 1=false∨cW T (i+1+1) [[40]]=false) :
 ∃ v j a,b5 (F72 (K+1) (P T e i) e0 d)=some (v,PE T e j 3 a):=by
 rw[aNb,hk]
 show ∃ v j a,b5 ((b5 (fV K (P T e i) ([[46]]:List Bytes))).bind fun r1=>(b5 (s8 K r1)).bind fun r2=>(b5 (fV K r2.2 ([[40]]:List Bytes))).bind fun r3=>aAD K d e0.fN e0.cA r2.1 r3)=some (v,PE T e j 3 a)
 rw[p93 hT hK]
 cases h1:cW T i [[46]]
 ·simp only[aA,aE,if_false,qG,vP hK]
  obtain ⟨v,hv⟩:=aIQ (T:=T) (e:=e) (i:=i) (k:=3) (a:=(tok T e i).kQ) (d:=d) (n:=e0.fN) (nm:=e0.cA) (s:=[]) hK
  exact ⟨_,_,_,hv⟩
 simp only[aA,if_true,aDV hT]
 cases h2:eV T (i+1) 1
 ·simp only[aA,aE,if_false,vP hK]
  obtain ⟨v,hv⟩:=aIQ (T:=T) (e:=e) (i:=i+1) (k:=3) (a:=(tok T e (i+1)).kQ) (d:=d) (n:=e0.fN) (nm:=e0.cA) (s:=[]) hK
  exact ⟨_,_,_,hv⟩
 simp only[aA,if_true,p93 hT hK]
 cases h3:cW T (i+1+1) [[40]]
 ·simp only[aA,aE,if_false]
  obtain ⟨v,hv⟩:=aIQ (T:=T) (e:=e) (i:=i+1+1) (k:=3) (a:=(tok T e (i+1+1)).kQ) (d:=d) (n:=e0.fN) (nm:=e0.cA) (s:=(tok T e (i+1)).eG) hK
  exact ⟨_,_,_,hv⟩
 ·rw[h1,h2,h3] at h
  rcases h with h | h | h <;> cases h
theorem s74 (hT:T.length≤100000) (hK:100<K) (d:Int) (h:cW T i [[84,72,73,83],[83,85,80,69,82]]=true):b5 (F71 (K+1) (P T e i) d)=b5 (F72 K (P T e (i+1)) ⟨13,if cW T i [[84,72,73,83]]=true then 1 else 2,[],[],[]⟩ d):=by
 rw[kA] at h
 rw[F71]
 cases h1:cW T i [[84,72,73,83]]
 ·rw[h1,bT] at h
  rw[nJ hT hK h1,aA]
  simp only[bA,if_true,aBs hT hK h,aA,cD,aE,if_false]
  cases b5 (F72 K (P T e (i+1)) ⟨13,2,[],[],[]⟩ d) <;> rfl
 ·rw[sN hT hK h1,aA]
  simp only[bN,aE,if_false,cD,if_true]
  cases b5 (F72 K (P T e (i+1)) ⟨13,1,[],[],[]⟩ d) <;> rfl
abbrev Re:=Option (dM × cV)
def o40 (K:Nat) (T:List fS) (e:Int) (i:Nat) (d:Int):Re :=
 if eV T i 3=true then some (⟨1,(tok T e i).fN,[],[],[]⟩,P T e (i+1))
 else if cW T i [[84,82,85,69]]=true then some (⟨2,0,[],[],[]⟩,P T e (i+1))
 else if cW T i [[70,65,76,83,69]]=true then some (⟨3,0,[],[],[]⟩,P T e (i+1))
 else if cW T i [[78,85,76,76]]=true then some (⟨4,0,[],[],[]⟩,P T e (i+1))
 else if cW T i [[82,69,70]]=true then (b5 (F68 K (P T e (i+1)))).map fun r=>(⟨10,0,r.1,[],[]⟩,r.2)
 else if cW T i [[68,79,78,69]]=true then (b5 (F68 K (P T e (i+1)))).map fun r=>(⟨11,0,r.1,[],[]⟩,r.2)
 else if cW T i [[67,79,85,78,84]]=true then (b5 (F68 K (P T e (i+1)))).map fun r=>(⟨12,0,r.1,[],[]⟩,r.2)
 else if cW T i [[65,83]]=true then
  if eV T (i+1) 1=true then (b5 (F70 K (P T e (i+1+1)) d [40] [41])).map fun q=>(⟨14,0,(tok T e (i+1)).eG,[],[q.1]⟩,q.2)
  else (b5 (F70 K (PE T e (i+1) 3 (tok T e (i+1)).kQ) d [40] [41])).map fun q=>(⟨14,0,[],[],[q.1]⟩,q.2)
 else if cW T i [[40]]=true then b5 (F70 K (P T e i) d [40] [41])
 else if cW T i [[84,72,73,83],[83,85,80,69,82]]=true then b5 (F71 K (P T e i) d)
 else if eV T i 1=true then
  if cW T (i+1) [[91]]=true then (b5 (F70 K (P T e (i+1)) d [91] [93])).map fun q=>(⟨6,0,(tok T e i).eG,[],[q.1]⟩,q.2)
  else if cW T (i+1) [[46]]=true then b5 (F72 K (P T e (i+1)) ⟨13,0,(tok T e i).eG,[],[]⟩ d)
  else some (⟨5,0,(tok T e i).eG,[],[]⟩,P T e (i+1))
 else some (⟨5,0,(tok T e i).eG,[],[]⟩,PE T e i 3 (tok T e i).kQ)
theorem s40 (hT:T.length≤100000) (hK:100<K) (d:Int):b5 (F38 (K+1) (P T e i) d)=o40 K T e i d:=by
 rw[F38]
 unfold o40
 simp only[p31,cE,aA,p69 (q:=3) (by decide)]
 cases h3:eV T i 3
 rotate_left
 ·simp only[if_true,aDW hT,h3,aA];rfl
 simp only[aE,if_false]
 cases h1:cW T i [[84,82,85,69]]
 rotate_left
 ·simp only[sN hT hK h1,aA,if_true];rfl
 simp only[nJ hT hK h1,aA,aE,if_false]
 cases h1:cW T i [[70,65,76,83,69]]
 rotate_left
 ·simp only[sN hT hK h1,aA,if_true];rfl
 simp only[nJ hT hK h1,aA,aE,if_false]
 cases h1:cW T i [[78,85,76,76]]
 rotate_left
 ·simp only[sN hT hK h1,aA,if_true];rfl
 simp only[nJ hT hK h1,aA,aE,if_false]
 cases h1:cW T i [[82,69,70]]
 rotate_left
 ·simp only[sN hT hK h1,aA,if_true];cases b5 (F68 K (P T e (i+1))) <;> rfl
 simp only[nJ hT hK h1,aA,aE,if_false]
 cases h1:cW T i [[68,79,78,69]]
 rotate_left
 ·simp only[sN hT hK h1,aA,if_true];cases b5 (F68 K (P T e (i+1))) <;> rfl
 simp only[nJ hT hK h1,aA,aE,if_false]
 cases h1:cW T i [[67,79,85,78,84]]
 rotate_left
 ·simp only[sN hT hK h1,aA,if_true];cases b5 (F68 K (P T e (i+1))) <;> rfl
 simp only[nJ hT hK h1,aA,aE,if_false]
 cases h1:cW T i [[65,83]]
 rotate_left
 ·simp only[sN hT hK h1,aA,if_true,aDV hT]
  cases h2:eV T (i+1) 1
  ·simp only[aE,if_false,aA]
   cases b5 (F70 K (PE T e (i+1) 3 (tok T e (i+1)).kQ) d [40] [41]) <;> rfl
  ·simp only[if_true,aA]
   cases b5 (F70 K (P T e (i+1+1)) d [40] [41]) <;> rfl
 simp only[nJ hT hK h1,aA,aE,if_false,p29 (l:=[[40]]) (by decide) hK]
 cases h1:cW T i [[40]]
 rotate_left
 ·simp only[if_true];cases b5 (F70 K (P T e i) d [40] [41]) <;> rfl
 simp only[aE,if_false,p29 (l:=[[84,72,73,83],[83,85,80,69,82]]) (by decide) hK,aA]
 cases h1:cW T i [[84,72,73,83],[83,85,80,69,82]]
 rotate_left
 ·simp only[if_true];cases b5 (F71 K (P T e i) d) <;> rfl
 simp only[aE,if_false,cH,cD,aDV hT]
 cases hW:eV T i 1
 ·simp only[aE,if_false,aA,qF]
  rfl
 simp only[if_true,aA,p29 (l:=[[91]]) (by decide) hK]
 cases h1:cW T (i+1) [[91]]
 rotate_left
 ·simp only[if_true];cases b5 (F70 K (P T e (i+1)) d [91] [93]) <;> rfl
 simp only[aE,if_false,aA,p29 (l:=[[46]]) (by decide) hK]
 cases h1:cW T (i+1) [[46]]
 rotate_left
 ·simp only[if_true];cases b5 (F72 K (P T e (i+1)) ⟨13,0,(tok T e i).eG,[],[]⟩ d) <;> rfl
 rfl
def t19 (K:Nat) (T:List fS) (e:Int) (d:Int) (v:dM) (j:Nat):Re :=
 if cW T j opsL=true then (b5 (F38 K (P T e (j+1)) d)).map fun q=>(⟨9,((opN T j:Nat):Int),[],[],[v,q.1]⟩,q.2) else some (v,P T e j)
def u19 (K:Nat) (d:Int) (fX:dM × cV):Option ((dM × cV) ⊕ (dM × cV)):=((cX true (b5 (F24 K fX.2)) default).bind (fun r16=>((b5 (F39 K)).bind (fun yA=>((cX true (b5 (oF K fX.2 yA)) default).bind (fun wT=>(if (!wT)=true then (some (.inl (fX.1,fX.2))) else ((b5 (F39 K)).bind (fun qB=>((cX true (b5 (F40 K qB r16.eG)) default).bind (fun oA=>((b5 (F38 K (⟨fX.2.bZ,(IntKind.i64.wrap (fX.2.fi+1)),fX.2.lT,fX.2.j9⟩:cV) d)).bind (fun iU=>(some (.inl ((⟨9,(IntKind.i64.wrap (oA+1)),([]:Bytes),([]:Bytes),[fX.1,iU.1]⟩:dM),iU.2))))))))))))))))
theorem aNf:opN T i≤14:=by
 unfold opN
 have:∀ (f:Bytes→Bool) (l:List Bytes),first f l≤l.length:=by
  intro f l
  induction l with
  | nil=>exact aR _
  | cons w l ih =>
    unfold first
    split
    ·simp
    ·split
     ·simp
     ·rename_i z hz;rw[hz] at ih;simp;omega
 exact this _ opsL
theorem aIR (hT:T.length≤100000) (hK:100<K) (d:Int) (v:dM):b5 (u19 K d (v,P T e i))=t19 K T e d v i:=by
 unfold u19 t19
 simp only[p31,p41,cE,p29 (l:=opsL) (by decide) hK,aA]
 cases ho:cW T i opsL
 ·rfl
 ·have lo:=eA ho
  have h0:opN T i≠0:=fun g=>by rw[aGM.1 g] at ho;cases ho
  have ht:(tok T e i).eG=(T.getD i default).eG:=by unfold tok;rw[aJ lo]
  have a1n:=aNf (T:=T) (i:=i)
  have ew:IntKind.i64.wrap ((((opN T i:Nat):Int) - 1)+1)=((opN T i:Nat):Int):=by rw[wrap64 (by omega) (by omega)];omega
  have ej:(⟨(P T e i).bZ,IntKind.i64.wrap ((P T e i).fi+1),(P T e i).lT,(P T e i).j9⟩:cV)=P T e (i+1):=by
   show (⟨T,IntKind.i64.wrap ((i:Int)+1),e,[]⟩:cV)=_
   rw[wrap64 (by omega) (by omega)];rfl
  simp only[bN,aE,if_false,aEj hK opsL (by decide),aA,if_true,ht,← aM9 ho,ew,ej]
  cases b5 (F38 K (P T e (i+1)) d) <;> rfl
theorem aKs (hK:100<K) (d:Int) (v:dM):b5 (u19 K d (v,PE T e i k a))=some (v,PE T e i k a):=by
 unfold u19
 simp only[aFb,p41,cE,qF,aA,bA,if_true]
 rfl
def o19 (K:Nat) (T:List fS) (e:Int) (i:Nat) (d:Int):Re :=
 if 6<d∧fY T i=true then some (⟨5,0,(tok T e i).eG,[],[]⟩,PE T e i 4 (tok T e i).kQ)
 else if cW T i [[45]]=true then (b5 (F38 K (P T e (i+1)) d)).map fun r=>(⟨7,0,[],[],[r.1]⟩,r.2)
 else if cW T i [[78,79,84]]=true then (b5 (F38 K (P T e (i+1)) d)).map fun r=>(⟨8,0,[],[],[r.1]⟩,r.2)
 else (b5 (F38 K (P T e i) d)).bind fun r=>b5 (u19 K d r)
theorem s19 (hT:T.length≤100000) (hK:100<K) (d:Int):b5 (uN (K+2) (P T e i) d)=o19 (K+1) T e i d:=by
 have hKb:100<K+1:=by omega
 rw[uN]
 unfold o19
 have hp:∀ {β:Type} (f:Bool→Bool→Option β),(∀ a b,f a b=f (a || b) false)→((cX true (b5 (oF (K+1) (P T e i) ([[45],[78,79,84]]:List Bytes))) default).bind fun r1=>(cX (!r1) (b5 (F35 (K+1) (P T e i))) default).bind fun r2=>f r1 r2)=f (fY T i) false:=by
  intro β f hf
  rw[cE,p29 (l:=qT) (by decide) hKb,aA]
  rw[← wG (T:=T) (i:=i)]
  cases hg:cW T i qT
  ·simp only[bA,cE,p37 hKb,aA,bT]
   rw[hf];simp
  ·simp only[bN,aBN,aA,Bool.true_or]
   rw[hf];simp
 rw[hp _ (fun a b=>by simp)]
 by_cases vS:6<d∧fY T i=true
 ·rw[aJ vS]
  have h38:b5 (F36 (K+1) (P T e i) d)=some (PE T e i 4 (tok T e i).kQ):=by
   unfold F36
   rw[aJ (by simp;omega),p20];rfl
  simp only[vS.2,Bool.or_false,if_true,h38,aA,cD]
  obtain ⟨z,rfl⟩:∃ z,K=z+1:=⟨K - 1,by omega⟩
  simp only[lS,aA,aE,if_false,cH,cD,aV4,cE,aFb,p41,qF,bA,if_true]
  rfl
 rw[aG vS]
 have h6:6<d→fY T i=false:=fun g=>by simpa [g] using vS
 have hn:(if (fY T i || false)=true then ((b5 (F36 (K+1) (P T e i) d)).bind (fun r5=>(some (.inr (r5))))) else (some (.inr (P T e i))):Option ((dM × cV) ⊕ cV))=some (.inr (P T e i)):=by
  cases hs:fY T i
  ·rfl
  ·have hd:¬ 6<d:=fun g=>by rw[h6 g] at hs;cases hs
   have h38:b5 (F36 (K+1) (P T e i) d)=some (P T e i):=by
    unfold F36
    rw[aG (by simp;omega)];rfl
   rw[h38];rfl
 rw[hn,cD]
 cases hM:cW T i [[45]]
 rotate_left
 ·rw[sN hT hKb hM,aA]
  simp only[if_true]
  cases b5 (F38 (K+1) (P T e (i+1)) d) <;> rfl
 rw[nJ hT hKb hM,aA]
 simp only[aE,if_false]
 cases hN:cW T i [[78,79,84]]
 rotate_left
 ·rw[sN hT hKb hN,aA]
  simp only[if_true]
  cases b5 (F38 (K+1) (P T e (i+1)) d) <;> rfl
 rw[nJ hT hKb hN,aA]
 simp only[aE,if_false,cH,cD]
 cases b5 (F38 (K+1) (P T e i) d) <;> rfl
end Go.Proofs.YtidjangjfekfjaaGreatDoor.ex

namespace Go.Proofs.YtidjangjfekfjaaGreatDoor.ex
open Go Go.Dl
set_option maxRecDepth 100000
def jE:List dM→List Bytes
 | []=>[]
 | x::r=>pr.gC x++r.flatMap fun y=>[44]::pr.gC y
theorem aKt:∀ (l:List dM) (n:Nat),1≤n→pr.lU (fun i p=>pr.tK i++p.2) n (l.map fun x=>(x.b9,pr.gC x))=l.flatMap fun y=>[44]::pr.gC y
 | [],n,h=>rfl
 | x::r,n,h=>by
   rw[bS,pr.lU,aKt r (n+1) (by omega),bG]
   unfold pr.tK
   rw[aJ (by omega)];rfl
theorem aGS (l:List dM):pr.zJ (l.map fun x=>(x.b9,pr.gC x))=jE l:=by
 cases l with
 | nil=>rfl
 | cons x r =>
   unfold pr.zJ jE
   rw[bS,pr.lU,aKt r 1 (by omega)]
   rfl
theorem aFj (n:Nat):pr.gC ⟨1,n,[],[],[]⟩=[Lib.decDigits n]:=by
 rw[pr.oL]
 unfold pr.iB gT
 rw[aJ rfl,aG (by dsimp only;omega)];rfl
theorem zK (w:Bytes):pr.gC ⟨5,0,w,[],[]⟩=[w]:=by rw[pr.oL];rfl
theorem aAF {k:Int} (h:k=2∨k=3∨k=4):pr.gC ⟨k,0,[],[],[]⟩=[if k=2 then [84,82,85,69] else if k=3 then [70,65,76,83,69] else [78,85,76,76]]:=by
 rw[pr.oL]
 rcases h with rfl | rfl | rfl <;> rfl
theorem vT (w:Bytes) (a:dM):pr.gC ⟨6,0,w,[],[a]⟩=[w,[91]]++pr.gC a++[[93]]:=by rw[pr.oL];rfl
theorem aGT (w:Bytes) (a:dM):pr.gC ⟨14,0,w,[],[a]⟩=[[65,83],w,[40]]++pr.gC a++[[41]]:=by rw[pr.oL];rfl
theorem aGU {k:Int} (w:Bytes) (h:k=10∨k=11∨k=12):pr.gC ⟨k,0,w,[],[]⟩=[if k=10 then [82,69,70] else if k=11 then [68,79,78,69] else [67,79,85,78,84],[40],w,[41]]:=by
 rw[pr.oL]
 rcases h with rfl | rfl | rfl <;> rfl
theorem zL {k:Int} (a:dM) (h:k=7∨k=8):pr.gC ⟨k,0,[],[],[a]⟩=[if k=7 then [45] else [78,79,84]]++wH a:=by
 rw[pr.oL]
 unfold pr.iB
 have:=aFg [a] 0 (by simp)
 rcases h with rfl | rfl
 ·show [[45]]++pr.pT (List.map (fun x=>(x.b9,pr.gC x)) [a]) 0=_
  rw[this];rfl
 ·show [[78,79,84]]++pr.pT (List.map (fun x=>(x.b9,pr.gC x)) [a]) 0=_
  rw[this];rfl
theorem aCz (n:Nat) (a b:dM):pr.gC ⟨9,n,[],[],[a,b]⟩=wH a++[pr.named n pr.ops]++wH b:=by
 rw[pr.oL]
 unfold pr.iB
 show pr.pT (List.map (fun x=>(x.b9,pr.gC x)) [a,b]) 0++[pr.named n pr.ops]++pr.pT (List.map (fun x=>(x.b9,pr.gC x)) [a,b]) 1=_
 rw[aFg [a,b] 0 (by simp),aFg [a,b] 1 (by simp)];rfl
theorem tL (w wh:Bytes) (ag:List dM):pr.gC ⟨13,0,w,wh,ag⟩=[w,[46],wh,[40]]++jE ag++[[41]]:=by
 rw[pr.oL,← aGS];rfl
theorem aAG {n:Int} (wh:Bytes) (ag:List dM) (h:n=1∨n=2):pr.gC ⟨13,n,[],wh,ag⟩=[if n=1 then [84,72,73,83] else [83,85,80,69,82],[46],wh,[40]]++jE ag++[[41]]:=by
 rw[pr.oL,← aGS]
 rcases h with rfl | rfl <;> rfl
theorem rN {k n:Int} {w s:Bytes} (h:np k=false):nd ⟨k,n,w,s,[]⟩=1:=by
 rw[aEk];unfold ndK;rw[aG (by rw[h];simp)];rfl
theorem aFk {k n:Int} {w s:Bytes} {a:dM} (h:np k=false):nd ⟨k,n,w,s,[a]⟩=1+nd a:=by
 rw[aEk];unfold ndK;rw[aG (by rw[h];simp)];simp [mx]
theorem aKu {k n:Int} {w s:Bytes} {a:dM} (h:np k=true):nd ⟨k,n,w,s,[a]⟩=n7 a:=by
 rw[aEk];unfold ndK;rw[aJ h]
 have:1≤n7 a:=by
  unfold n7 opd
  have:=aCy a
  split <;> dsimp only <;> omega
 simp only[bS,List.map_nil,mx]
 show max 1 (max (n7 a) 0)=_
 omega
theorem aNg {n:Int} {w s:Bytes} {a b:dM}:nd ⟨9,n,w,s,[a,b]⟩=max (n7 a) (n7 b):=by
 rw[aEk];unfold ndK;rw[aJ (by rfl)]
 have:1≤n7 a:=by
  unfold n7 opd
  have:=aCy a
  split <;> dsimp only <;> omega
 simp only[bS,List.map_nil,mx]
 show max 1 (max (n7 a) (max (n7 b) 0))=_
 omega
theorem aFl {n:Int} {w s:Bytes} {ag:List dM} {m:Nat}:nd ⟨13,n,w,s,ag⟩≤m↔1≤m∧∀ x∈ag,nd x+1≤m:=by
 rw[aEk];unfold ndK;rw[aG (by decide)]
 have:∀ l:List dM,(mx ((l.map fun x=>(x.b9,nd x)).map (·.2))+1≤m↔1≤m∧∀ x∈l,nd x+1≤m):=by
  intro l
  induction l with
  | nil=>simp [mx]
  | cons y r ih =>
    simp only[bS,mx,aT,forall_eq_or_imp]
    constructor
    ·intro h
     have:=ih.1 (by omega)
     exact ⟨this.1,by omega,this.2⟩
    ·rintro ⟨h1,h2,h3⟩
     have:=ih.2 ⟨h1,h3⟩
     omega
 rw[Nat.add_comm]
 exact this ag
theorem aKv {x:dM} (h:np x.b9=false):n7 x=nd x:=by unfold n7 opd;rw[aG (by rw[h];simp)]
theorem aV8 {x:dM} (h:np x.b9=true):n7 x=nd x+1:=by unfold n7 opd;rw[aJ h]
theorem zM {x:dM} (h:np x.b9=false):wH x=pr.gC x:=by unfold wH;rw[aG (by rw[h];simp)]
theorem aR0 {x:dM} (h:np x.b9=true):wH x=[[40]]++pr.gC x++[[41]]:=by unfold wH;rw[aJ h]
theorem aTr (x:dM):(wH x).length≤(pr.gC x).length+2:=by unfold wH;split <;> simp
theorem aQE (x:dM):n7 x≤nd x+1:=by unfold n7 opd;split <;> dsimp only <;> omega
end Go.Proofs.YtidjangjfekfjaaGreatDoor.ex
