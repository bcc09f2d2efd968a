/- No conditions. -/
import Derived.Test.YtidjangjfekfjaaGreatDoorTyA
import Derived.Lib.AtoiAllCases
import Derived.Lib.IndexMore
import Derived.Lib.FieldsLaws
import Derived.KernelRfl
set_option linter.unusedVariables false
set_option linter.unusedSimpArgs false
set_option linter.unusedSectionVars false
namespace Go.Proofs.YtidjangjfekfjaaGreatDoor.lx
open Go Go.Dl
abbrev Bs:=List UInt8
def iJ (b:UInt8):Bool:=(decide (97≤b.toNat) && decide (b.toNat≤122)) || (decide (65≤b.toNat) && decide (b.toNat≤90))
def isDigit (b:UInt8):Bool:=decide (48≤b.toNat) && decide (b.toNat≤57)
def fZ (b:UInt8):Bool:=iJ b || isDigit b || decide (b.toNat=95)
def aEv:Bs:=[73,78,84,69,82,70,65,67,69,32,69,78,68,95,73,78,84,69,82,70,65,67,69,32,67,76,65,83,83,32,69,78,68,95,67,76,65,83,83,32,80,82,79,71,82,65,77,32,69,78,68,95,80,82,79,71,82,65,77,32,77,69,84,72,79,68,32,69,78,68,95,77,69,84,72,79,68,32,84,65,83,75,32,73,78,84,69,82,86,65,76,32,80,82,73,79,82,73,84,89,32,69,88,84,69,78,68,83,32,73,77,80,76,69,77,69,78,84,83,32,65,66,83,84,82,65,67,84,32,70,73,78,65,76,32,79,86,69,82,82,73,68,69,32,86,65,82,32,65,84,32,73,78,32,79,85,84,32,73,78,84,32,66,79,79,76,32,82,69,65,76,32,76,82,69,65,76,32,65,82,82,65,89,32,79,70,32,82,69,70,95,84,79,32,82,69,70,32,84,79,78,32,84,79,70,32,84,80,32,67,84,85,32,67,84,68,32,82,95,84,82,73,71,32,70,95,84,82,73,71,32,84,82,85,69,32,70,65,76,83,69,32,78,85,76,76,32,84,72,73,83,32,83,85,80,69,82,32,65,83,32,78,79,84,32,65,78,68,32,79,82,32,88,79,82,32,77,79,68,32,73,70,32,84,72,69,78,32,69,76,83,73,70,32,69,76,83,69,32,69,78,68,95,73,70,32,67,65,83,69,32,69,78,68,95,67,65,83,69,32,87,72,73,76,69,32,68,79,32,69,78,68,95,87,72,73,76,69,32,70,79,82,32,84,79,32,66,89,32,69,78,68,95,70,79,82,32,82,69,84,85,82,78,32,69,88,73,84,32,83,84,69,80,32,68,79,78,69,32,67,79,85,78,84]
def zP:List Bs:=Lib.fields aEv
def isKey (s:Bs):Bool:=decide (s∈zP)
inductive wS where
 | skip (n:Nat)
 | err (c:Int)
 | tok (k:Int) (t:Bs) (n:Int)
def nD (l:Bs):wS :=
 let s:=l.takeWhile fZ
 if s=[82,69,65,76]∨s=[76,82,69,65,76] then .err 2
 else if isKey s=true then .tok 2 s 0
 else if 12<s.length then .err 1
 else .tok 1 s 0
def tJ (l:Bs):wS :=
 let s:=l.takeWhile isDigit
 match Lib.atoiAll s with
 | .ok n=>if 5<s.length∨32768<n then .err 1 else .tok 3 s n
 | _=>.err 1
def yN:Bs→Option Nat
 | []=>none
 | a::r=>if a=42∧r.headD 0=41 then some 2 else (yN r).map (· + 1)
def aBt (l:Bs):wS:=match yN (l.drop 2) with
 | some n=>.skip (n+2)
 | none=>.err 1
def mW:List UInt8:=[43,45,42,47,61,41,91,93,44,59]
def iR (b c:UInt8) (l:Bs):wS :=
 if b=32∨b=9∨b=10∨b=13 then .skip 1
 else if b=40 then (if c=42 then aBt l else .tok 4 [40] 0)
 else if b=58∨b=63∨b=62 then (if c=61 then .tok 4 [b,61] 0 else if b=63 then .err 1 else .tok 4 [b] 0)
 else if b=60 then (if c=61∨c=62 then .tok 4 [60,c] 0 else .tok 4 [60] 0)
 else if b=46 then (if c=46 then .tok 4 [46,46] 0 else .tok 4 [46] 0)
 else if b∈mW then .tok 4 [b] 0
 else if iJ b=true then nD l
 else if isDigit b=true then tJ l
 else .err 1
def step (l:Bs):wS:=iR (l.headD 0) (l.tail.headD 0) l
abbrev Tok:=fS
def aC5:Nat→Bs→Nat→List Tok→(List Tok) ⊕ (Int × Nat)
 | 0,_,_,t=>.inl t
 | k+1,l,at',t=>if l=[] then .inl t else match step l with
   | .skip n=>aC5 k (l.drop n) (at'+n) t
   | .err c=>.inr (c,at')
   | .tok q x n=>if 1500≤t.length then .inr (5,at') else aC5 k (l.drop x.length) (at'+x.length) (t++[⟨q,x,n,at'⟩])
def aLh (s:Bs):List Tok × mF :=
 if 6000<s.length then ([],[(5,6000)]) else match aC5 (s.length+1) s 0 [] with
  | .inl t=>(t,[])
  | .inr (c,a)=>([],[(c,(a:Int))])
def Fits (l:Bs):wS→Prop
 | .skip n=>1≤n∧n≤l.length
 | .err _=>True
 | .tok k t n=>t≠[]∧t=l.take t.length∧t.length≤l.length∧1≤k∧k≤4∧((k == 2)=isKey t)
theorem jH {p:UInt8→Bool}:∀ l:Bs,l.takeWhile p=l.take (l.takeWhile p).length∧(l.takeWhile p).length≤l.length
 | []=>⟨rfl,aR _⟩
 | b::r=>by
   have ih:=jH (p:=p) r
   rw[bX]
   split
   ·exact ⟨by rw[aC,List.take_succ_cons,← ih.1],by simp only[aC];omega⟩
   ·exact ⟨rfl,Nat.zero_le _⟩
theorem uA:∀ l:Bs,Lib.index l [42,41]=match yN l with | some n=>(n:Int) - 2 | none=>-1
 | []=>by simp [Lib.index,yN]
 | a::r=>by
   have ih:=uA r
   unfold Lib.index yN
   by_cases h:a=42∧r.headD 0=41
   ·rw[aJ h]
    obtain ⟨rfl,h2⟩:=h
    cases r with
    | nil=>simp at h2
    | cons c t =>
      simp only[List.headD_cons] at h2
      subst h2
      simp
   ·rw[aG h,aG ?_]
    ·rw[ih]
     have h2:∀ n,yN r=some n→2≤n:=aBR r
     cases hc:yN r with
     | none=>simp
     | some n =>
       have:=h2 n hc
       simp only[aQ]
       rw[aG (by simp;omega)]
       show (n:Int) - 2+1=((n+1:Nat):Int) - 2
       omega
    ·intro e
     apply h
     cases r with
     | nil=>simp at e
     | cons c t =>
       simp at e
       exact ⟨e.1.symm,e.2.symm⟩
 where
 aBR:∀ (r:Bs) (n:Nat),yN r=some n→2≤n
  | [],n,h=>by cases h
  | a::r,n,h=>by
    unfold yN at h
    split at h
    ·cases h;exact aR _
    ·cases hc:yN r with
     | none=>rw[hc] at h;cases h
     | some m =>
       rw[hc] at h
       have:=aBR r m hc
       simp only[aQ,aF] at h
       omega
theorem aFE:∀ (r:Bs) (n:Nat),yN r=some n→n≤r.length
 | [],n,h=>by cases h
 | a::r,n,h=>by
   unfold yN at h
   split at h
   ·rename_i hc
    cases h
    cases r with
    | nil=>simp at hc
    | cons b t=>simp
   ·cases hc:yN r with
    | none=>rw[hc] at h;cases h
    | some m =>
      rw[hc] at h
      have:=aFE r m hc
      simp only[aQ,aF] at h
      simp only[aC]
      omega
theorem zW {b:UInt8} (h:iJ b=true):fZ b=true:=by simp [fZ,h]
theorem fits {l:Bs} (hl:l≠[]):Fits l (step l):=by
 cases l with
 | nil=>exact absurd rfl hl
 | cons b r =>
   have hword:iJ b=true→Fits (b::r) (nD (b::r)):=by
    intro hb
    have ht:=jH (p:=fZ) (b::r)
    have hne:(b::r).takeWhile fZ≠[]:=by
     rw[bX,aJ (zW hb)];simp
    unfold nD
    dsimp only
    split
    ·trivial
    ·split
     ·rename_i hk
      exact ⟨hne,ht.1,ht.2,by omega,by omega,by rw[hk];rfl⟩
     ·rename_i hk
      split
      ·trivial
      ·refine ⟨hne,ht.1,ht.2,by omega,by omega,?_⟩
       cases hh:isKey ((b::r).takeWhile fZ) with
       | true=>exact absurd hh hk
       | false=>rfl
   have aOA:∀ t:Bs,(t.headD 0).toNat<65∨90<(t.headD 0).toNat→isKey t=false:=by
    intro t h
    unfold isKey
    rw[decide_eq_false_iff_not]
    intro hm
    have oY:∀ x∈zP,65≤(x.headD 0).toNat∧(x.headD 0).toNat≤90:=by
     have:zP.all (fun x=>decide (65≤(x.headD 0).toNat∧(x.headD 0).toNat≤90))=true:=by kernel_rfl
     intro x hx
     have:=aW.1 this x hx
     simpa using this
    have:=oY t hm
    omega
   have aZn:isDigit b=true→Fits (b::r) (tJ (b::r)):=by
    intro hb
    have ht:=jH (p:=isDigit) (b::r)
    have aEw:(b::r).takeWhile isDigit=b::r.takeWhile isDigit:=by rw[bX,aJ hb]
    unfold tJ
    dsimp only
    cases Lib.atoiAll ((b::r).takeWhile isDigit) with
    | range=>trivial
    | ok n =>
      dsimp only
      split
      ·trivial
      ·refine ⟨by rw[aEw];simp,ht.1,ht.2,by omega,by omega,?_⟩
       rw[aOA _ (by rw[aEw];simp [isDigit] at hb ⊢;omega)]
       rfl
    | _=>trivial
   have one:∀ q:Bs,(q=[b]∨(∃ c,q=[b,c]∧r.head? = some c))→(b.toNat<65∨90<b.toNat)→Fits (b::r) (.tok 4 q 0):=by
    intro q hq hb
    rcases hq with rfl | ⟨c,rfl,hc⟩
    ·exact ⟨by simp,by simp,by simp,by omega,by omega,by rw[aOA _ (by simpa using hb)];rfl⟩
    ·cases r with
     | nil=>cases hc
     | cons d t =>
       simp only[List.head?_cons,aF] at hc
       subst hc
       exact ⟨by simp,by simp,by simp,by omega,by omega,by rw[aOA _ (by simpa using hb)];rfl⟩
   have hd:∀ c,c≠0→r.headD 0=c→r.head? = some c:=by
    intro c hc h
    cases r with
    | nil=>simp at h;exact absurd h.symm hc
    | cons d t=>simpa using h
   have hst:step (b::r)=iR b (r.headD 0) (b::r):=rfl
   rw[hst]
   unfold iR
   by_cases h0:b=32∨b=9∨b=10∨b=13
   ·rw[aJ h0];exact ⟨by omega,by simp⟩
   rw[aG h0]
   by_cases h40:b=40
   ·rw[aJ h40]
    subst h40
    by_cases hc:r.headD 0=42
    ·rw[aJ hc]
     unfold aBt
     cases hc:yN ((40::r).drop 2) with
     | none=>trivial
     | some n =>
       have:=aFE _ _ hc
       have h2:=uA.aBR _ _ hc
       simp only[List.length_drop] at this
       exact ⟨by omega,by omega⟩
    ·rw[aG hc];exact one _ (.inl rfl) (by decide)
   rw[aG h40]
   by_cases h3:b=58∨b=63∨b=62
   ·rw[aJ h3]
    have hb:b.toNat<65∨90<b.toNat:=by rcases h3 with rfl | rfl | rfl <;> decide
    by_cases h61:r.headD 0=61
    ·rw[aJ h61];exact one _ (.inr ⟨61,rfl,hd _ (by decide) h61⟩) hb
    ·rw[aG h61]
     by_cases h63:b=63
     ·rw[aJ h63];trivial
     ·rw[aG h63];exact one _ (.inl rfl) hb
   rw[aG h3]
   by_cases h60:b=60
   ·rw[aJ h60]
    subst h60
    by_cases hc:r.headD 0=61∨r.headD 0=62
    ·rw[aJ hc];exact one _ (.inr ⟨_,rfl,hd _ (by rcases hc with h | h <;> rw[h] <;> decide) rfl⟩) (by decide)
    ·rw[aG hc];exact one _ (.inl rfl) (by decide)
   rw[aG h60]
   by_cases h46:b=46
   ·rw[aJ h46]
    subst h46
    by_cases hc:r.headD 0=46
    ·rw[aJ hc];exact one _ (.inr ⟨46,rfl,hd _ (by decide) hc⟩) (by decide)
    ·rw[aG hc];exact one _ (.inl rfl) (by decide)
   rw[aG h46]
   by_cases hp:b∈mW
   ·rw[aJ hp]
    refine one _ (.inl rfl) ?_
    have:mW.all (fun b=>decide (b.toNat<65∨90<b.toNat))=true:=by decide
    have:=aW.1 this b hp
    simpa using this
   rw[aG hp]
   by_cases hlt:iJ b=true
   ·rw[aJ hlt];exact hword hlt
   rw[aG hlt]
   by_cases hdg:isDigit b=true
   ·rw[aJ hdg];exact aZn hdg
   rw[aG hdg]
   trivial
theorem wN:∀ (k k':Nat) (l:Bs) (a:Nat) (t:List Tok),l.length<k→l.length<k'→aC5 k l a t=aC5 k' l a t
 | 0,_,_,_,_,h,_=>absurd h (by omega)
 | _+1,0,_,_,_,_,h=>absurd h (by omega)
 | k+1,k'+1,l,a,t,h,h'=>by
   unfold aC5
   by_cases hl:l=[]
   ·rw[aJ hl,aJ hl]
   ·rw[aG hl,aG hl]
    have hf:=fits hl
    cases hs:step l with
    | err c=>rfl
    | skip n =>
      rw[hs] at hf
      obtain ⟨h1,h2⟩:=hf
      exact wN k k' _ _ _ (by simp;omega) (by simp;omega)
    | tok q x n =>
      rw[hs] at hf
      obtain ⟨h1,_,h3,_⟩:=hf
      have h4:1≤x.length:=by cases x with | nil=>exact absurd rfl h1 | cons b r=>simp
      dsimp only
      split
      ·rfl
      ·exact wN k k' _ _ _ (by simp;omega) (by simp;omega)
def lN (l:Bs) (a:Nat) (t:List Tok):(List Tok) ⊕ (Int × Nat):=aC5 (l.length+1) l a t
theorem aC6 (a:Nat) (t:List Tok):lN [] a t = .inl t:=rfl
theorem wJ {l:Bs} {n:Nat} (hl:l≠[]) (h:step l = .skip n) (a:Nat) (t:List Tok):lN l a t=lN (l.drop n) (a+n) t:=by
 have hf:=fits hl
 rw[h] at hf
 unfold lN
 rw[aC5,aG hl,h]
 exact wN _ _ _ _ _ (by simp;have:=hf.1;have:=hf.2;omega) (by simp)
theorem aHt {l:Bs} {c:Int} (hl:l≠[]) (h:step l = .err c) (a:Nat) (t:List Tok):lN l a t = .inr (c,a):=by
 unfold lN
 rw[aC5,aG hl,h]
theorem aCE {l x:Bs} {q n:Int} (hl:l≠[]) (h:step l = .tok q x n) (a:Nat) (t:List Tok) :
 lN l a t=if 1500≤t.length then .inr (5,a) else lN (l.drop x.length) (a+x.length) (t++[⟨q,x,n,a⟩]):=by
 have hf:=fits hl
 rw[h] at hf
 obtain ⟨h1,_,h3,_⟩:=hf
 have h4:1≤x.length:=by cases x with | nil=>exact absurd rfl h1 | cons b r=>simp
 unfold lN
 rw[aC5,aG hl,h]
 dsimp only
 split
 ·rfl
 ·exact wN _ _ _ _ _ (by simp;omega) (by simp)
theorem aHu (Q:Bs→Nat→List Tok→(List Tok) ⊕ (Int × Nat)→Prop)
 (h0:∀ a t,Q [] a t (.inl t))
 (hs:∀ l n a t r,l≠[]→step l = .skip n→Q (l.drop n) (a+n) t r→Q l a t r)
 (he:∀ l c a t,l≠[]→step l = .err c→Q l a t (.inr (c,a)))
 (hf:∀ l q x n a t,l≠[]→step l = .tok q x n→1500≤t.length→Q l a t (.inr (5,a)))
 (ht:∀ l q x n a t r,l≠[]→step l = .tok q x n→t.length<1500→Q (l.drop x.length) (a+x.length) (t++[⟨q,x,n,a⟩]) r→Q l a t r) :
 ∀ (l:Bs) (a:Nat) (t:List Tok),Q l a t (lN l a t):=by
 intro l
 induction hn:l.length using Nat.strongRecOn generalizing l with
 | ind k ih =>
   intro a t
   by_cases hl:l=[]
   ·subst hl;rw[aC6];exact h0 a t
   ·have hfit:=fits hl
    cases hst:step l with
    | err c=>rw[aHt hl hst];exact he l c a t hl hst
    | skip n =>
      rw[hst] at hfit
      rw[wJ hl hst]
      exact hs l n a t _ hl hst (ih _ (by rw[← hn];simp;have:=hfit.1;have:=hfit.2;omega) _ rfl _ _)
    | tok q x n =>
      rw[hst] at hfit
      obtain ⟨h1,_,h3,_⟩:=hfit
      have h4:1≤x.length:=by cases x with | nil=>exact absurd rfl h1 | cons b r=>simp
      rw[aCE hl hst]
      by_cases hc:1500≤t.length
      ·rw[aJ hc];exact hf l q x n a t hl hst hc
      ·rw[aG hc]
       exact ht l q x n a t _ hl hst (by omega) (ih _ (by rw[← hn];simp;omega) _ rfl _ _)
end Go.Proofs.YtidjangjfekfjaaGreatDoor.lx

namespace Go.Proofs.YtidjangjfekfjaaGreatDoor.lx
open Go Go.Dl
structure aOB (s:Bs) (x:Tok) (a:Nat):Prop where
 at':x.kQ=(a:Int)
 ne:x.eG≠[]
 fit:a+x.eG.length≤s.length
 text:(s.drop a).take x.eG.length=x.eG
 k1:1≤x.b9
 k4:x.b9≤4
 key:(x.b9 == 2)=isKey x.eG
def rF (s:Bs):Nat→List Tok→Nat→Prop
 | e,[],e'=>e≤e'
 | e,x::r,e'=>∃ a:Nat,e≤a∧aOB s x a∧rF s (a+x.eG.length) r e'
theorem rF.snoc {s:Bs} {y:Tok} {a:Nat} (hy:aOB s y a):∀ {t:List Tok} {e e1:Nat},rF s e t e1→e1≤a→rF s e (t++[y]) (a+y.eG.length)
 | [],e,e1,h,ha=>⟨a,bV h ha,hy,aR _⟩
 | x::r,e,e1,⟨b,h1,h2,h3⟩,ha=>⟨b,h1,h2,rF.snoc hy h3 ha⟩
theorem rF.aIT {s:Bs}:∀ {t:List Tok} {e e1 e2:Nat},rF s e t e1→e1≤e2→rF s e t e2
 | [],e,e1,e2,h,ha=>bV h ha
 | x::r,e,e1,e2,⟨b,h1,h2,h3⟩,ha=>⟨b,h1,h2,rF.aIT h3 ha⟩
theorem aOC {l:Bs} {c:Int} (h:step l = .err c):c=1∨c=2:=by
 have hw:∀ l:Bs,nD l = .err c→c=1∨c=2:=by
  intro l h
  unfold nD at h
  dsimp only at h
  split at h
  ·cases h;exact .inr rfl
  ·split at h
   ·cases h
   ·split at h
    ·cases h;exact .inl rfl
    ·cases h
 have hn:∀ l:Bs,tJ l = .err c→c=1∨c=2:=by
  intro l h
  unfold tJ at h
  dsimp only at h
  split at h
  ·split at h
   ·cases h;exact .inl rfl
   ·cases h
  ·cases h;exact .inl rfl
 have hc:∀ l:Bs,aBt l = .err c→c=1∨c=2:=by
  intro l h
  unfold aBt at h
  split at h
  ·cases h
  ·cases h;exact .inl rfl
 unfold step at h
 generalize l.headD 0=b at h
 generalize l.tail.headD 0=d at h
 unfold iR at h
 repeat' split at h
 all_goals first
  | (cases h;done)
  | (cases h;exact .inl rfl)
  | exact hw _ h
  | exact hn _ h
  | exact hc _ h
theorem places (s:Bs):∀ (l:Bs) (a:Nat) (t:List Tok),l=s.drop a→a≤s.length→rF s 0 t a→t.length≤1500 →
 (match lN l a t with
 | .inl t'=>t'.length≤1500∧∃ e,rF s 0 t' e
 | .inr (c,a')=>(c=1∨c=2∨c=5)∧a'<s.length):=by
 refine aHu (fun l a t r=>l=s.drop a→a≤s.length→rF s 0 t a→t.length≤1500→match r with
  | .inl t'=>t'.length≤1500∧∃ e,rF s 0 t' e
  | .inr (c,a')=>(c=1∨c=2∨c=5)∧a'<s.length) ?_ ?_ ?_ ?_ ?_
 ·intro a t _ _ hg hl
  exact ⟨hl,a,hg⟩
 ·intro l n a t r hl hst ih he ha hg ht
  have hf:=fits hl
  rw[hst] at hf
  have hlen:l.length=s.length - a:=by rw[he];simp
  refine ih (by rw[he,List.drop_drop]) (by have:=hf.2;omega) (hg.aIT (by omega)) ht
 ·intro l c a t hl hst he ha hg ht
  have hlen:l.length=s.length - a:=by rw[he];simp
  have:1≤l.length:=by cases l with | nil=>exact absurd rfl hl | cons b r=>simp
  refine ⟨?_,by omega⟩
  rcases aOC hst with h | h
  ·exact .inl h
  ·exact .inr (.inl h)
 ·intro l q x n a t hl hst _ he ha hg ht
  have hlen:l.length=s.length - a:=by rw[he];simp
  have:1≤l.length:=by cases l with | nil=>exact absurd rfl hl | cons b r=>simp
  exact ⟨.inr (.inr rfl),by omega⟩
 ·intro l q x n a t r hl hst h15 ih he ha hg ht
  have hf:=fits hl
  rw[hst] at hf
  obtain ⟨h1,h2,h3,h4,h5,h6⟩:=hf
  have hlen:l.length=s.length - a:=by rw[he];simp
  have hl1:1≤l.length:=by cases l with | nil=>exact absurd rfl hl | cons b r=>simp
  have hy:aOB s ⟨q,x,n,a⟩ a:=⟨rfl,h1,by dsimp only;omega,by dsimp only;rw[← he];exact h2.symm,h4,h5,h6⟩
  refine ih (by rw[he,List.drop_drop]) (by omega) (rF.snoc hy hg (aR _)) (by simp;omega)
end Go.Proofs.YtidjangjfekfjaaGreatDoor.lx

namespace Go.Proofs.YtidjangjfekfjaaGreatDoor.lx
open Go Go.Dl
def Is (k:Int) (x:Bs) (n:Int):Prop:=∃ l,l≠[]∧step l = .tok k x n
def Sep (c:UInt8):Prop:=c=32∨c=9∨c=10∨c=13∨c=40
theorem nU {p:UInt8→Bool}:∀ l:Bs,∀ x∈l.takeWhile p,p x=true
 | [],x,h=>by cases h
 | b::r,x,h=>by
   rw[bX] at h
   split at h
   ·rename_i hb
    rcases aT.1 h with rfl | h
    ·exact hb
    ·exact nU r x h
   ·cases h
theorem p4 {p:UInt8→Bool}:∀ (x v:Bs),p (v.headD 0)=false→p 0=false→(∀ y∈x,p y=true)→(x++v).takeWhile p=x
 | [],v,hc,_,_=>by
   cases v with
   | nil=>rfl
   | cons c u=>rw[aL,bX,aG (by rw[show p c=false from hc];simp)]
 | b::r,v,hc,h0,h=>by
   rw[aM,bX,aJ (h b (bR ..)),p4 r v hc h0 (fun y hy=>h y (aV _ hy))]
def Cut (c:UInt8):Prop:=fZ c=false∧isDigit c=false∧c≠42∧c≠61∧c≠62∧c≠46
theorem aUd {c:UInt8} (h:Sep c):Cut c:=by
 rcases h with rfl | rfl | rfl | rfl | rfl <;> exact ⟨by decide,by decide,by decide,by decide,by decide,by decide⟩
theorem aGY {k:Int} {x:Bs} {n:Int} (h:Is k x n) (v:Bs) (hc:Cut (v.headD 0)):step (x++v) = .tok k x n:=by
 obtain ⟨l,hl,hst⟩:=h
 obtain ⟨q1,q2,q3,q4,q5,q6⟩:=hc
 cases l with
 | nil=>exact absurd rfl hl
 | cons b r =>
   have e1:step (b::r)=iR b (r.headD 0) (b::r):=rfl
   rw[e1] at hst
   generalize hd:r.headD 0=d at hst
   have hone:∀ b:UInt8,step ([b]++v)=iR b (v.headD 0) (b::v):=fun _=>rfl
   have aUe:∀ b d:UInt8,step ([b,d]++v)=iR b d (b::d::v):=fun _ _=>rfl
   unfold iR at hst
   by_cases h0:b=32∨b=9∨b=10∨b=13
   ·rw[aJ h0] at hst;cases hst
   rw[aG h0] at hst
   by_cases h40:b=40
   ·rw[aJ h40] at hst
    subst h40
    by_cases aWY:d=42
    ·rw[aJ aWY] at hst
     unfold aBt at hst
     split at hst <;> cases hst
    ·rw[aG aWY] at hst
     cases hst
     rw[hone];unfold iR
     rw[aG h0,aJ rfl,aG q3]
   rw[aG h40] at hst
   by_cases h3:b=58∨b=63∨b=62
   ·rw[aJ h3] at hst
    by_cases h61:d=61
    ·rw[aJ h61] at hst
     cases hst
     rw[aUe];unfold iR
     rw[aG h0,aG h40,aJ h3,aJ rfl]
    ·rw[aG h61] at hst
     by_cases h63:b=63
     ·rw[aJ h63] at hst;cases hst
     ·rw[aG h63] at hst
      cases hst
      rw[hone];unfold iR
      rw[aG h0,aG h40,aJ h3,aG q4,aG h63]
   rw[aG h3] at hst
   by_cases h60:b=60
   ·rw[aJ h60] at hst
    subst h60
    by_cases hd2:d=61∨d=62
    ·rw[aJ hd2] at hst
     cases hst
     rw[aUe];unfold iR
     rw[aG h0,aG h40,aG h3,aJ rfl,aJ hd2]
    ·rw[aG hd2] at hst
     cases hst
     rw[hone];unfold iR
     rw[aG h0,aG h40,aG h3,aJ rfl,aG (fun e=>e.elim q4 q5)]
   rw[aG h60] at hst
   by_cases h46:b=46
   ·rw[aJ h46] at hst
    subst h46
    by_cases aWZ:d=46
    ·rw[aJ aWZ] at hst
     cases hst
     rw[aUe];unfold iR
     rw[aG h0,aG h40,aG h3,aG h60,aJ rfl,aJ rfl]
    ·rw[aG aWZ] at hst
     cases hst
     rw[hone];unfold iR
     rw[aG h0,aG h40,aG h3,aG h60,aJ rfl,aG q6]
   rw[aG h46] at hst
   by_cases hp:b∈mW
   ·rw[aJ hp] at hst
    cases hst
    rw[hone];unfold iR
    rw[aG h0,aG h40,aG h3,aG h60,aG h46,aJ hp]
   rw[aG hp] at hst
   by_cases hlt:iJ b=true
   ·rw[aJ hlt] at hst
    -- a word
    have oY:=nU (p:=fZ) (b::r)
    have aEw:(b::r).takeWhile fZ=b::r.takeWhile fZ:=by rw[bX,aJ (zW hlt)]
    have hx:x=(b::r).takeWhile fZ:=by
     unfold nD at hst
     dsimp only at hst
     split at hst
     ·cases hst
     ·split at hst
      ·cases hst;rfl
      ·split at hst <;> cases hst
       rfl
    have hxc:x=b::r.takeWhile fZ:=hx.trans aEw
    have aUf:step (x++v)=nD (x++v):=by
     rw[hxc]
     show iR b ((r.takeWhile fZ++v).headD 0) (b::(r.takeWhile fZ++v))=nD (b::(r.takeWhile fZ++v))
     unfold iR
     rw[aG h0,aG h40,aG h3,aG h60,aG h46,aG hp,aJ hlt]
    rw[aUf,← hst]
    unfold nD
    rw[p4 x v q1 (by decide) (fun y hy=>by rw[hx] at hy;exact oY y hy),← hx]
   rw[aG hlt] at hst
   by_cases hdg:isDigit b=true
   ·rw[aJ hdg] at hst
    have oY:=nU (p:=isDigit) (b::r)
    have aEw:(b::r).takeWhile isDigit=b::r.takeWhile isDigit:=by rw[bX,aJ hdg]
    have hx:x=(b::r).takeWhile isDigit:=by
     unfold tJ at hst
     dsimp only at hst
     split at hst
     ·split at hst
      ·cases hst
      ·cases hst;rfl
     ·cases hst
    have hxc:x=b::r.takeWhile isDigit:=hx.trans aEw
    have aUf:step (x++v)=tJ (x++v):=by
     rw[hxc]
     show iR b ((r.takeWhile isDigit++v).headD 0) (b::(r.takeWhile isDigit++v))=tJ (b::(r.takeWhile isDigit++v))
     unfold iR
     rw[aG h0,aG h40,aG h3,aG h60,aG h46,aG hp,aG hlt,aJ hdg]
    rw[aUf,← hst]
    unfold tJ
    rw[p4 x v q2 (by decide) (fun y hy=>by rw[hx] at hy;exact oY y hy),← hx]
   rw[aG hdg] at hst
   cases hst
theorem wI {k:Int} {x:Bs} {n:Int} (h:Is k x n) {c:UInt8} (hc:Sep c) (u:Bs):step (x++c::u) = .tok k x n:=aGY h (c::u) (aUd hc)
def aZq (x y:Tok):Prop:=x.b9=y.b9∧x.eG=y.eG∧x.fN=y.fN
inductive aOD:List Tok→List Tok→Prop
 | nil:aOD [] []
 | cons {x y:Tok} {a b:List Tok}:aZq x y→aOD a b→aOD (x::a) (y::b)
theorem aJB:∀ (l:Bs) (a:Nat) (t:List Tok),(∀ x∈t,Is x.b9 x.eG x.fN)→∀ t',lN l a t = .inl t'→∀ x∈t',Is x.b9 x.eG x.fN:=by
 refine aHu (fun l a t r=>(∀ x∈t,Is x.b9 x.eG x.fN)→∀ t',r = .inl t'→∀ x∈t',Is x.b9 x.eG x.fN) ?_ ?_ ?_ ?_ ?_
 ·intro a t h t' e
  cases e
  exact h
 ·intro l n a t r _ _ ih h t' e
  exact ih h t' e
 ·intro l c a t _ _ h t' e;cases e
 ·intro l q x n a t _ _ _ h t' e;cases e
 ·intro l q x n a t r hl hst _ ih h t' e
  refine ih (fun y hy=>?_) t' e
  rcases bH.1 hy with hy | hy
  ·exact h y hy
  ·rw[aS] at hy
   subst hy
   exact ⟨l,hl,hst⟩
end Go.Proofs.YtidjangjfekfjaaGreatDoor.lx

namespace Go.Proofs.YtidjangjfekfjaaGreatDoor.lx
open Go Go.Dl
def uO:Nat→Nat→Bs→Nat
 | n,_,[]=>n
 | n,j,c::t=>uO (if j<6 then n * 10+(c.toNat - 48) else n) (j+1) t
theorem aAR {c:UInt8} (h:isDigit c=true):48≤c.toNat∧c.toNat≤57:=by
 unfold isDigit at h
 simpa using h
theorem aEx:∀ (l:Bs) (n j k:Nat),(∀ c∈l,isDigit c=true)→j+l.length≤6→n<10 ^ k→k+l.length≤6→Lib.parseUint10 n l = .ok (uO n j l)∧uO n j l<10 ^ (k+l.length)
 | [],n,j,k,_,_,hn,_=>⟨rfl,hn⟩
 | c::t,n,j,k,hd,hj,hn,hk=>by
   simp only[aC] at hj hk ⊢
   obtain ⟨h1,h2⟩:=aAR (hd c (bR ..))
   have hp:10 ^ (k+1)=10 ^ k * 10:=Nat.pow_succ ..
   have hm:n * 10+(c.toNat - 48)<10 ^ (k+1):=by rw[hp];omega
   have hb:(10:Nat) ^ (k+1)≤10 ^ 6:=Nat.pow_le_pow_right (by decide) (by omega)
   have ih:=aEx t (n * 10+(c.toNat - 48)) (j+1) (k+1) (fun x hx=>hd x (aV _ hx)) (by omega) hm (by omega)
   rw[uO,aJ (by omega),Lib.parseUint10,aJ ⟨h1,h2⟩,aG (by omega),aG (by omega)]
   exact ⟨ih.1,by rw[show k+(t.length+1)=k+1+t.length by omega];exact ih.2⟩
theorem aOE (l:Bs) (hl:l≠[]) (hd:∀ c∈l,isDigit c=true) (hn:l.length≤5):Lib.atoiAll l = .ok (uO 0 0 l:Int):=by
 cases l with
 | nil=>exact absurd rfl hl
 | cons c t =>
   obtain ⟨h1,h2⟩:=aAR (hd c (bR ..))
   obtain ⟨p1,p2⟩:=aEx (c::t) 0 0 0 hd (by omega) (by decide) (by omega)
   have hb:(10:Nat) ^ (0+(c::t).length)≤10 ^ 6:=Nat.pow_le_pow_right (by decide) (by omega)
   rw[Lib.atoiAll_plain c t (by omega) (by omega),Lib.parseMag,aG (by simp),p1,Lib.signless,aG (by omega)]
theorem aGR (l:Bs) (hl:l.takeWhile isDigit≠[]) (oY:∀ c∈l.takeWhile isDigit,isDigit c=true) :
 tJ l=if 5<(l.takeWhile isDigit).length∨32768<uO 0 0 (l.takeWhile isDigit) then .err 1 else .tok 3 (l.takeWhile isDigit) (uO 0 0 (l.takeWhile isDigit)):=by
 unfold tJ
 generalize l.takeWhile isDigit=s at *
 by_cases h5:5<s.length
 ·rw[aJ (.inl h5)]
  dsimp only
  cases Lib.atoiAll s with
  | ok n=>dsimp only;rw[aJ (.inl h5)]
  | range=>rfl
  | _=>rfl
 ·have:=aOE s hl oY (by omega)
  dsimp only
  rw[this]
  dsimp only
  by_cases hv:32768<uO 0 0 s
  ·rw[aJ (.inr (by omega)),aJ (.inr hv)]
  ·rw[aG (by omega),aG (by omega)]
def sgn (b c:UInt8):Nat :=
 if (c=61∧(b=58∨b=63∨b=60∨b=62))∨(b=46∧c=46)∨(b=60∧c=62) then 2
 else if b∈([43,45,42,47,61,60,62,40,41,91,93,44,59,58,46]:Bs) then 1 else 0
def aFh (b c:UInt8):wS:=if sgn b c=2 then .tok 4 [b,c] 0 else if sgn b c=1 then .tok 4 [b] 0 else .err 1
theorem aEl (b c:UInt8) (l:Bs) (h0:¬(b=32∨b=9∨b=10∨b=13)) (h1:¬(b=40∧c=42)) (h2:iJ b=false) (h3:isDigit b=false):iR b c l=aFh b c:=by
 unfold iR
 rw[aG h0]
 by_cases h40:b=40
 ·subst h40
  rw[aJ rfl,aG (fun e=>h1 ⟨rfl,e⟩)]
  simp [aFh,sgn]
 rw[aG h40]
 by_cases hb:b=58∨b=63∨b=62
 ·rw[aJ hb]
  by_cases hc:c=61
  ·subst hc
   rw[aJ rfl]
   rcases hb with rfl | rfl | rfl <;> rfl
  ·rw[aG hc]
   rcases hb with rfl | rfl | rfl <;> simp [aFh,sgn,hc]
 rw[aG hb]
 by_cases h60:b=60
 ·subst h60
  rw[aJ rfl]
  by_cases hc:c=61∨c=62
  ·rw[aJ hc]
   rcases hc with rfl | rfl <;> rfl
  ·rw[aG hc]
   have q1:c≠61:=fun e=>hc (.inl e)
   have q2:c≠62:=fun e=>hc (.inr e)
   simp [aFh,sgn,q1,q2]
 rw[aG h60]
 by_cases h46:b=46
 ·subst h46
  rw[aJ rfl]
  by_cases hc:c=46
  ·subst hc;rfl
  ·rw[aG hc];simp [aFh,sgn,hc]
 rw[aG h46]
 have q:¬(b=58∨b=63∨b=60∨b=62):=fun e=>e.elim (fun e=>hb (.inl e)) (fun e=>e.elim (fun e=>hb (.inr (.inl e))) (fun e=>e.elim h60 (fun e=>hb (.inr (.inr e)))))
 have hs:¬((c=61∧(b=58∨b=63∨b=60∨b=62))∨(b=46∧c=46)∨(b=60∧c=62)):=fun e=>e.elim (fun e=>q e.2) (fun e=>e.elim (fun e=>h46 e.1) (fun e=>h60 e.1))
 by_cases hp:b∈mW
 ·rw[aJ hp]
  have:sgn b c=1:=by
   unfold sgn
   rw[aG hs,aJ]
   unfold mW at hp
   simp only[aT,List.not_mem_nil,or_false] at hp ⊢
   rcases hp with rfl | rfl | rfl | rfl | rfl | rfl | rfl | rfl | rfl | rfl <;> simp
  unfold aFh
  rw[this];rfl
 ·rw[aG hp,aG (by simp [h2]),aG (by simp [h3])]
  have:sgn b c=0:=by
   unfold sgn
   rw[aG hs,aG]
   unfold mW at hp
   simp only[aT,List.not_mem_nil,or_false] at hp ⊢
   rintro (rfl | rfl | rfl | rfl | rfl | rfl | rfl | rfl | rfl | rfl | rfl | rfl | rfl | rfl | rfl) <;> simp_all
  unfold aFh
  rw[this];rfl
theorem zI (b c:UInt8) (l:Bs) (h:iJ b=true):iR b c l=nD l:=by
 have q:∀ d:UInt8,iJ d=false→b≠d:=by
  rintro d hd rfl
  rw[h] at hd;cases hd
 have q1:=q 32 (by decide);have q2:=q 9 (by decide);have q3:=q 10 (by decide);have q4:=q 13 (by decide);have q5:=q 40 (by decide);have q6:=q 58 (by decide)
 have q7:=q 63 (by decide);have q8:=q 62 (by decide);have q9:=q 60 (by decide);have q10:=q 46 (by decide)
 have qp:b ∉ mW:=by
  intro hm
  have:∀ d∈mW,iJ d=false:=by decide
  rw[this b hm] at h;cases h
 unfold iR
 rw[aG (by simp [q1,q2,q3,q4]),aG q5,aG (by simp [q6,q7,q8]),aG q9,aG q10,aG qp,aJ h]
theorem vR (b c:UInt8) (l:Bs) (h:isDigit b=true):iR b c l=tJ l:=by
 have q:∀ d:UInt8,isDigit d=false→b≠d:=by
  rintro d hd rfl
  rw[h] at hd;cases hd
 have q1:=q 32 (by decide);have q2:=q 9 (by decide);have q3:=q 10 (by decide);have q4:=q 13 (by decide);have q5:=q 40 (by decide);have q6:=q 58 (by decide)
 have q7:=q 63 (by decide);have q8:=q 62 (by decide);have q9:=q 60 (by decide);have q10:=q 46 (by decide)
 have qp:b ∉ mW:=by
  intro hm
  have:∀ d∈mW,isDigit d=false:=by decide
  rw[this b hm] at h;cases h
 have ql:iJ b=false:=by
  obtain ⟨h1,h2⟩:=aAR h
  unfold iJ
  simp;omega
 unfold iR
 rw[aG (by simp [q1,q2,q3,q4]),aG q5,aG (by simp [q6,q7,q8]),aG q9,aG q10,aG qp,aG (by simp [ql]),aJ h]
end Go.Proofs.YtidjangjfekfjaaGreatDoor.lx
