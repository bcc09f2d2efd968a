/- No conditions. -/
import Derived.Test.YtidjangjfekfjaaGreatDoorTyA
import Derived.Lib.Join
import Derived.Lib.ItoaLen
import Derived.KernelRfl
import Derived.Test.YtidjangjfekfjaaGreatDoorHb
set_option linter.unusedVariables false
set_option linter.unusedSimpArgs false
set_option linter.unusedSectionVars false
namespace Go.Proofs.YtidjangjfekfjaaGreatDoor.pr
open Go Go.Dl
abbrev Bs:=List UInt8
abbrev Tk:=List Bs
def B (l:Tk):Bs:=l.flatMap (·++[32])
theorem kM (x:Bs) (l:Tk):B (x::l)=x++32::B l:=by simp [B]
theorem p5 (a b:Tk):B (a++b)=B a++B b:=by simp [B]
theorem aOP:∀ l:Tk,l≠[]→Lib.join l [32]++[32]=B l
 | [],h=>absurd rfl h
 | [x],_=>by simp [Lib.join,B,List.intercalate]
 | x::y::r,_=>by
   have ih:=aOP (y::r) (by simp)
   rw[kM,← ih]
   simp [Lib.join,List.intercalate,List.intersperse]
mutual
def sz:dM→Nat
 | ⟨_,_,nm,wh,a⟩=>1+nm.length+wh.length+sO a
def sO:List dM→Nat
 | []=>0
 | x::r=>sz x+sO r
end
end Go.Proofs.YtidjangjfekfjaaGreatDoor.pr

namespace Go.Proofs.YtidjangjfekfjaaGreatDoor
open Go Go.Proofs Go.Dl
set_option maxRecDepth 100000
theorem dQ {α:Type} {vs:List Bool} {m:Option α}:fI (true::vs) m=fI vs m:=rfl
def gT (n:Int):List Bytes:=if n<0 then [[45],Lib.decDigits n.natAbs] else [Lib.decDigits n.toNat]
def zZ (n:Int):Prop:=-9223372036854775808≤n∧n≤9223372036854775807
theorem put_eq (K:Nat) (w l:List Bytes) (h:w.length+l.length≤1000000000):b5 (jK K (⟨w⟩:dA) l)=some ⟨w++l⟩:=by
 unfold jK
 rw[dZ (vs:=[]) (room_le (by dsimp only;omega)),cB];rfl
theorem aOU (n:Int):(gT n).length≤2:=by unfold gT;split <;> simp
theorem dW (K:Nat) (w:List Bytes) (n:Int) (h:zZ n) (hw:w.length+(gT n).length≤1000000000):b5 (F42 K (⟨w⟩:dA) n)=some ⟨w++gT n⟩:=by
 unfold F42
 unfold gT at hw ⊢
 have e52:b5 (F73 K n)=some (Lib.itoa n):=by unfold F73;rw[aJ (show _∧_ from h)];rfl
 rw[e52,aA]
 have hil:=Lib.itoa_length_le n h.1 h.2
 by_cases hn:n<0
 ·have hi:Lib.itoa n=45::Lib.decDigits n.natAbs:=by unfold Lib.itoa;rw[aJ hn]
  rw[aJ hn] at hw
  simp only[aC,aD] at hw
  rw[aJ (by rw[bQ];exact hn),aJ hn,put_eq K w _ (by simp;omega),aA,dZ (vs:=[]) (by rw[hi];simp [jC];omega),cB]
  simp only[cY]
  rw[cD]
  dsimp only
  have ed:((Lib.itoa n).drop (1:Int).toNat).take (((Int.ofNat (Lib.itoa n).length):Int).toNat - (1:Int).toNat)=Lib.decDigits n.natAbs:=by
   rw[hi];simp
  rw[ed,put_eq K _ _ (by simp;omega),aA,aH];rfl
 ·have hi:Lib.itoa n=Lib.decDigits n.toNat:=by unfold Lib.itoa;rw[aG hn]
  rw[aG hn] at hw
  simp only[aC,aD] at hw
  rw[aG (by rw[bQ];exact hn),aG hn,cD]
  dsimp only
  rw[put_eq K _ _ (by simp;omega),aA,hi];rfl
end Go.Proofs.YtidjangjfekfjaaGreatDoor

namespace Go.Proofs.YtidjangjfekfjaaGreatDoor.pr
open Go Go.Dl
def named (n:Int) (l:List Bs):Bs:=if n<1∨(l.length:Int)<n then [63] else l.getD (n - 1).toNat []
def timers:List Bs:=[[84,79,78],[84,79,70],[84,80],[67,84,85],[67,84,68],[82,95,84,82,73,71],[70,95,84,82,73,71]]
def rY (t:kI):Tk :=
 if t.b9=1 then [[73,78,84]]
 else if t.b9=2 then [[66,79,79,76]]
 else if t.b9=3 then [[73,78,84],[40]]++gT t.jJ++[[46,46]]++gT t.jM++[[41]]
 else if t.b9=4 then [[65,82,82,65,89],[91]]++gT t.jM++[[93],[79,70],[73,78,84]]
 else if t.b9=5 then [[82,69,70,95,84,79],t.cA]
 else if t.b9=6 then [t.cA]
 else if t.b9=7 then [named t.jJ timers]
 else [[63]]
def ops:List Bs:=[[43],[45],[42],[47],[77,79,68],[61],[60,62],[60],[60,61],[62],[62,61],[65,78,68],[79,82],[88,79,82]]
def tA (ag:List (Int × Tk)) (i:Nat):Tk:=match ag[i]? with
 | none=>[[63]]
 | some p=>p.2
def pT (ag:List (Int × Tk)) (i:Nat):Tk:=match ag[i]? with
 | none=>[[63]]
 | some p=>if p.1=7∨p.1=8∨p.1=9 then [[40]]++p.2++[[41]] else p.2
def lU {X E:Type} (g:Nat→X→List E):Nat→List X→List E
 | _,[]=>[]
 | n,x::r=>g n x++lU g (n+1) r
theorem uB {X E:Type} (g:Nat→X→List E):∀ (a b:List X) (n:Nat),lU g n (a++b)=lU g n a++lU g (n+a.length) b
 | [],b,n=>rfl
 | x::r,b,n=>by
   show g n x++lU g (n+1) (r++b)=(g n x++lU g (n+1) r)++_
   rw[uB g r b (n+1),aH,aC]
   rw[show n+1+r.length=n+(r.length+1) by omega]
def tK (i:Nat):Tk:=if 0<i then [[44]] else []
def zJ (l:List (Int × Tk)):Tk:=lU (fun i p=>tK i++p.2) 0 l
def iB (k n:Int) (nm wh:Bs) (ag:List (Int × Tk)):Tk :=
 if k=1 then gT n
 else if k=2 then [[84,82,85,69]]
 else if k=3 then [[70,65,76,83,69]]
 else if k=4 then [[78,85,76,76]]
 else if k=5 then [nm]
 else if k=6 then [nm,[91]]++tA ag 0++[[93]]
 else if k=7 then [[45]]++pT ag 0
 else if k=8 then [[78,79,84]]++pT ag 0
 else if k=9 then pT ag 0++[named n ops]++pT ag 1
 else if k=10 then [[82,69,70],[40],nm,[41]]
 else if k=11 then [[68,79,78,69],[40],nm,[41]]
 else if k=12 then [[67,79,85,78,84],[40],nm,[41]]
 else if k=14 then [[65,83],nm,[40]]++tA ag 0++[[41]]
 else if k=13 then [named (n+1) [nm,[84,72,73,83],[83,85,80,69,82]],[46],wh,[40]]++zJ ag++[[41]]
 else [[63]]
mutual
def gC:dM→Tk
 | ⟨k,n,nm,wh,ag⟩=>iB k n nm wh (tkL ag)
def tkL:List dM→List (Int × Tk)
 | []=>[]
 | x::r=>(x.b9,gC x)::tkL r
end
theorem aKM:∀ l:List dM,tkL l=l.map fun x=>(x.b9,gC x)
 | []=>by rw[tkL];rfl
 | x::r=>by rw[tkL,aKM r];rfl
theorem oL (e:dM):gC e=iB e.b9 e.fN e.cA e.mV (e.gK.map fun x=>(x.b9,gC x)):=by
 obtain ⟨k,n,nm,wh,ag⟩:=e
 rw[gC,aKM]
theorem zO:∀ (l:List dM) (x:dM),x∈l→sz x≤sO l
 | [],x,h=>by cases h
 | y::r,x,h=>by
   rw[sO]
   rcases aT.1 h with rfl | h
   ·omega
   ·have:=zO r x h;omega
theorem oB (e:dM):sz e=1+e.cA.length+e.mV.length+sO e.gK:=by
 obtain ⟨k,n,nm,wh,ag⟩:=e
 rw[sz]
mutual
def okE:dM→Prop
 | ⟨_,n,_,_,ag⟩=>zZ n∧yS ag
def yS:List dM→Prop
 | []=>True
 | x::r=>okE x∧yS r
end
theorem aFH:∀ (l:List dM),yS l→∀ x∈l,okE x
 | [],_,x,h=>by cases h
 | y::r,hl,x,h=>by
   rw[yS] at hl
   rcases aT.1 h with rfl | h
   ·exact hl.1
   ·exact aFH r hl.2 x h
theorem l6 (e:dM):okE e↔zZ e.fN∧yS e.gK:=by
 obtain ⟨k,n,nm,wh,ag⟩:=e
 rw[okE]
end Go.Proofs.YtidjangjfekfjaaGreatDoor.pr

namespace Go.Proofs.YtidjangjfekfjaaGreatDoor
open Go Go.Proofs Go.Dl
set_option maxRecDepth 100000
theorem fW (K:Nat) (n:Int) (l:List Bytes) (hl:l.length≤1000):b5 (F45 K n l)=some (pr.named n l):=by
 unfold F45 pr.named
 simp only[cY]
 by_cases h:n<1∨(l.length:Int)<n
 ·rw[aJ (by simp;omega),aJ h];rfl
 ·rw[aG (by simp;omega),aG h]
  have ew:IntKind.i64.wrap (n - 1)=n - 1:=wrap64 (by omega) (by omega)
  have hi:jL (n - 1) l.length=true:=by simp [jL];omega
  rw[ew,hi,dZ (vs:=[]) rfl,cB]
  rfl
theorem rS (K:Nat) (w:List Bytes) (t:kI) (hlo:zZ t.jJ) (hhi:zZ t.jM) (hw:w.length+(pr.rY t).length≤1000000000):b5 (F32 K (⟨w⟩:dA) t)=some ⟨w++pr.rY t⟩:=by
 obtain ⟨k,lo,hi,nm⟩:=t
 dsimp only at hlo hhi
 have hn:=fW K lo pr.timers (by simp [pr.timers])
 unfold pr.timers at hn
 by_cases h1:k=1
 ·subst h1
  simp (disch:=(first | assumption | ((try simp only[aB,aC,aD]);omega))) only[pr.rY,↓reduceIte,Int.reduceBEq,Int.reduceEq,aE,hn,dW,pr.timers,put_eq,aA,cD,cS,cH,cC,cG,eE,dS,cY,cE,cB,aH,aM,aL,aB,aC,aD] at hw
  unfold F32
  simp (disch:=(first | assumption | ((try simp only[aB,aC,aD]);omega))) only[pr.rY,↓reduceIte,Int.reduceBEq,Int.reduceEq,aE,hn,dW,pr.timers,put_eq,aA,cD,cS,cH,cC,cG,eE,dS,cY,cE,cB,aH,aM,aL,aB,aC,aD]
 by_cases h2:k=2
 ·subst h2
  simp (disch:=(first | assumption | ((try simp only[aB,aC,aD]);omega))) only[pr.rY,↓reduceIte,Int.reduceBEq,Int.reduceEq,aE,hn,dW,pr.timers,put_eq,aA,cD,cS,cH,cC,cG,eE,dS,cY,cE,cB,aH,aM,aL,aB,aC,aD] at hw
  unfold F32
  simp (disch:=(first | assumption | ((try simp only[aB,aC,aD]);omega))) only[pr.rY,↓reduceIte,Int.reduceBEq,Int.reduceEq,aE,hn,dW,pr.timers,put_eq,aA,cD,cS,cH,cC,cG,eE,dS,cY,cE,cB,aH,aM,aL,aB,aC,aD]
 by_cases h3:k=3
 ·subst h3
  simp (disch:=(first | assumption | ((try simp only[aB,aC,aD]);omega))) only[pr.rY,↓reduceIte,Int.reduceBEq,Int.reduceEq,aE,hn,dW,pr.timers,put_eq,aA,cD,cS,cH,cC,cG,eE,dS,cY,cE,cB,aH,aM,aL,aB,aC,aD] at hw
  unfold F32
  simp (disch:=(first | assumption | ((try simp only[aB,aC,aD]);omega))) only[pr.rY,↓reduceIte,Int.reduceBEq,Int.reduceEq,aE,hn,dW,pr.timers,put_eq,aA,cD,cS,cH,cC,cG,eE,dS,cY,cE,cB,aH,aM,aL,aB,aC,aD]
 by_cases h4:k=4
 ·subst h4
  simp (disch:=(first | assumption | ((try simp only[aB,aC,aD]);omega))) only[pr.rY,↓reduceIte,Int.reduceBEq,Int.reduceEq,aE,hn,dW,pr.timers,put_eq,aA,cD,cS,cH,cC,cG,eE,dS,cY,cE,cB,aH,aM,aL,aB,aC,aD] at hw
  unfold F32
  simp (disch:=(first | assumption | ((try simp only[aB,aC,aD]);omega))) only[pr.rY,↓reduceIte,Int.reduceBEq,Int.reduceEq,aE,hn,dW,pr.timers,put_eq,aA,cD,cS,cH,cC,cG,eE,dS,cY,cE,cB,aH,aM,aL,aB,aC,aD]
 by_cases h5:k=5
 ·subst h5
  simp (disch:=(first | assumption | ((try simp only[aB,aC,aD]);omega))) only[pr.rY,↓reduceIte,Int.reduceBEq,Int.reduceEq,aE,hn,dW,pr.timers,put_eq,aA,cD,cS,cH,cC,cG,eE,dS,cY,cE,cB,aH,aM,aL,aB,aC,aD] at hw
  unfold F32
  simp (disch:=(first | assumption | ((try simp only[aB,aC,aD]);omega))) only[pr.rY,↓reduceIte,Int.reduceBEq,Int.reduceEq,aE,hn,dW,pr.timers,put_eq,aA,cD,cS,cH,cC,cG,eE,dS,cY,cE,cB,aH,aM,aL,aB,aC,aD]
 by_cases h6:k=6
 ·subst h6
  simp (disch:=(first | assumption | ((try simp only[aB,aC,aD]);omega))) only[pr.rY,↓reduceIte,Int.reduceBEq,Int.reduceEq,aE,hn,dW,pr.timers,put_eq,aA,cD,cS,cH,cC,cG,eE,dS,cY,cE,cB,aH,aM,aL,aB,aC,aD] at hw
  unfold F32
  simp (disch:=(first | assumption | ((try simp only[aB,aC,aD]);omega))) only[pr.rY,↓reduceIte,Int.reduceBEq,Int.reduceEq,aE,hn,dW,pr.timers,put_eq,aA,cD,cS,cH,cC,cG,eE,dS,cY,cE,cB,aH,aM,aL,aB,aC,aD]
 by_cases h7:k=7
 ·subst h7
  simp (disch:=(first | assumption | ((try simp only[aB,aC,aD]);omega))) only[pr.rY,↓reduceIte,Int.reduceBEq,Int.reduceEq,aE,hn,dW,pr.timers,put_eq,aA,cD,cS,cH,cC,cG,eE,dS,cY,cE,cB,aH,aM,aL,aB,aC,aD] at hw
  unfold F32
  simp (disch:=(first | assumption | ((try simp only[aB,aC,aD]);omega))) only[pr.rY,↓reduceIte,Int.reduceBEq,Int.reduceEq,aE,hn,dW,pr.timers,put_eq,aA,cD,cS,cH,cC,cG,eE,dS,cY,cE,cB,aH,aM,aL,aB,aC,aD]
 simp (disch:=(first | assumption | ((try simp only[aB,aC,aD]);omega))) only[pr.rY,h1,h2,h3,h4,h5,h6,h7,↓reduceIte,hn,dW,pr.timers,put_eq,aA,cD,cS,cH,cC,cG,eE,dS,cY,cE,cB,aH,aM,aL,aB,aC,aD] at hw
 unfold F32
 simp (disch:=(first | assumption | ((try simp only[aB,aC,aD]);omega))) only[pr.rY,h1,h2,h3,h4,h5,h6,h7,beq_iff_eq,↓reduceIte,hn,dW,pr.timers,put_eq,aA,cD,cS,cH,cC,cG,eE,dS,cY,cE,cB,aH,aM,aL,aB,aC,aD]
end Go.Proofs.YtidjangjfekfjaaGreatDoor

namespace Go.Proofs.YtidjangjfekfjaaGreatDoor.pr
open Go Go.Dl
theorem aBS {X:Type} {l:List X} {d:X} {i:Nat} (h:i<l.length):l.getD i d=l[i]:=by simp [List.getD,aN h]
theorem gO {X:Type} [Inhabited X]:∀ {l:List X} {i:Nat},i<l.length→l.getD i default∈l:=by
 intro l i h
 rw[aBS h]
 exact List.getElem_mem h
theorem kL {α:Type} (l:List α) (d:α) (n:Nat) (h:n<l.length):l.drop n=l.getD n d::l.drop (n+1):=by
 rw[List.drop_eq_getElem_cons h]
 simp [List.getD,aN h]
theorem aHE {X E:Type} [Inhabited X] (g:Nat→X→List E) (l:List X) (i n:Nat) (h:i<l.length):lU g n (l.drop i)=g n (l.getD i default)++lU g (n+1) (l.drop (i+1)):=by
 rw[kL l default i h];rfl
theorem aBT {X E A S:Type} [Inhabited X] {f:S→Option (A ⊕ S)} (st:Nat→List E→S) (out:List E→A) (l:List X) (g:Nat→X→List E) (T lo:Nat)
 (h:∀ (i:Nat),lo≤i→i<l.length→∀ v:List E,v.length+(g i (l.getD i default)).length≤T→f (st i v)=some (.inr (st (i+1) (v++g i (l.getD i default)))))
 (hs:∀ v,f (st l.length v)=some (.inl (out v))) :
 ∀ (d i K:Nat) (v:List E),lo≤i→i+d=l.length→d<K→v.length+(lU g i (l.drop i)).length≤T→iter K f (st i v)=some (out (v++lU g i (l.drop i)))
 | 0,i,K,v,hlo,hi,hk,hT=>by
   obtain ⟨K,rfl⟩:∃ k,K=k+1:=⟨K - 1,by omega⟩
   have hi':i=l.length:=by omega
   subst hi'
   unfold iter
   rw[hs v,List.drop_length]
   show some (out v)=some (out (v++[]))
   rw[aO]
 | d+1,i,K,v,hlo,hi,hk,hT=>by
   obtain ⟨K,rfl⟩:∃ k,K=k+1:=⟨K - 1,by omega⟩
   have hil:i<l.length:=by omega
   rw[aHE g l i i hil,aB] at hT
   unfold iter
   rw[h i hlo hil v (by omega)]
   dsimp only
   rw[aBT st out l g T lo h hs d (i+1) K _ (by omega) (by omega) (by omega) (by rw[aB];omega),aHE g l i i hil,aH]
theorem mX {X E A:Type} [Inhabited X] {f:List E × Int→Option (A ⊕ (List E × Int))} (out:List E→A) (l:List X) (g:Nat→X→List E) (T:Nat) {K:Nat} {w:List E} (hk:l.length<K) (hT:w.length+(lU g 0 l).length≤T)
 (h:∀ (i:Nat),i<l.length→∀ v:List E,v.length+(g i (l.getD i default)).length≤T→f (v,(i:Int))=some (.inr (v++g i (l.getD i default),((i+1:Nat):Int))))
 (hs:∀ v,f (v,(l.length:Int))=some (.inl (out v))):iter K f (w,0)=some (out (w++lU g 0 l)):=by
 have:=aBT (fun i v=>(v,(i:Int))) out l g T 0 (fun i _=>h i) hs l.length 0 K w (by omega) (by omega) hk (by simpa using hT)
 simpa using this
theorem aL5 {X E A B:Type} [Inhabited X] {f:List E × B × Int→Option (A ⊕ (List E × B × Int))} (wd:Nat→B) {b0:B} (hb:wd 0=b0) (out:List E→A) (l:List X) (g:Nat→X→List E) (T:Nat) {K:Nat} {w:List E} (hk:l.length<K) (hT:w.length+(lU g 0 l).length≤T)
 (h:∀ (i:Nat),i<l.length→∀ v:List E,v.length+(g i (l.getD i default)).length≤T→f (v,wd i,(i:Int))=some (.inr (v++g i (l.getD i default),wd (i+1),((i+1:Nat):Int))))
 (hs:∀ v,f (v,wd l.length,(l.length:Int))=some (.inl (out v))):iter K f (w,b0,0)=some (out (w++lU g 0 l)):=by
 subst hb
 have:=aBT (fun i v=>(v,wd i,(i:Int))) out l g T 0 (fun i _=>h i) hs l.length 0 K w (by omega) (by omega) hk (by simpa using hT)
 simpa using this
theorem rR {i n:Nat} (h:i<n):decide ((i:Int)<Int.ofNat n)=true:=by simp;omega
theorem pH {n:Nat}:decide ((n:Int)<Int.ofNat n)=false:=by simp
theorem kV {i:Nat} (h:i≤1000000000000):IntKind.i64.wrap ((i:Int)+1)=((i+1:Nat):Int):=by
 rw[wrap64 (by omega) (by omega)];rfl
def qJ (bl:List (List Tk)) (i:Nat):Tk:=(bl.getD i []).flatten
def aHF:List Tk→Tk
 | []=>[]
 | x::r=>[[69,76,83,69]]++(x::r).flatten
def z6 (bl:List (List Tk)) (i:Nat):Tk:=aHF (bl.getD i [])
def uQ (l:List Int):Tk:=lU (fun i n=>tK i++gT n) 0 l
def ifW (i:Nat):Bs:=if i=0 then [73,70] else [69,76,83,73,70]
def ifT (ex:List (Int × Tk)) (bl:List (List Tk)):Tk :=
 lU (fun i (_:Nat)=>[ifW i]++tA ex i++[[84,72,69,78]]++qJ bl i) 0 (List.range (max ex.length 1))++z6 bl (max ex.length 1)++[[69,78,68,95,73,70]]
def z7 (ex:List (Int × Tk)) (lb:List (List Int)) (bl:List (List Tk)):Tk :=
 [[67,65,83,69]]++tA ex 0++[[79,70]]++lU (fun i l=>uQ l++[[58]]++qJ bl i) 0 lb++z6 bl lb.length++[[69,78,68,95,67,65,83,69]]
def aBq (ex:List (Int × Tk)):Tk:=match ex with
 | []=>[]
 | p::_=>p.2
def gZ (k n:Int) (nm:Bs) (ex:List (Int × Tk)) (lb:List (List Int)) (bl:List (List Tk)):Tk :=
 if k=1 then [nm,[58,61]]++tA ex 0
 else if k=2 then [nm,[91]]++tA ex 0++[[93],[58,61]]++tA ex 1
 else if k=3 then [nm,[63,61]]++tA ex 0
 else if k=4 then tA ex 0
 else if k=5 then ifT ex bl
 else if k=6 then z7 ex lb bl
 else if k=7 then [[87,72,73,76,69]]++tA ex 0++[[68,79]]++qJ bl 0++[[69,78,68,95,87,72,73,76,69]]
 else if k=8 then [[70,79,82],nm,[58,61]]++tA ex 0++[[84,79]]++tA ex 1++[[66,89]]++gT n++[[68,79]]++qJ bl 0++[[69,78,68,95,70,79,82]]
 else if k=9 then [[82,69,84,85,82,78]]++aBq ex
 else if k=10 then [[69,88,73,84]]
 else if k=11 then [[83,84,69,80],nm,[40]]++tA ex 0++[[44]]++tA ex 1++[[41]]
 else [[63]]
def lI (l:List dM):List (Int × Tk):=l.map fun x=>(x.b9,gC x)
mutual
def oG:cU→Tk
 | ⟨k,n,nm,ex,lb,bl⟩=>gZ k n nm (lI ex) lb (aHG bl)++[[59]]
def aOQ:List cU→List Tk
 | []=>[]
 | x::r=>oG x::aOQ r
def aHG:List (List cU)→List (List Tk)
 | []=>[]
 | x::r=>aOQ x::aHG r
end
theorem aHH:∀ l:List cU,aOQ l=l.map oG
 | []=>by rw[aOQ];rfl
 | x::r=>by rw[aOQ,aHH r];rfl
theorem aEz:∀ l:List (List cU),aHG l=l.map fun b=>b.map oG
 | []=>by rw[aHG];rfl
 | x::r=>by rw[aHG,aEz r,aHH];rfl
def qK (bl:List (List cU)):List (List Tk):=bl.map fun b=>b.map oG
theorem aOR (s:cU):oG s=gZ s.b9 s.fN s.cA (lI s.eD) s.dF (qK s.dL)++[[59]]:=by
 obtain ⟨k,n,nm,ex,lb,bl⟩:=s
 rw[oG,aEz];rfl
def iK (l:List cU):Tk:=(l.map oG).flatten
def sX (v:fO):Tk:=[[86,65,82],v.cA,[58]]++rY v.jN++(if v.uL=0 then [] else [[58,61]]++gT v.uL)++(if v.zV=1 then [[65,84],[73,78]]++gT v.xG else if v.zV=2 then [[65,84],[79,85,84]]++gT v.xG else [])++[[59]]
def nE (l:List fO):Tk:=lU (fun _ v=>sX v) 0 l
def uR (l:List fO):Tk:=lU (fun i v=>tK i++[v.cA,[58]]++rY v.jN) 0 l
def p6 (m:jT):Tk:=[m.cA,[40]]++uR m.dH++[[41]]++(if m.cI.b9=0 then [] else [[58]]++rY m.cI)++[[59]]
def flag (b:Bool) (w:Bs):Tk:=if b=true then [w] else []
def aC9 (m:jT):Tk:=[[77,69,84,72,79,68]]++p6 m
def rG (m:jT):Tk:=[[77,69,84,72,79,68]]++flag m.iD [79,86,69,82,82,73,68,69]++flag m.dP [65,66,83,84,82,65,67,84]++flag m.eS [70,73,78,65,76]++p6 m++nE m.fB++iK m.fM++[[69,78,68,95,77,69,84,72,79,68]]
def aAS (i:Nat) (f:Bs):Tk:=[if i=0 then [73,77,80,76,69,77,69,78,84,83] else [44],f]
def gL (d:kY):Tk :=
 if d.b9=1 then [[73,78,84,69,82,70,65,67,69],d.cA,[59]]++lU (fun _ m=>aC9 m) 0 d.b6++[[69,78,68,95,73,78,84,69,82,70,65,67,69]]
 else if d.b9=2 then [[67,76,65,83,83]]++flag d.dP [65,66,83,84,82,65,67,84]++flag d.eS [70,73,78,65,76]++[d.cA]++(if d.iG=[] then [] else [[69,88,84,69,78,68,83],d.iG])++lU aAS 0 d.eL++[[59]]++nE d.fB++lU (fun _ m=>rG m) 0 d.b6++[[69,78,68,95,67,76,65,83,83]]
 else if d.b9=3 then [[80,82,79,71,82,65,77],d.cA,[59]]++nE d.fB++iK d.fM++[[69,78,68,95,80,82,79,71,82,65,77]]
 else if d.b9=4 then [[84,65,83,75],d.cA,[40],[73,78,84,69,82,86,65,76]]++gT d.tY++[[44],[80,82,73,79,82,73,84,89]]++gT d.tZ++[[41],[58],d.iG,[59]]
 else [[63]]
def J (t:Tk):Bs:=Lib.join t [32]
def xH (l:List kY):Bs:=lU (fun _ d=>J (gL d)++[10]) 0 l
def p7 (l:List (List Int)):Nat:=(l.map fun x=>1+x.length).sum
mutual
def szS:cU→Nat
 | ⟨_,_,nm,ex,lb,bl⟩=>1+nm.length+sO ex+p7 lb+k8 bl
def kS:List cU→Nat
 | []=>0
 | x::r=>szS x+kS r
def k8:List (List cU)→Nat
 | []=>0
 | x::r=>1+kS x+k8 r
end
theorem aFI (s:cU):szS s=1+s.cA.length+sO s.eD+p7 s.dF+k8 s.dL:=by
 obtain ⟨k,n,nm,ex,lb,bl⟩:=s
 rw[szS]
theorem aDa:∀ (l:List cU) (x:cU),x∈l→szS x≤kS l
 | [],x,h=>by cases h
 | y::r,x,h=>by
   rw[kS]
   rcases aT.1 h with rfl | h
   ·omega
   ·have:=aDa r x h;omega
theorem aEB:∀ (l:List (List cU)) (x:List cU),x∈l→1+kS x≤k8 l
 | [],x,h=>by cases h
 | y::r,x,h=>by
   rw[k8]
   rcases aT.1 h with rfl | h
   ·omega
   ·have:=aEB r x h;omega
theorem aDb:∀ l:List cU,l.length≤kS l
 | []=>by simp
 | x::r=>by
   have:=aDb r
   have h1:=aFI x
   rw[kS,aC];omega
theorem aFJ:∀ l:List dM,l.length≤sO l
 | []=>by simp
 | x::r=>by
   have:=aFJ r
   have h1:=oB x
   rw[sO,aC];omega
theorem aL6 (l:List (List Int)):l.length≤p7 l:=by
 unfold p7
 induction l with
 | nil=>simp
 | cons x r ih=>simp only[bS,List.sum_cons,aC];omega
theorem aL7 (l:List (List Int)) (x:List Int) (h:x∈l):x.length≤p7 l:=by
 unfold p7
 induction l with
 | nil=>cases h
 | cons y r ih =>
   simp only[bS,List.sum_cons]
   rcases aT.1 h with rfl | h
   ·omega
   ·have:=ih h;omega
def z8 (l:List (List Int)):Prop:=∀ x∈l,∀ n∈x,zZ n
mutual
def okS:cU→Prop
 | ⟨_,n,_,ex,lb,bl⟩=>zZ n∧yS ex∧z8 lb∧nF bl
def oE:List cU→Prop
 | []=>True
 | x::r=>okS x∧oE r
def nF:List (List cU)→Prop
 | []=>True
 | x::r=>oE x∧nF r
end
theorem aOS (s:cU):okS s↔zZ s.fN∧yS s.eD∧z8 s.dF∧nF s.dL:=by
 obtain ⟨k,n,nm,ex,lb,bl⟩:=s
 rw[okS]
theorem aDc:∀ (l:List cU),oE l→∀ x∈l,okS x
 | [],_,x,h=>by cases h
 | y::r,hl,x,h=>by
   rw[oE] at hl
   rcases aT.1 h with rfl | h
   ·exact hl.1
   ·exact aDc r hl.2 x h
theorem aEC:∀ (l:List (List cU)),nF l→∀ x∈l,oE x
 | [],_,x,h=>by cases h
 | y::r,hl,x,h=>by
   rw[nF] at hl
   rcases aT.1 h with rfl | h
   ·exact hl.1
   ·exact aEC r hl.2 x h
def okT (t:kI):Prop:=zZ t.jJ∧zZ t.jM
def okV (v:fO):Prop:=okT v.jN∧zZ v.uL∧zZ v.xG
def okM (m:jT):Prop:=(∀ v∈m.dH,okV v)∧okT m.cI∧(∀ v∈m.fB,okV v)∧oE m.fM
def okD (d:kY):Prop:=(∀ v∈d.fB,okV v)∧(∀ m∈d.b6,okM m)∧oE d.fM∧zZ d.tY∧zZ d.tZ
def aUl (m:jT):Prop:=m.dH.length≤2000000∧m.fB.length≤2000000∧kS m.fM≤2000000
def aL8 (d:kY):Prop:=d.fB.length≤2000000∧d.eL.length≤2000000∧d.b6.length≤2000000∧kS d.fM≤2000000∧∀ m∈d.b6,aUl m
end Go.Proofs.YtidjangjfekfjaaGreatDoor.pr

namespace Go.Proofs.YtidjangjfekfjaaGreatDoor
open Go Go.Proofs Go.Dl
set_option maxRecDepth 100000
theorem aKQ {l:List (Int × List Bytes)} {i:Nat} (h:l.length≤i):pr.tA l i=[[63]]:=by
 unfold pr.tA;rw[aZ h]
theorem aFO {l:List dM} {i:Nat} (h:i<l.length):pr.tA (pr.lI l) i=pr.gC (l.getD i default):=by
 unfold pr.tA pr.lI
 rw[bD,aN h,pr.aBS h];rfl
theorem aOY {l:List (Int × List Bytes)} {i:Nat} (h:l.length≤i):pr.pT l i=[[63]]:=by
 unfold pr.pT;rw[aZ h]
theorem aOZ {l:List dM} {i:Nat} (h:i<l.length):pr.pT (pr.lI l) i=if (l.getD i default).b9=7∨(l.getD i default).b9=8∨(l.getD i default).b9=9 then [[40]]++pr.gC (l.getD i default)++[[41]] else pr.gC (l.getD i default):=by
 unfold pr.pT pr.lI
 rw[bD,aN h,pr.aBS h];rfl
theorem aBU (l:List dM):(pr.lI l).length=l.length:=by simp [pr.lI]
def HE (K:Nat) (l:List dM):Prop:=∀ x∈l,∀ w:List Bytes,w.length+(pr.gC x).length≤1000000000→b5 (F18 K (⟨w⟩:dA) x)=some ⟨w++pr.gC x⟩
theorem aBn (K:Nat) (w:List Bytes) (l:List dM) (H:HE K l) (i:Nat) (hw:w.length+(pr.tA (pr.lI l) i).length≤1000000000):b5 (F44 (K+1) (⟨w⟩:dA) l (i:Int))=some ⟨w++pr.tA (pr.lI l) i⟩:=by
 rw[F44]
 simp only[cY]
 by_cases h:l.length≤i
 ·rw[aKQ (by rw[aBU];exact h)] at hw ⊢
  rw[aJ (by simp;omega),put_eq _ _ _ hw];rfl
 ·rw[aFO (by omega)] at hw ⊢
  rw[aG (by simp;omega),dZ (vs:=[]) (eW (by omega)),cB,aY,H _ (pr.gO (by omega)) _ hw];rfl
theorem aO0 (K:Nat) (w:List Bytes) (l:List dM) (H:HE K l) (i:Nat) (hw:w.length+(pr.pT (pr.lI l) i).length≤1000000000):b5 (F46 (K+2) (⟨w⟩:dA) l (i:Int))=some ⟨w++pr.pT (pr.lI l) i⟩:=by
 rw[F46]
 simp only[cY]
 by_cases h:l.length≤i
 ·have e:pr.pT (pr.lI l) i=pr.tA (pr.lI l) i:=by rw[aOY (by rw[aBU];exact h),aKQ (by rw[aBU];exact h)]
  rw[e] at hw ⊢
  rw[aG (by simp;omega),cD,aBn K w l H i hw];rfl
 ·have e:pr.tA (pr.lI l) i=pr.gC (l.getD i default):=aFO (by omega)
  rw[aOZ (by omega)] at hw ⊢
  rw[aJ (by simp;omega),dZ (vs:=[]) (eW (by omega)),cB,cD,aY]
  by_cases hk:(l.getD i default).b9=7∨(l.getD i default).b9=8∨(l.getD i default).b9=9
  ·rw[aJ hk] at hw ⊢
   simp only[aB,aC,aD] at hw
   have hp:∀ {A:Type} (a b c:Option (A ⊕ Bool)),(if ((l.getD i default).b9 == 7)=true then (some (.inr ((l.getD i default).b9 == 7)):Option (A ⊕ Bool)) else if ((l.getD i default).b9 == 8)=true then some (.inr ((l.getD i default).b9 == 8)) else some (.inr ((l.getD i default).b9 == 9)))=some (.inr true):=by
    intro A _ _ _
    rcases hk with hk | hk | hk <;> rw[hk] <;> rfl
   rw[hp none none none,cD,aJ rfl,put_eq _ _ _ (by simp only[aC,aD];omega)]
   simp only[aA]
   rw[aBn K _ l H i (by rw[e];simp only[aB,aC,aD];omega),e]
   simp only[aA]
   rw[put_eq _ _ _ (by simp only[aB,aC,aD];omega)]
   simp only[aA,cH,cD,eE,aH]
  ·rw[aG hk] at hw ⊢
   have hp:∀ {A:Type},(if ((l.getD i default).b9 == 7)=true then (some (.inr ((l.getD i default).b9 == 7)):Option (A ⊕ Bool)) else if ((l.getD i default).b9 == 8)=true then some (.inr ((l.getD i default).b9 == 8)) else some (.inr ((l.getD i default).b9 == 9)))=some (.inr false):=by
    intro A
    simp only[not_or] at hk
    generalize (l.getD i default).b9=z at hk
    simp [hk.1,hk.2.1,hk.2.2]
   rw[hp,cD,aG (by simp),aBn K _ l H i (by rw[e];exact hw),e];rfl
theorem aBV (K:Nat) (w:List Bytes) (l:List dM) (H:HE K l) (hK:l.length<K) (h62:l.length≤1000000000) (hw:w.length+(pr.zJ (pr.lI l)).length≤1000000000):b5 (F47 (K+1) (⟨w⟩:dA) l)=some ⟨w++pr.zJ (pr.lI l)⟩:=by
 rw[F47]
 have eg:pr.zJ (pr.lI l)=pr.lU (fun i x=>pr.tK i++pr.gC x) 0 l:=by
  unfold pr.zJ pr.lI
  have:∀ (l:List dM) (n:Nat),pr.lU (fun i (p:Int × List Bytes)=>pr.tK i++p.2) n (l.map fun x=>(x.b9,pr.gC x))=pr.lU (fun i x=>pr.tK i++pr.gC x) n l:=by
   intro l
   induction l with
   | nil=>intro n;rfl
   | cons x r ih=>intro n;simp only[bS,pr.lU];rw[ih]
  exact this l 0
 rw[eg] at hw ⊢
 rw[pr.mX (Sum.inl) l (fun i x=>pr.tK i++pr.gC x) 1000000000 hK hw]
 ·rfl
 ·intro i hi v hv
  simp only[cY]
  rw[aJ (by simp;omega),dZ (vs:=[]) (eW hi),cB,aY,wrap64 (by omega) (by omega)]
  have hm:=pr.gO (l:=l) hi
  by_cases h0:0<i
  ·have ec:pr.tK i=[[44]]:=by unfold pr.tK;rw[aJ h0]
   rw[ec] at hv ⊢
   simp only[aB,aC,aD] at hv
   rw[aJ (by simp;omega),put_eq _ _ _ (by simp only[aC,aD];omega)]
   simp only[aA,cD]
   rw[H _ hm _ (by simp only[aB,aC,aD];omega)]
   simp only[aA,cH,cD,aH]
   rfl
  ·have ec:pr.tK i=[]:=by unfold pr.tK;rw[aG h0]
   rw[ec] at hv ⊢
   simp only[aL] at hv
   rw[aG (by simp;omega),cD,H _ hm _ hv]
   simp only[aA,cH,cD,aH]
   rfl
 ·intro v
  simp only[cY]
  rw[aG (by simp)]
theorem aJG {n:Int} (h:zZ n) (l:List Bytes) (hl:l.length≤1000):pr.named (IntKind.i64.wrap (n+1)) l=pr.named (n+1) l:=by
 obtain ⟨h1,h2⟩:=h
 by_cases hn:n=9223372036854775807
 ·subst hn
  have e:IntKind.i64.wrap (9223372036854775807+1) = -9223372036854775808:=by kernel_rfl
  rw[e]
  unfold pr.named
  rw[aJ (by omega),aJ (by omega)]
 ·rw[wrap64 (by omega) (by omega)]
theorem aFN:∀ (n K:Nat) (e:dM) (w:List Bytes),pr.sz e≤n→4 * n+40≤K→n≤100000000→pr.okE e→w.length+(pr.gC e).length≤1000000000→b5 (F18 K (⟨w⟩:dA) e)=some ⟨w++pr.gC e⟩
 | 0,K,e,w,hn,hK,hb,ho,hw=>by have:=pr.oB e;omega
 | n+1,K,e,w,hn,hK,hb,ho,hw=>by
   have hs:=pr.oB e
   rw[pr.l6] at ho
   rw[pr.oL] at hw ⊢
   obtain ⟨k,nn,nm,wh,ag⟩:=e
   dsimp only at hs ho hw ⊢
   obtain ⟨ho1,ho4⟩:=ho
   have hl:=pr.aFJ ag
   obtain ⟨K,rfl⟩:∃ j,K=j+4:=⟨K - 4,by omega⟩
   have H:∀ K',4 * n+40≤K'→HE K' ag:=fun K' hK' x hx w hw=>aFN n K' x w (by have:=pr.zO ag x hx;omega) hK' (by omega) (pr.aFH ag ho4 x hx) hw
   have hA0:∀ w:List Bytes,w.length+(pr.tA (pr.lI ag) 0).length≤1000000000→b5 (F44 (K+3) (⟨w⟩:dA) ag 0)=some ⟨w++pr.tA (pr.lI ag) 0⟩:=fun w hw=>aBn (K+2) w ag (H _ (by omega)) 0 hw
   have hO0:∀ w:List Bytes,w.length+(pr.pT (pr.lI ag) 0).length≤1000000000→b5 (F46 (K+3) (⟨w⟩:dA) ag 0)=some ⟨w++pr.pT (pr.lI ag) 0⟩:=fun w hw=>aO0 (K+1) w ag (H _ (by omega)) 0 hw
   have hO1:∀ w:List Bytes,w.length+(pr.pT (pr.lI ag) 1).length≤1000000000→b5 (F46 (K+3) (⟨w⟩:dA) ag 1)=some ⟨w++pr.pT (pr.lI ag) 1⟩:=fun w hw=>aO0 (K+1) w ag (H _ (by omega)) 1 hw
   have hL:∀ w:List Bytes,w.length+(pr.zJ (pr.lI ag)).length≤1000000000→b5 (F47 (K+3) (⟨w⟩:dA) ag)=some ⟨w++pr.zJ (pr.lI ag)⟩:=fun w hw=>aBV (K+2) w ag (H _ (by omega)) (by omega) (by omega) hw
   have hag:(ag.map fun x=>(x.b9,pr.gC x))=pr.lI ag:=rfl
   rw[hag] at hw ⊢
   rw[F18]
   dsimp only
   have hnw:=aJG ho1 [nm,[84,72,73,83],[83,85,80,69,82]] (by simp)
   clear H hag hs hl ho4
   by_cases h1:k=1
   ·subst h1
    have hl:=aOU nn
    simp only[pr.iB,↓reduceIte] at hw
    simp (disch:=(first | assumption | ((try simp only[aB,aC,aD]);omega))) only[pr.iB,↓reduceIte,Int.reduceBEq,Int.reduceEq,dW,put_eq,aA,cD,cS,cH,cC,cG,eE,dS,cY,cE,cB,fW,aH,aM,aL,aB,aC,aD]
   by_cases h2:k=2
   ·subst h2
    simp only[pr.iB,↓reduceIte,Int.reduceEq,aB,aC,aD] at hw
    simp (disch:=(first | assumption | ((try simp only[aB,aC,aD]);omega))) only[pr.iB,↓reduceIte,Int.reduceBEq,Int.reduceEq,Int.reduceSub,Int.reduceAdd,aE,hnw,pr.ops,hA0,hO0,hO1,hL,put_eq,aA,cD,cS,cH,cC,cG,eE,dS,cY,cE,cB,fW,aH,aM,aL,aB,aC,aD]
   by_cases h3:k=3
   ·subst h3
    simp only[pr.iB,↓reduceIte,Int.reduceEq,aB,aC,aD] at hw
    simp (disch:=(first | assumption | ((try simp only[aB,aC,aD]);omega))) only[pr.iB,↓reduceIte,Int.reduceBEq,Int.reduceEq,Int.reduceSub,Int.reduceAdd,aE,hnw,pr.ops,hA0,hO0,hO1,hL,put_eq,aA,cD,cS,cH,cC,cG,eE,dS,cY,cE,cB,fW,aH,aM,aL,aB,aC,aD]
   by_cases h4:k=4
   ·subst h4
    simp only[pr.iB,↓reduceIte,Int.reduceEq,aB,aC,aD] at hw
    simp (disch:=(first | assumption | ((try simp only[aB,aC,aD]);omega))) only[pr.iB,↓reduceIte,Int.reduceBEq,Int.reduceEq,Int.reduceSub,Int.reduceAdd,aE,hnw,pr.ops,hA0,hO0,hO1,hL,put_eq,aA,cD,cS,cH,cC,cG,eE,dS,cY,cE,cB,fW,aH,aM,aL,aB,aC,aD]
   by_cases h5:k=5
   ·subst h5
    simp only[pr.iB,↓reduceIte,Int.reduceEq,aB,aC,aD] at hw
    simp (disch:=(first | assumption | ((try simp only[aB,aC,aD]);omega))) only[pr.iB,↓reduceIte,Int.reduceBEq,Int.reduceEq,Int.reduceSub,Int.reduceAdd,aE,hnw,pr.ops,hA0,hO0,hO1,hL,put_eq,aA,cD,cS,cH,cC,cG,eE,dS,cY,cE,cB,fW,aH,aM,aL,aB,aC,aD]
   by_cases h6:k=6
   ·subst h6
    simp only[pr.iB,↓reduceIte,Int.reduceEq,aB,aC,aD] at hw
    simp (disch:=(first | assumption | ((try simp only[aB,aC,aD]);omega))) only[pr.iB,↓reduceIte,Int.reduceBEq,Int.reduceEq,Int.reduceSub,Int.reduceAdd,aE,hnw,pr.ops,hA0,hO0,hO1,hL,put_eq,aA,cD,cS,cH,cC,cG,eE,dS,cY,cE,cB,fW,aH,aM,aL,aB,aC,aD]
   by_cases h7:k=7
   ·subst h7
    simp only[pr.iB,↓reduceIte,Int.reduceEq,aB,aC,aD] at hw
    simp (disch:=(first | assumption | ((try simp only[aB,aC,aD]);omega))) only[pr.iB,↓reduceIte,Int.reduceBEq,Int.reduceEq,Int.reduceSub,Int.reduceAdd,aE,hnw,pr.ops,hA0,hO0,hO1,hL,put_eq,aA,cD,cS,cH,cC,cG,eE,dS,cY,cE,cB,fW,aH,aM,aL,aB,aC,aD]
    rfl
   by_cases h8:k=8
   ·subst h8
    simp only[pr.iB,↓reduceIte,Int.reduceEq,aB,aC,aD] at hw
    simp (disch:=(first | assumption | ((try simp only[aB,aC,aD]);omega))) only[pr.iB,↓reduceIte,Int.reduceBEq,Int.reduceEq,Int.reduceSub,Int.reduceAdd,aE,hnw,pr.ops,hA0,hO0,hO1,hL,put_eq,aA,cD,cS,cH,cC,cG,eE,dS,cY,cE,cB,fW,aH,aM,aL,aB,aC,aD]
    rfl
   by_cases h9:k=9
   ·subst h9
    simp only[pr.iB,↓reduceIte,Int.reduceEq,aB,aC,aD] at hw
    simp (disch:=(first | assumption | ((try simp only[aB,aC,aD]);omega))) only[pr.iB,↓reduceIte,Int.reduceBEq,Int.reduceEq,Int.reduceSub,Int.reduceAdd,aE,hnw,pr.ops,hA0,hO0,hO1,hL,put_eq,aA,cD,cS,cH,cC,cG,eE,dS,cY,cE,cB,fW,aH,aM,aL,aB,aC,aD]
   by_cases h10:k=10
   ·subst h10
    simp only[pr.iB,↓reduceIte,Int.reduceEq,aB,aC,aD] at hw
    simp (disch:=(first | assumption | ((try simp only[aB,aC,aD]);omega))) only[pr.iB,↓reduceIte,Int.reduceBEq,Int.reduceEq,Int.reduceSub,Int.reduceAdd,aE,hnw,pr.ops,hA0,hO0,hO1,hL,put_eq,aA,cD,cS,cH,cC,cG,eE,dS,cY,cE,cB,fW,aH,aM,aL,aB,aC,aD]
    rfl
   by_cases h11:k=11
   ·subst h11
    simp only[pr.iB,↓reduceIte,Int.reduceEq,aB,aC,aD] at hw
    simp (disch:=(first | assumption | ((try simp only[aB,aC,aD]);omega))) only[pr.iB,↓reduceIte,Int.reduceBEq,Int.reduceEq,Int.reduceSub,Int.reduceAdd,aE,hnw,pr.ops,hA0,hO0,hO1,hL,put_eq,aA,cD,cS,cH,cC,cG,eE,dS,cY,cE,cB,fW,aH,aM,aL,aB,aC,aD]
    rfl
   by_cases h12:k=12
   ·subst h12
    simp only[pr.iB,↓reduceIte,Int.reduceEq,aB,aC,aD] at hw
    simp (disch:=(first | assumption | ((try simp only[aB,aC,aD]);omega))) only[pr.iB,↓reduceIte,Int.reduceBEq,Int.reduceEq,Int.reduceSub,Int.reduceAdd,aE,hnw,pr.ops,hA0,hO0,hO1,hL,put_eq,aA,cD,cS,cH,cC,cG,eE,dS,cY,cE,cB,fW,aH,aM,aL,aB,aC,aD]
    rfl
   by_cases h13:k=13
   ·subst h13
    simp only[pr.iB,↓reduceIte,Int.reduceEq,aB,aC,aD] at hw
    simp (disch:=(first | assumption | ((try simp only[aB,aC,aD]);omega))) only[pr.iB,↓reduceIte,Int.reduceBEq,Int.reduceEq,Int.reduceSub,Int.reduceAdd,aE,hnw,pr.ops,hA0,hO0,hO1,hL,put_eq,aA,cD,cS,cH,cC,cG,eE,dS,cY,cE,cB,fW,aH,aM,aL,aB,aC,aD]
   by_cases h14:k=14
   ·subst h14
    simp only[pr.iB,↓reduceIte,Int.reduceEq,aB,aC,aD] at hw
    simp (disch:=(first | assumption | ((try simp only[aB,aC,aD]);omega))) only[pr.iB,↓reduceIte,Int.reduceBEq,Int.reduceEq,Int.reduceSub,Int.reduceAdd,aE,hnw,pr.ops,hA0,hO0,hO1,hL,put_eq,aA,cD,cS,cH,cC,cG,eE,dS,cY,cE,cB,fW,aH,aM,aL,aB,aC,aD]
   simp only[pr.iB,h1,h2,h3,h4,h5,h6,h7,h8,h9,h10,h11,h12,h13,h14,↓reduceIte,aC,aD] at hw
   simp (disch:=(first | assumption | ((try simp only[aB,aC,aD]);omega))) only[pr.iB,h1,h2,h3,h4,h5,h6,h7,h8,h9,h10,h11,h12,h13,h14,beq_iff_eq,↓reduceIte,aE,put_eq,aA,cD,cS,cH,cC,cG,eE,dS,cY,cE,cB,fW,aH,aM,aL,aB,aC,aD]
end Go.Proofs.YtidjangjfekfjaaGreatDoor

namespace Go.Proofs.YtidjangjfekfjaaGreatDoor
open Go Go.Proofs Go.Dl
set_option maxRecDepth 100000
theorem aAa (K:Nat) (w:List Bytes) (b:Bool) (x:Bytes) (hw:w.length+(pr.flag b x).length≤1000000000):b5 (F85 K (⟨w⟩:dA) b x)=some ⟨w++pr.flag b x⟩:=by
 unfold F85
 cases b with
 | true =>
   simp only[pr.flag,↓reduceIte,aC,aD] at hw
   simp (disch:=(first | assumption | ((try simp only[aB,aC,aD]);omega))) only[pr.flag,↓reduceIte,put_eq,aA,cD,cS,cH,cC,cG,eE,dS,cY,cE,dQ,cB,aH,aM,aL,aO,aB,aC,aD]
 | false=>simp [pr.flag,put_eq,aA,cD,cS,cH,cC,cG,eE,dS,cY,cE,dQ,cB,aH,aM,aL,aO,aB,aC,aD]
theorem aFP (K:Nat) (w:List Bytes) (l:List fO) (hok:∀ v∈l,pr.okV v) (hK:l.length<K) (hl:l.length≤1000000000) (hw:w.length+(pr.nE l).length≤1000000000):b5 (F57 K (⟨w⟩:dA) l)=some ⟨w++pr.nE l⟩:=by
 unfold F57
 dsimp only
 rw[pr.mX Sum.inl l (fun _ v=>pr.sX v) 1000000000 hK hw]
 ·rfl
 ·intro i hi v hv
  have hm:=pr.gO (l:=l) hi
  have h1:=pr.rR hi
  have h2:=eW hi
  have h3:=pr.kV (i:=i) (by omega)
  have n1:pr.named 1 [[73,78],[79,85,84]]=[73,78]:=rfl
  have n2:pr.named 2 [[73,78],[79,85,84]]=[79,85,84]:=rfl
  simp only[h1,h2,h3,cY,dQ,cB,↓reduceIte,aY] at hv ⊢
  generalize l.getD i default=x at hm hv ⊢
  obtain ⟨⟨k1,k2⟩,k3,k4⟩:=hok x hm
  obtain ⟨nm,ty,init,dir,slot⟩:=x
  dsimp only at k1 k2 k3 k4 hv ⊢
  by_cases c1:init=0 <;> by_cases c2:dir=1 <;> by_cases c3:dir=2
  ·omega
  ·subst c1;subst c2;simp only[pr.sX,Int.reduceEq,↓reduceIte,aB,aC,aD] at hv
   simp (disch:=(first | assumption | ((try simp only[aB,aC,aD]);omega))) only[pr.sX,n1,n2,fW,rS,dW,bne_self_eq_false,bne_iff_ne,ne_eq,not_false_eq_true,bK,Bool.or_self,Bool.true_or,Bool.or_true,Bool.or_false,bT,aE,beq_iff_eq,or_self,or_true,true_or,false_or,or_false,c3,Int.reduceEq,Int.reduceBEq,↓reduceIte,put_eq,aA,cD,cS,cH,cC,cG,eE,dS,cY,cE,dQ,cB,aH,aM,aL,aO,aB,aC,aD]
  ·subst c1;subst c3;simp only[pr.sX,Int.reduceEq,↓reduceIte,aB,aC,aD] at hv
   simp (disch:=(first | assumption | ((try simp only[aB,aC,aD]);omega))) only[pr.sX,n1,n2,fW,rS,dW,bne_self_eq_false,bne_iff_ne,ne_eq,not_false_eq_true,bK,Bool.or_self,Bool.true_or,Bool.or_true,Bool.or_false,bT,aE,beq_iff_eq,or_self,or_true,true_or,false_or,or_false,c2,Int.reduceEq,Int.reduceBEq,↓reduceIte,put_eq,aA,cD,cS,cH,cC,cG,eE,dS,cY,cE,dQ,cB,aH,aM,aL,aO,aB,aC,aD]
  ·subst c1;simp only[pr.sX,c2,c3,Int.reduceEq,↓reduceIte,aB,aC,aD] at hv
   simp (disch:=(first | assumption | ((try simp only[aB,aC,aD]);omega))) only[pr.sX,n1,n2,fW,rS,dW,bne_self_eq_false,bne_iff_ne,ne_eq,not_false_eq_true,bK,Bool.or_self,Bool.true_or,Bool.or_true,Bool.or_false,bT,aE,beq_iff_eq,or_self,or_true,true_or,false_or,or_false,c2,c3,Int.reduceEq,Int.reduceBEq,↓reduceIte,put_eq,aA,cD,cS,cH,cC,cG,eE,dS,cY,cE,dQ,cB,aH,aM,aL,aO,aB,aC,aD]
  ·omega
  ·subst c2;simp only[pr.sX,c1,Int.reduceEq,↓reduceIte,aB,aC,aD] at hv
   simp (disch:=(first | assumption | ((try simp only[aB,aC,aD]);omega))) only[pr.sX,n1,n2,fW,rS,dW,bne_self_eq_false,bne_iff_ne,ne_eq,not_false_eq_true,bK,Bool.or_self,Bool.true_or,Bool.or_true,Bool.or_false,bT,aE,beq_iff_eq,or_self,or_true,true_or,false_or,or_false,c1,c3,Int.reduceEq,Int.reduceBEq,↓reduceIte,put_eq,aA,cD,cS,cH,cC,cG,eE,dS,cY,cE,dQ,cB,aH,aM,aL,aO,aB,aC,aD]
  ·subst c3;simp only[pr.sX,c1,Int.reduceEq,↓reduceIte,aB,aC,aD] at hv
   simp (disch:=(first | assumption | ((try simp only[aB,aC,aD]);omega))) only[pr.sX,n1,n2,fW,rS,dW,bne_self_eq_false,bne_iff_ne,ne_eq,not_false_eq_true,bK,Bool.or_self,Bool.true_or,Bool.or_true,Bool.or_false,bT,aE,beq_iff_eq,or_self,or_true,true_or,false_or,or_false,c1,c2,Int.reduceEq,Int.reduceBEq,↓reduceIte,put_eq,aA,cD,cS,cH,cC,cG,eE,dS,cY,cE,dQ,cB,aH,aM,aL,aO,aB,aC,aD]
  ·simp only[pr.sX,c1,c2,c3,Int.reduceEq,↓reduceIte,aB,aC,aD] at hv
   simp (disch:=(first | assumption | ((try simp only[aB,aC,aD]);omega))) only[pr.sX,n1,n2,fW,rS,dW,bne_self_eq_false,bne_iff_ne,ne_eq,not_false_eq_true,bK,Bool.or_self,Bool.true_or,Bool.or_true,Bool.or_false,bT,aE,beq_iff_eq,or_self,or_true,true_or,false_or,or_false,c1,c2,c3,Int.reduceEq,Int.reduceBEq,↓reduceIte,put_eq,aA,cD,cS,cH,cC,cG,eE,dS,cY,cE,dQ,cB,aH,aM,aL,aO,aB,aC,aD]
 ·intro v
  simp only[pr.pH,cY,aE,↓reduceIte]
theorem head_eq (K:Nat) (w:List Bytes) (m:jT) (hok:pr.okM m) (hl:m.dH.length≤1000000000) (hK:m.dH.length<K) (hw:w.length+(pr.p6 m).length≤1000000000):b5 (F84 K (⟨w⟩:dA) m)=some ⟨w++pr.p6 m⟩:=by
 obtain ⟨o1,⟨o2,o3⟩,o4,o5⟩:=hok
 obtain ⟨nm,ov,ab,fi,ps,res,vs,bd⟩:=m
 dsimp only at o1 o2 o3 hl hK hw ⊢
 unfold F84
 dsimp only
 simp only[pr.p6,aB,aC,aD] at hw
 rw[put_eq _ _ _ (by simp only[aC,aD];omega)]
 simp only[aA]
 have hT:(w++[nm,[40]]).length+(pr.uR ps).length≤1000000000:=by simp only[aB,aC,aD];omega
 rw[pr.mX Sum.inl ps (fun i v=>pr.tK i++[v.cA,[58]]++pr.rY v.jN) 1000000000 hK hT]
 rotate_left
 ·intro i hi v hv
  have hm:=pr.gO (l:=ps) hi
  have h1:=pr.rR hi
  have h2:=eW hi
  have h3:=pr.kV (i:=i) (by omega)
  simp only[h1,h2,h3,cY,dQ,cB,↓reduceIte,aY] at hv ⊢
  generalize ps.getD i default=x at hm hv ⊢
  obtain ⟨⟨k1,k2⟩,k3,k4⟩:=o1 x hm
  by_cases h0:0<i
  ·have ec:pr.tK i=[[44]]:=by unfold pr.tK;rw[aJ h0]
   have h5:decide ((i:Int) > 0)=true:=by simp;omega
   simp only[ec,aB,aC,aD] at hv
   simp (disch:=(first | assumption | ((try simp only[aB,aC,aD]);omega))) only[ec,h5,↓reduceIte,rS,put_eq,aA,cD,cS,cH,cC,cG,eE,dS,cY,cE,dQ,cB,aH,aM,aL,aO,aB,aC,aD]
  ·have ec:pr.tK i=[]:=by unfold pr.tK;rw[aG h0]
   have h5:decide ((i:Int) > 0)=false:=by simp;omega
   simp only[ec,aB,aC,aD] at hv
   simp (disch:=(first | assumption | ((try simp only[aB,aC,aD]);omega))) only[ec,h5,aE,↓reduceIte,rS,put_eq,aA,cD,cS,cH,cC,cG,eE,dS,cY,cE,dQ,cB,aH,aM,aL,aO,aB,aC,aD]
 ·intro v
  simp only[pr.pH,cY,aE,↓reduceIte]
 change b5 (cO (cN (Option.map Sum.inl (some (Sum.inl ((w++[nm,[40]])++pr.uR ps))))) _)=_
 by_cases c:res.b9=0
 ·have cb:(res.b9 != 0)=false:=by simp [c]
  simp only[c,↓reduceIte,aD] at hw
  simp (disch:=(first | assumption | ((try simp only[aB,aC,aD]);omega))) only[pr.p6,c,bne_self_eq_false,aE,aQ,↓reduceIte,put_eq,aA,cD,cS,cH,cC,cG,eE,dS,cY,cE,dQ,cB,aH,aM,aL,aO,aB,aC,aD]
 ·have cb:(res.b9 != 0)=true:=by simp [c]
  simp only[c,↓reduceIte,aB,aC,aD] at hw
  simp (disch:=(first | assumption | ((try simp only[aB,aC,aD]);omega))) only[pr.p6,c,cb,aE,aQ,rS,↓reduceIte,put_eq,aA,cD,cS,cH,cC,cG,eE,dS,cY,cE,dQ,cB,aH,aM,aL,aO,aB,aC,aD]
end Go.Proofs.YtidjangjfekfjaaGreatDoor

namespace Go.Proofs.YtidjangjfekfjaaGreatDoor
open Go Go.Proofs Go.Dl
set_option maxRecDepth 100000
open pr (B J)
theorem aXc {t:List Bytes} (h:t≠[]):J t++[32]=B t:=pr.aOP t h
theorem aGZ {t:List Bytes} (h:t≠[]):(J t).length+1=(B t).length:=by
 rw[← aXc h];simp
theorem aKO (t:List Bytes):t.length≤(B t).length:=by
 induction t with
 | nil=>simp
 | cons x r ih=>rw[pr.kM];simp;omega
theorem aQ6 (n:Int):gT n≠[]:=by unfold gT;split <;> simp
theorem aUm (t:kI):pr.rY t≠[]:=by 
 unfold pr.rY
 repeat' split
 all_goals simp
theorem aQ7 {l:List (Int × List Bytes)} (h:∀ p∈l,p.2≠[]) (i:Nat):pr.pT l i≠[]:=by
 unfold pr.pT
 cases e:l[i]? with
 | none=>simp
 | some p =>
   have:=h p (List.mem_of_getElem? e)
   dsimp only
   split <;> simp [this]
theorem aOX {X:Type} {c:Prop} [Decidable c] {a b:List X} (ha:a≠[]) (hb:b≠[]):(if c then a else b)≠[]:=by by_cases h:c <;> simp [h,ha,hb]
theorem aO1 (k n:Int) (nm wh:Bytes) (l:List (Int × List Bytes)) (h:∀ p∈l,p.2≠[]):pr.iB k n nm wh l≠[]:=by
 have h1:=aQ6 n
 have h2:=aQ7 h 0
 unfold pr.iB
 repeat' refine aOX ?_ ?_
 all_goals first | exact h1 | (intro hc;simp at hc)
theorem aO2:∀ (n:Nat) (e:dM),pr.sz e≤n→pr.gC e≠[]
 | 0,e,h=>by have:=pr.oB e;omega
 | n+1,e,h=>by
   have:=pr.oB e
   rw[pr.oL]
   refine aO1 _ _ _ _ _ ?_
   intro p hp
   obtain ⟨x,hx,rfl⟩:=List.mem_map.1 hp
   exact aO2 n x (by have:=pr.zO _ x hx;omega)
theorem aKP (e:dM):pr.gC e≠[]:=aO2 _ e (aR _)
end Go.Proofs.YtidjangjfekfjaaGreatDoor

namespace Go.Proofs.YtidjangjfekfjaaGreatDoor
open Go Go.Proofs Go.Dl
set_option maxRecDepth 100000
open pr (B J)
theorem aFM (K:Nat) (t:List Bytes) (h:t≠[]) (hw:(B t).length≤1000000000):b5 (F19 K (⟨t⟩:dA))=some (J t,⟨t⟩):=by
 have h1:=aGZ h
 have h2:=aKO t
 unfold F19 F48
 rw[aJ (show (Lib.join t [32]).length≤140737488355328∧t.length≤140737488355328 from ⟨by change (J t).length≤_;omega,by omega⟩)]
 rfl
end Go.Proofs.YtidjangjfekfjaaGreatDoor

namespace Go.Proofs.YtidjangjfekfjaaGreatDoor
open Go Go.Proofs Go.Dl
set_option maxRecDepth 100000
theorem aHL {X:Type} (f:X→List Bytes):∀ (l:List X) (n:Nat),pr.lU (fun _ x=>f x) n l=(l.map f).flatten
 | [],_=>rfl
 | x::r,n=>by
   simp only[pr.lU,bS,List.flatten_cons]
   rw[aHL f r (n+1)]
def HS (K:Nat) (l:List cU):Prop:=∀ x∈l,∀ w:List Bytes,w.length+(pr.oG x).length≤1000000000→b5 (F86 K (⟨w⟩:dA) x)=some ⟨w++pr.oG x⟩
theorem aJH (K:Nat) (w:List Bytes) (l:List cU) (H:HS K l) (hK:l.length<K) (hl:l.length≤1000000000) (hw:w.length+(pr.iK l).length≤1000000000):b5 (F58 (K+1) (⟨w⟩:dA) l)=some ⟨w++pr.iK l⟩:=by
 unfold pr.iK at hw ⊢
 rw[← aHL pr.oG l 0] at hw ⊢
 rw[F58]
 dsimp only
 rw[pr.mX Sum.inl l (fun _ v=>pr.oG v) 1000000000 hK hw]
 ·rfl
 ·intro i hi v hv
  have hm:=pr.gO (l:=l) hi
  have h1:=pr.rR hi
  have h2:=eW hi
  have h3:=pr.kV (i:=i) (by omega)
  have h4:=H _ hm v hv
  simp only[h1,h2,h3,h4,↓reduceIte,aY,put_eq,aA,cD,cS,cH,cC,cG,eE,dS,cY,cE,dQ,cB,aH,aM,aL,aO,aB,aC,aD]
 ·intro v
  simp only[pr.pH,cY,aE,↓reduceIte]
theorem aO3 {bl:List (List cU)} {i:Nat} (h:bl.length≤i):pr.qJ (pr.qK bl) i=[]:=by
 have:(pr.qK bl)[i]? = none:=by rw[aZ];simpa [pr.qK] using h
 unfold pr.qJ
 rw[List.getD,this];rfl
theorem aKR {bl:List (List cU)} {i:Nat} (h:i<bl.length):(pr.qK bl).getD i []=(bl.getD i default).map pr.oG:=by
 rw[pr.aBS h]
 unfold pr.qK
 rw[List.getD,bD,aN h];rfl
theorem aO4 {bl:List (List cU)} {i:Nat} (h:i<bl.length):pr.qJ (pr.qK bl) i=pr.iK (bl.getD i default):=by
 unfold pr.qJ pr.iK
 rw[aKR h]
theorem aJI (K:Nat) (w:List Bytes) (bl:List (List cU)) (H:∀ b∈bl,HS K b∧b.length<K∧b.length≤1000000000) (i:Nat) (hw:w.length+(pr.qJ (pr.qK bl) i).length≤1000000000):b5 (aD3 (K+2) (⟨w⟩:dA) bl (i:Int))=some ⟨w++pr.qJ (pr.qK bl) i⟩:=by
 rw[aD3]
 simp only[cY]
 by_cases h:i<bl.length
 ·obtain ⟨a1,a2,a3⟩:=H _ (pr.gO h)
  rw[aO4 h] at hw ⊢
  rw[aJ (by simp;omega),dZ (vs:=[]) (eW h),cB,aY,aJH K w _ a1 a2 a3 hw];rfl
 ·rw[aO3 (by omega)] at hw ⊢
  rw[aG (by simp;omega),aO];rfl
theorem else_eq (K:Nat) (w:List Bytes) (bl:List (List cU)) (e:Bytes) (H:∀ b∈bl,HS K b∧b.length<K∧b.length≤1000000000) (i:Nat) (hw:w.length+(pr.z6 (pr.qK bl) i++[e]).length≤1000000000):b5 (aJq (K+2) (⟨w⟩:dA) bl (i:Int) e)=some ⟨w++(pr.z6 (pr.qK bl) i++[e])⟩:=by
 rw[aJq]
 simp only[cY]
 by_cases h:i<bl.length
 ·obtain ⟨a1,a2,a3⟩:=H _ (pr.gO h)
  have h1:=pr.rR h
  have h2:=eW h
  have h0:=aKR h
  unfold pr.z6 at hw ⊢
  rw[h0] at hw ⊢
  rw[aY]
  generalize bl.getD i default=b at hw a1 a2 a3 ⊢
  simp only[h1,h2,bN,bT,bM] at hw ⊢
  cases b with
  | nil =>
    simp only[List.map_nil,pr.aHF,aD,aL,aC] at hw
    simp (disch:=(first | assumption | ((try simp only[aB,aC,aD]);omega))) [pr.aHF,put_eq,aA,cD,cS,cH,cC,cG,eE,dS,cY,cE,dQ,cB,aH,aM,aL,aO,aB,aC,aD]
  | cons x r =>
    have hs:=aJH K
    unfold pr.iK at hs
    simp only[bS,pr.aHF,aD,aB,aC] at hw hs
    have h3:decide (Int.ofNat (x::r).length > 0)=true:=by simp
    simp only[h3,↓reduceIte,bS,pr.aHF]
    rw[put_eq _ _ _ (by simp only[aD,aC];omega)]
    simp only[aA,dQ,cB]
    have h5:=hs (w++[[69,76,83,69]]) (x::r) a1 a2 a3 (by simp only[bS,aB,aD,aC];omega)
    simp only[bS] at h5
    rw[h5]
    simp only[aA,cD]
    rw[put_eq _ _ _ (by simp only[aB,aD,aC];omega)]
    simp only[put_eq,aA,cD,cS,cH,cC,cG,eE,dS,cY,cE,dQ,cB,aH,aM,aL,aO,aB,aC,aD]
 ·have h1:decide ((i:Int)<Int.ofNat bl.length)=false:=by simp;omega
  have h0:pr.z6 (pr.qK bl) i=[]:=by
   unfold pr.z6
   have:(pr.qK bl)[i]? = none:=by rw[aZ];simp only[pr.qK,List.length_map];omega
   rw[List.getD,this];rfl
  rw[h0] at hw ⊢
  simp only[aL,aC,aD] at hw
  simp (disch:=(first | assumption | ((try simp only[aB,aC,aD]);omega))) only[h1,bA,Bool.true_or,Bool.false_and,aE,↓reduceIte,put_eq,aA,cD,cS,cH,cC,cG,eE,dS,cY,cE,dQ,cB,aH,aM,aL,aO,aB,aC,aD]
theorem aUn (K:Nat) (w:List Bytes) (l:List Int) (hok:∀ n∈l,zZ n) (hK:l.length<K) (hl:l.length≤1000000000) (hw:w.length+(pr.uQ l).length≤1000000000) {A:Type} {f:List Bytes × Int→Option ((List Bytes ⊕ A) ⊕ (List Bytes × Int))}
 (hf:∀ (i:Nat),i<l.length→∀ v:List Bytes,v.length+(pr.tK i++gT (l.getD i default)).length≤1000000000→f (v,(i:Int))=some (.inr (v++(pr.tK i++gT (l.getD i default)),((i+1:Nat):Int)))) (hs:∀ v,f (v,(l.length:Int))=some (.inl (.inl v))) :
 iter K f (w,0)=some (Sum.inl (w++pr.uQ l)):=pr.mX Sum.inl l (fun i n=>pr.tK i++gT n) 1000000000 hK hw hf hs
theorem aQ8 (K:Nat) (w:List Bytes) (s:cU) (hE:HE (K+1) s.eD) (H:∀ b∈s.dL,HS K b∧b.length<K∧b.length≤1000000000) (aXd:pr.z8 s.dF) (hL:s.dF.length<K∧s.dF.length≤1000000000) (hLl:∀ x∈s.dF,x.length<K∧x.length≤1000000000) (hw:w.length+(pr.z7 (pr.lI s.eD) s.dF (pr.qK s.dL)).length≤1000000000):b5 (aJi (K+3) (⟨w⟩:dA) s)=some ⟨w++pr.z7 (pr.lI s.eD) s.dF (pr.qK s.dL)⟩:=by
 obtain ⟨k,n,nm,ex,lb,bl⟩:=s
 dsimp only at hE H aXd hL hLl hw ⊢
 have hA0:∀ w:List Bytes,w.length+(pr.tA (pr.lI ex) 0).length≤1000000000→b5 (F44 (K+2) (⟨w⟩:dA) ex 0)=some ⟨w++pr.tA (pr.lI ex) 0⟩:=fun w hw=>aBn (K+1) w ex hE 0 hw
 rw[aJi]
 dsimp only
 unfold pr.z7 at hw ⊢
 simp only[aB,aC,aD] at hw
 rw[put_eq _ _ _ (by simp only[aC,aD];omega),aA,hA0 _ (by simp only[aB,aC,aD];omega),aA,put_eq _ _ _ (by simp only[aB,aC,aD];omega),aA]
 have hT:(w++[[67,65,83,69]]++pr.tA (pr.lI ex) 0++[[79,70]]).length+(pr.lU (fun i l=>pr.uQ l++[[58]]++pr.qJ (pr.qK bl) i) 0 lb).length≤1000000000:=by simp only[aB,aC,aD];omega
 dsimp only
 rw[pr.mX Sum.inl lb (fun i l=>pr.uQ l++[[58]]++pr.qJ (pr.qK bl) i) 1000000000 (by omega) hT]
 rotate_left
 ·intro i hi v hv
  have hm:=pr.gO (l:=lb) hi
  have h1:=pr.rR hi
  have h2:=eW hi
  have h3:=pr.kV (i:=i) (by omega)
  simp only[aB,aC,aD] at hv
  obtain ⟨l1,l2⟩:=hLl _ hm
  have hok:=aXd _ hm
  dsimp only
  rw[aY]
  generalize lb.getD i default=x at hm hv l1 l2 hok ⊢
  simp only[h1,h2,h3,cY,dQ,cB,↓reduceIte] at hv ⊢
  rw[aUn (K+2) v x hok (by omega) l2 (by omega)]
  rotate_left
  ·intro j hj v hv
   have hm:=pr.gO (l:=x) hj
   have h1:=pr.rR hj
   have h2:=eW hj
   have h3:=pr.kV (i:=j) (by omega)
   have hn:=hok _ hm
   simp only[h1,h2,h3,cY,dQ,cB,↓reduceIte,aY] at hv ⊢
   by_cases h0:0<j
   ·have ec:pr.tK j=[[44]]:=by unfold pr.tK;rw[aJ h0]
    have h5:decide ((j:Int) > 0)=true:=by simp;omega
    simp only[ec,aB,aC,aD] at hv
    simp (disch:=(first | assumption | ((try simp only[aB,aC,aD]);omega))) only[ec,h5,↓reduceIte,dW,put_eq,aA,cD,cS,cH,cC,cG,eE,dS,cY,cE,dQ,cB,aH,aM,aL,aO,aB,aC,aD]
   ·have ec:pr.tK j=[]:=by unfold pr.tK;rw[aG h0]
    have h5:decide ((j:Int) > 0)=false:=by simp;omega
    simp only[ec,aB,aC,aD] at hv
    simp (disch:=(first | assumption | ((try simp only[aB,aC,aD]);omega))) only[ec,h5,aE,↓reduceIte,dW,put_eq,aA,cD,cS,cH,cC,cG,eE,dS,cY,cE,dQ,cB,aH,aM,aL,aO,aB,aC,aD]
  ·intro v
   simp only[pr.pH,cY,aE,↓reduceIte]
  simp only[aQ,cC,cD]
  rw[put_eq _ _ _ (by simp only[aB,aC,aD];omega),aA,aJI K _ bl H i (by simp only[aB,aC,aD];omega)]
  simp only[put_eq,aA,cD,cS,cH,cC,cG,eE,dS,cY,cE,dQ,cB,aH,aM,aL,aO,aB,aC,aD]
 ·intro v
  simp only[pr.pH,cY,aE,↓reduceIte]
 simp only[aQ,cC,cD]
 rw[show (Int.ofNat lb.length)=((lb.length:Nat):Int) from rfl,else_eq K _ bl _ H lb.length (by simp only[aB,aC,aD];omega)]
 simp only[put_eq,aA,cD,cS,cH,cC,cG,eE,dS,cY,cE,dQ,cB,aH,aM,aL,aO,aB,aC,aD]
theorem aMc (K:Nat) (w:List Bytes) (s:cU) (hE:HE (K+1) s.eD) (H:∀ b∈s.dL,HS K b∧b.length<K∧b.length≤1000000000) (hL:s.eD.length<K∧s.eD.length≤1000000000) (hw:w.length+(pr.ifT (pr.lI s.eD) (pr.qK s.dL)).length≤1000000000):b5 (aJh (K+3) (⟨w⟩:dA) s)=some ⟨w++pr.ifT (pr.lI s.eD) (pr.qK s.dL)⟩:=by
 obtain ⟨k,n,nm,ex,lb,bl⟩:=s
 dsimp only at hE H hL hw ⊢
 rw[aJh]
 dsimp only
 unfold pr.ifT at hw ⊢
 have em:(if 1 > (Int.ofNat ex.length) then (1:Int) else (Int.ofNat ex.length))=((max ex.length 1:Nat):Int):=by
  by_cases h:1 > Int.ofNat ex.length
  ·rw[aJ h];have h':(ex.length:Int)<1:=h;omega
  ·rw[aG h];have h':¬ (ex.length:Int)<1:=h;show (ex.length:Int)=_;omega
 rw[em]
 simp only[cY]
 rw[aBU] at hw ⊢
 generalize hm:max ex.length 1=m at hw ⊢
 simp only[aB,aC,aD] at hw
 have hT:w.length+(pr.lU (fun i (_:Nat)=>[pr.ifW i]++pr.tA (pr.lI ex) i++[[84,72,69,78]]++pr.qJ (pr.qK bl) i) 0 (List.range m)).length≤1000000000:=by omega
 have hk:(List.range m).length<K+2:=by rw[List.length_range];omega
 rw[pr.aL5 pr.ifW (b0:=[73,70]) rfl Sum.inl (List.range m) (fun i (_:Nat)=>[pr.ifW i]++pr.tA (pr.lI ex) i++[[84,72,69,78]]++pr.qJ (pr.qK bl) i) 1000000000 hk hT]
 rotate_left
 ·intro i hi v hv
  rw[List.length_range] at hi
  have h1:decide ((i:Int)<(m:Int))=true:=by simp;omega
  have h3:=pr.kV (i:=i) (by omega)
  simp only[aB,aC,aD] at hv
  simp only[h1,h3,↓reduceIte]
  rw[put_eq _ _ _ (by simp only[aC,aD];omega),aA]
  dsimp only
  rw[aBn (K+1) _ ex hE i (by simp only[aB,aC,aD];omega),aA,put_eq _ _ _ (by simp only[aB,aC,aD];omega),aA,aJI K _ bl H i (by simp only[aB,aC,aD];omega)]
  have hw:pr.ifW (i+1)=[69,76,83,73,70]:=by unfold pr.ifW;rw[aG (by omega)]
  simp only[hw,put_eq,aA,cD,cS,cH,cC,cG,eE,dS,cY,cE,dQ,cB,aH,aM,aL,aO,aB,aC,aD]
 ·intro v
  have h1:decide ((m:Int)<(m:Int))=false:=by simp
  simp only[List.length_range,h1,aE,↓reduceIte]
 simp only[aQ,cC,cD]
 rw[else_eq K _ bl _ H m (by simp only[aB,aC,aD];omega)]
 simp only[put_eq,aA,cD,cS,cH,cC,cG,eE,dS,cY,cE,dQ,cB,aH,aM,aL,aO,aB,aC,aD]
end Go.Proofs.YtidjangjfekfjaaGreatDoor

namespace Go.Proofs.YtidjangjfekfjaaGreatDoor
open Go Go.Proofs Go.Dl
set_option maxRecDepth 100000
theorem aKS:∀ (n K:Nat) (s:cU) (w:List Bytes),pr.szS s≤n→5 * n+60≤K→n≤100000000→pr.okS s→w.length+(pr.oG s).length≤1000000000→b5 (F86 K (⟨w⟩:dA) s)=some ⟨w++pr.oG s⟩
 | 0,K,e,w,hn,hK,hb,ho,hw=>by have:=pr.aFI e;omega
 | n+1,K,e,w,hn,hK,hb,ho,hw=>by
   have hs:=pr.aFI e
   rw[pr.aOS] at ho
   rw[pr.aOR] at hw ⊢
   obtain ⟨ho1,ho2,ho3,ho4⟩:=ho
   obtain ⟨K,rfl⟩:∃ j,K=j+6:=⟨K - 6,by omega⟩
   have hE:∀ K',4 * n+40≤K'→HE K' e.eD:=fun K' hK' x hx w hw=>aFN n K' x w (by have:=pr.zO _ x hx;omega) hK' (by omega) (pr.aFH _ ho2 x hx) hw
   have hB:∀ K',5 * n+60≤K'→∀ b∈e.dL,HS K' b∧b.length<K'∧b.length≤1000000000:=by
    intro K' hK' b hb
    have h1:=pr.aEB _ b hb
    have h2:=pr.aDb b
    exact ⟨fun x hx w hw=>aKS n K' x w (by have:=pr.aDa _ x hx;omega) hK' (by omega) (pr.aDc _ (pr.aEC _ ho4 b hb) x hx) hw,by omega,by omega⟩
   have hl1:=pr.aFJ e.eD
   have hl2:=pr.aL6 e.dF
   have hIf:∀ w:List Bytes,w.length+(pr.ifT (pr.lI e.eD) (pr.qK e.dL)).length≤1000000000→b5 (aJh (K+5) (⟨w⟩:dA) e)=some ⟨w++pr.ifT (pr.lI e.eD) (pr.qK e.dL)⟩:=fun w hw=>aMc (K+2) w e (hE _ (by omega)) (hB _ (by omega)) ⟨by omega,by omega⟩ hw
   have hCa:∀ w:List Bytes,w.length+(pr.z7 (pr.lI e.eD) e.dF (pr.qK e.dL)).length≤1000000000→b5 (aJi (K+5) (⟨w⟩:dA) e)=some ⟨w++pr.z7 (pr.lI e.eD) e.dF (pr.qK e.dL)⟩:=fun w hw=>aQ8 (K+2) w e (hE _ (by omega)) (hB _ (by omega)) ho3 ⟨by omega,by omega⟩ (fun x hx=>by have:=pr.aL7 _ x hx;exact ⟨by omega,by omega⟩) hw
   obtain ⟨k,nn,nm,ex,lb,bl⟩:=e
   dsimp only at hs ho1 hw hE hB hl1 hl2 hIf hCa ⊢
   have hA0:∀ w:List Bytes,w.length+(pr.tA (pr.lI ex) 0).length≤1000000000→b5 (F44 (K+5) (⟨w⟩:dA) ex 0)=some ⟨w++pr.tA (pr.lI ex) 0⟩:=fun w hw=>aBn (K+4) w ex (hE _ (by omega)) 0 hw
   have hA1:∀ w:List Bytes,w.length+(pr.tA (pr.lI ex) 1).length≤1000000000→b5 (F44 (K+5) (⟨w⟩:dA) ex 1)=some ⟨w++pr.tA (pr.lI ex) 1⟩:=fun w hw=>aBn (K+4) w ex (hE _ (by omega)) 1 hw
   have hB0:∀ w:List Bytes,w.length+(pr.qJ (pr.qK bl) 0).length≤1000000000→b5 (aD3 (K+5) (⟨w⟩:dA) bl 0)=some ⟨w++pr.qJ (pr.qK bl) 0⟩:=fun w hw=>aJI (K+3) w bl (hB _ (by omega)) 0 hw
   have hR:HE (K+5) ex:=hE _ (by omega)
   rw[F86]
   dsimp only
   clear hE hB hl1 hl2 hs ho2 ho3 ho4 hn hK hb
   by_cases h1:k=1
   ·subst h1
    simp only[pr.gZ,↓reduceIte,Int.reduceEq,aB,aC,aD] at hw
    simp only[↓reduceIte,Int.reduceBEq,aE,cC,cG,cS,cD]
    simp (disch:=(first | assumption | ((try simp only[aB,aC,aD]);omega))) only[pr.gZ,↓reduceIte,Int.reduceEq,hA0,hA1,hB0,hIf,hCa,dW,put_eq,aA,cD,cS,cH,cC,cG,eE,dS,cY,cE,dQ,cB,aH,aM,aL,aO,aB,aC,aD]
   by_cases h2:k=2
   ·subst h2
    simp only[pr.gZ,↓reduceIte,Int.reduceEq,aB,aC,aD] at hw
    simp only[↓reduceIte,Int.reduceBEq,aE,cC,cG,cS,cD]
    simp (disch:=(first | assumption | ((try simp only[aB,aC,aD]);omega))) only[pr.gZ,↓reduceIte,Int.reduceEq,hA0,hA1,hB0,hIf,hCa,dW,put_eq,aA,cD,cS,cH,cC,cG,eE,dS,cY,cE,dQ,cB,aH,aM,aL,aO,aB,aC,aD]
   by_cases h3:k=3
   ·subst h3
    simp only[pr.gZ,↓reduceIte,Int.reduceEq,aB,aC,aD] at hw
    simp only[↓reduceIte,Int.reduceBEq,aE,cC,cG,cS,cD]
    simp (disch:=(first | assumption | ((try simp only[aB,aC,aD]);omega))) only[pr.gZ,↓reduceIte,Int.reduceEq,hA0,hA1,hB0,hIf,hCa,dW,put_eq,aA,cD,cS,cH,cC,cG,eE,dS,cY,cE,dQ,cB,aH,aM,aL,aO,aB,aC,aD]
   by_cases h4:k=4
   ·subst h4
    simp only[pr.gZ,↓reduceIte,Int.reduceEq,aB,aC,aD] at hw
    simp only[↓reduceIte,Int.reduceBEq,aE,cC,cG,cS,cD]
    simp (disch:=(first | assumption | ((try simp only[aB,aC,aD]);omega))) only[pr.gZ,↓reduceIte,Int.reduceEq,hA0,hA1,hB0,hIf,hCa,dW,put_eq,aA,cD,cS,cH,cC,cG,eE,dS,cY,cE,dQ,cB,aH,aM,aL,aO,aB,aC,aD]
   by_cases h5:k=5
   ·subst h5
    simp only[pr.gZ,↓reduceIte,Int.reduceEq,aB,aC,aD] at hw
    simp only[↓reduceIte,Int.reduceBEq,aE,cC,cG,cS,cD]
    simp (disch:=(first | assumption | ((try simp only[aB,aC,aD]);omega))) only[pr.gZ,↓reduceIte,Int.reduceEq,hA0,hA1,hB0,hIf,hCa,dW,put_eq,aA,cD,cS,cH,cC,cG,eE,dS,cY,cE,dQ,cB,aH,aM,aL,aO,aB,aC,aD]
   by_cases h6:k=6
   ·subst h6
    simp only[pr.gZ,↓reduceIte,Int.reduceEq,aB,aC,aD] at hw
    simp only[↓reduceIte,Int.reduceBEq,aE,cC,cG,cS,cD]
    simp (disch:=(first | assumption | ((try simp only[aB,aC,aD]);omega))) only[pr.gZ,↓reduceIte,Int.reduceEq,hA0,hA1,hB0,hIf,hCa,dW,put_eq,aA,cD,cS,cH,cC,cG,eE,dS,cY,cE,dQ,cB,aH,aM,aL,aO,aB,aC,aD]
   by_cases h7:k=7
   ·subst h7
    simp only[pr.gZ,↓reduceIte,Int.reduceEq,aB,aC,aD] at hw
    simp only[↓reduceIte,Int.reduceBEq,aE,cC,cG,cS,cD]
    simp (disch:=(first | assumption | ((try simp only[aB,aC,aD]);omega))) only[pr.gZ,↓reduceIte,Int.reduceEq,hA0,hA1,hB0,hIf,hCa,dW,put_eq,aA,cD,cS,cH,cC,cG,eE,dS,cY,cE,dQ,cB,aH,aM,aL,aO,aB,aC,aD]
   by_cases h8:k=8
   ·subst h8
    simp only[pr.gZ,↓reduceIte,Int.reduceEq,aB,aC,aD] at hw
    simp only[↓reduceIte,Int.reduceBEq,aE,cC,cG,cS,cD]
    simp (disch:=(first | assumption | ((try simp only[aB,aC,aD]);omega))) only[pr.gZ,↓reduceIte,Int.reduceEq,hA0,hA1,hB0,hIf,hCa,dW,put_eq,aA,cD,cS,cH,cC,cG,eE,dS,cY,cE,dQ,cB,aH,aM,aL,aO,aB,aC,aD]
   by_cases h9:k=9
   ·subst h9
    cases ex with
    | nil =>
      simp only[pr.gZ,pr.lI,pr.aBq,List.map_nil,↓reduceIte,Int.reduceEq,aB,aC,aD] at hw
      simp only[↓reduceIte,Int.reduceBEq,aE,cC,cG,cS,cD]
      simp (disch:=(first | assumption | ((try simp only[aB,aC,aD]);omega))) [pr.gZ,pr.lI,pr.aBq,put_eq,aA,cD,cS,cH,cC,cG,eE,dS,cY,cE,dQ,cB,aH,aM,aL,aO,aB,aC,aD]
    | cons x r =>
      have hr:=hR x (by simp)
      simp only[pr.gZ,pr.lI,pr.aBq,bS,↓reduceIte,Int.reduceEq,aB,aC,aD] at hw
      simp only[↓reduceIte,Int.reduceBEq,aE,cC,cG,cS,cD]
      have hd:decide (Int.ofNat (x::r).length > 0)=true:=by simp
      have hi:jL 0 (x::r).length=true:=by simp [jL]
      have hg:(x::r).getD (Int.toNat 0) default=x:=rfl
      rw[put_eq _ _ _ (by simp only[aC,aD];omega),aA,hd,hi,hg]
      simp only[cY,↓reduceIte,dQ,cB]
      rw[hr _ (by simp only[aB,aC,aD];omega)]
      simp (disch:=(first | assumption | ((try simp only[aB,aC,aD]);omega))) only[pr.gZ,pr.lI,pr.aBq,bS,↓reduceIte,Int.reduceEq,put_eq,aA,cD,cS,cH,cC,cG,eE,dS,cY,cE,dQ,cB,aH,aM,aL,aO,aB,aC,aD]
   by_cases h10:k=10
   ·subst h10
    simp only[pr.gZ,↓reduceIte,Int.reduceEq,aB,aC,aD] at hw
    simp only[↓reduceIte,Int.reduceBEq,aE,cC,cG,cS,cD]
    simp (disch:=(first | assumption | ((try simp only[aB,aC,aD]);omega))) only[pr.gZ,↓reduceIte,Int.reduceEq,hA0,hA1,hB0,hIf,hCa,dW,put_eq,aA,cD,cS,cH,cC,cG,eE,dS,cY,cE,dQ,cB,aH,aM,aL,aO,aB,aC,aD]
   by_cases h11:k=11
   ·subst h11
    simp only[pr.gZ,↓reduceIte,Int.reduceEq,aB,aC,aD] at hw
    simp only[↓reduceIte,Int.reduceBEq,aE,cC,cG,cS,cD]
    simp (disch:=(first | assumption | ((try simp only[aB,aC,aD]);omega))) only[pr.gZ,↓reduceIte,Int.reduceEq,hA0,hA1,hB0,hIf,hCa,dW,put_eq,aA,cD,cS,cH,cC,cG,eE,dS,cY,cE,dQ,cB,aH,aM,aL,aO,aB,aC,aD]
   simp only[pr.gZ,h1,h2,h3,h4,h5,h6,h7,h8,h9,h10,h11,↓reduceIte,aB,aC,aD] at hw
   simp only[h1,h2,h3,h4,h5,h6,h7,h8,h9,h10,h11,beq_iff_eq,↓reduceIte,cC,cG,cS,cD]
   simp (disch:=(first | assumption | ((try simp only[aB,aC,aD]);omega))) only[pr.gZ,h1,h2,h3,h4,h5,h6,h7,h8,h9,h10,h11,↓reduceIte,put_eq,aA,cD,cS,cH,cC,cG,eE,dS,cY,cE,dQ,cB,aH,aM,aL,aO,aB,aC,aD]
theorem aKT (K:Nat) (l:List cU) (w:List Bytes) (ho:pr.oE l) (hb:pr.kS l≤10000000) (hK:5 * pr.kS l+70≤K) (hw:w.length+(pr.iK l).length≤1000000000):b5 (F58 K (⟨w⟩:dA) l)=some ⟨w++pr.iK l⟩:=by
 obtain ⟨K,rfl⟩:∃ j,K=j+1:=⟨K - 1,by omega⟩
 have:=pr.aDb l
 exact aJH K w l (fun x hx w hw=>aKS (pr.kS l) K x w (pr.aDa _ x hx) (by omega) (by omega) (pr.aDc _ ho x hx) hw) (by omega) (by omega) hw
end Go.Proofs.YtidjangjfekfjaaGreatDoor

namespace Go.Proofs.YtidjangjfekfjaaGreatDoor
open Go Go.Proofs Go.Dl
set_option maxRecDepth 100000
theorem aQ9 (K:Nat) (hK:20000000≤K) (w:List Bytes) (d:kY) (ho:pr.okD d) (hf:pr.aL8 d) (hk:d.b9=1) (hw:w.length+(pr.gL d).length≤1000000000):b5 (F55 K (⟨w⟩:dA) d)=some ⟨w++pr.gL d⟩:=by
 obtain ⟨o1,o2,o3,o4,o5⟩:=ho
 obtain ⟨f1,f2,f3,f4,f5⟩:=hf
 unfold pr.gL at hw ⊢
 rw[aJ hk] at hw ⊢
 unfold F55
 dsimp only
 simp only[aB,aC,aD] at hw
 rw[put_eq _ _ _ (by simp only[aC,aD];omega)]
 simp only[aA]
 have hT:(w++[[73,78,84,69,82,70,65,67,69],d.cA,[59]]).length+(pr.lU (fun _ m=>pr.aC9 m) 0 d.b6).length≤1000000000:=by simp only[aB,aC,aD];omega
 rw[pr.mX Sum.inl d.b6 (fun _ m=>pr.aC9 m) 1000000000 (by omega) hT]
 rotate_left
 ·intro i hi v hv
  have hm:=pr.gO (l:=d.b6) hi
  have h1:=pr.rR hi
  have h2:=eW hi
  have h3:=pr.kV (i:=i) (by omega)
  rw[aY]
  have hh:=head_eq K (v++[[77,69,84,72,79,68]]) _ (o2 _ hm) (by have:=(f5 _ hm).1;omega) (by have:=(f5 _ hm).1;omega)
  simp only[pr.aC9,aB,aC,aD] at hv hh
  simp only[h1,h2,h3,cY,dQ,cB,↓reduceIte]
  rw[put_eq _ _ _ (by simp only[aC,aD];omega),aA,hh (by omega)]
  simp only[pr.aC9,put_eq,aA,cD,cS,cH,cC,cG,eE,dS,cY,cE,dQ,cB,aH,aM,aL,aO,aB,aC,aD]
 ·intro v
  simp only[pr.pH,cY,aE,↓reduceIte]
 simp only[aQ,cC,cD]
 rw[put_eq _ _ _ (by simp only[aB,aC,aD];omega)]
 simp only[put_eq,aA,cD,cS,cH,cC,cG,eE,dS,cY,cE,dQ,cB,aH,aM,aL,aO,aB,aC,aD]
theorem aRa (K:Nat) (hK:20000000≤K) (w:List Bytes) (m:jT) (ho:pr.okM m) (hf:pr.aUl m) (hw:w.length+(pr.rG m).length≤1000000000) :
 ((b5 (jK K (⟨w⟩:dA) [([77,69,84,72,79,68]:Bytes)])).bind (fun r0=>(b5 (F85 K (⟨r0.fl⟩:dA) m.iD ([79,86,69,82,82,73,68,69]:Bytes))).bind (fun r1=>(b5 (F85 K (⟨r1.fl⟩:dA) m.dP ([65,66,83,84,82,65,67,84]:Bytes))).bind (fun r2=>(b5 (F85 K (⟨r2.fl⟩:dA) m.eS ([70,73,78,65,76]:Bytes))).bind (fun r3=>(b5 (F84 K (⟨r3.fl⟩:dA) m)).bind (fun r4=>(b5 (F57 K (⟨r4.fl⟩:dA) m.fB)).bind (fun r5=>(b5 (F58 K (⟨r5.fl⟩:dA) m.fM)).bind (fun r6=>b5 (jK K (⟨r6.fl⟩:dA) [([69,78,68,95,77,69,84,72,79,68]:Bytes)])))))))))=some ⟨w++pr.rG m⟩:=by
 have ho':=ho
 obtain ⟨o1,o2,o3,o4⟩:=ho
 obtain ⟨f1,f2,f3⟩:=hf
 simp only[pr.rG,aB,aC,aD] at hw
 rw[put_eq _ _ _ (by simp only[aC,aD];omega),aA,aAa _ _ _ _ (by simp only[aB,aC,aD];omega),aA,aAa _ _ _ _ (by simp only[aB,aC,aD];omega),aA,aAa _ _ _ _ (by simp only[aB,aC,aD];omega),aA,
  head_eq K _ m ho' (by omega) (by omega) (by simp only[aB,aC,aD];omega),aA,aFP K _ _ o3 (by omega) (by omega) (by simp only[aB,aC,aD];omega),aA,aKT K _ _ o4 (by omega) (by omega) (by simp only[aB,aC,aD];omega),aA,put_eq _ _ _ (by simp only[aB,aC,aD];omega)]
 simp only[pr.rG,aH]
theorem bind_assoc' {A B C:Type} (m:Option A) (f:A→Option B) (g:B→Option C):m.bind (fun x=>(f x).bind g)=(m.bind f).bind g:=by cases m <;> rfl
theorem aO7 (K:Nat) (hK:20000000≤K) (w:List Bytes) (d:kY) (ho:pr.okD d) (hf:pr.aL8 d) (hk:d.b9=2) (hw:w.length+(pr.gL d).length≤1000000000):b5 (F56 K (⟨w⟩:dA) d)=some ⟨w++pr.gL d⟩:=by
 obtain ⟨o1,o2,o3,o4,o5⟩:=ho
 obtain ⟨f1,f2,f3,f4,f5⟩:=hf
 unfold pr.gL at hw ⊢
 rw[aG (by omega),aJ hk] at hw ⊢
 unfold F56
 dsimp only
 simp only[aB,aC,aD] at hw
 rw[put_eq _ _ _ (by simp only[aC,aD];omega),aA,aAa _ _ _ _ (by simp only[aB,aC,aD];omega),aA,aAa _ _ _ _ (by simp only[aB,aC,aD];omega),aA,put_eq _ _ _ (by simp only[aB,aC,aD];omega),aA]
 have hbase:∀ {A:Type} (w:List Bytes),w.length+(if d.iG=[] then [] else [[69,88,84,69,78,68,83],d.iG]:List Bytes).length≤1000000000→(if (!(d.iG == ([]:Bytes)))=true then ((b5 (jK K (⟨w⟩:dA) [([69,88,84,69,78,68,83]:Bytes),d.iG])).bind (fun r7=>(some (.inr (r7.fl)):Option (A ⊕ List Bytes)))) else (some (.inr w)))=some (.inr (w++(if d.iG=[] then [] else [[69,88,84,69,78,68,83],d.iG]))):=by
  intro A w hw
  by_cases c:d.iG=[]
  ·simp [c]
  ·rw[aG c] at hw ⊢
   rw[aJ (by simp [c]),put_eq _ _ _ hw,aA]
 dsimp only
 rw[hbase _ (by simp only[aB,aC,aD];omega),cD]
 generalize hbs:(if d.iG=[] then [] else [[69,88,84,69,78,68,83],d.iG]:List Bytes)=bs at hw ⊢
 have hT:(w++[[67,76,65,83,83]]++pr.flag d.dP [65,66,83,84,82,65,67,84]++pr.flag d.eS [70,73,78,65,76]++[d.cA]++bs).length+(pr.lU pr.aAS 0 d.eL).length≤1000000000:=by simp only[aB,aC,aD];omega
 rw[pr.mX Sum.inl d.eL pr.aAS 1000000000 (by omega) hT]
 rotate_left
 ·intro i hi v hv
  have hm:=pr.gO (l:=d.eL) hi
  have h1:=pr.rR hi
  have h2:=eW hi
  have h3:=pr.kV (i:=i) (by omega)
  have h4:pr.named (IntKind.i64.wrap ((if (1:Int)<(i:Int) then 1 else (i:Int))+1)) [[73,77,80,76,69,77,69,78,84,83],[44]]=if i=0 then [73,77,80,76,69,77,69,78,84,83] else [44]:=by
   by_cases c:i=0
   ·subst c;rfl
   ·have:(if (1:Int)<(i:Int) then 1 else (i:Int))=1:=by by_cases e:(1:Int)<(i:Int) <;> simp [e];omega
    rw[this,aG c];rfl
  rw[aY]
  simp only[pr.aAS,aB,aC,aD] at hv
  simp only[h1,h2,h3,cY,dQ,cB,↓reduceIte,cE]
  rw[fW _ _ _ (by simp),h4,aA,put_eq _ _ _ (by simp only[aC,aD];omega)]
  simp only[pr.aAS,put_eq,aA,cD,cS,cH,cC,cG,eE,dS,cY,cE,dQ,cB,aH,aM,aL,aO,aB,aC,aD]
 ·intro v
  simp only[pr.pH,cY,aE,↓reduceIte]
 simp only[aQ,cC,cD]
 rw[put_eq _ _ _ (by simp only[aB,aC,aD];omega),aA,aFP K _ _ o1 (by omega) (by omega) (by simp only[aB,aC,aD];omega),aA]
 dsimp only
 have hT:(w++[[67,76,65,83,83]]++pr.flag d.dP [65,66,83,84,82,65,67,84]++pr.flag d.eS [70,73,78,65,76]++[d.cA]++bs++pr.lU pr.aAS 0 d.eL++[[59]]++pr.nE d.fB).length+(pr.lU (fun _ m=>pr.rG m) 0 d.b6).length≤1000000000:=by simp only[aB,aC,aD];omega
 rw[pr.mX Sum.inl d.b6 (fun _ m=>pr.rG m) 1000000000 (by omega) hT]
 rotate_left
 ·intro i hi v hv
  have hm:=pr.gO (l:=d.b6) hi
  have h1:=pr.rR hi
  have h2:=eW hi
  have h3:=pr.kV (i:=i) (by omega)
  rw[aY]
  have hh:=aRa K hK v _ (o2 _ hm) (f5 _ hm) hv
  simp only[h1,h2,h3,cY,dQ,cB,↓reduceIte]
  simp only[bind_assoc'] at hh ⊢
  rw[hh]
  simp only[put_eq,aA,cD,cS,cH,cC,cG,eE,dS,cY,cE,dQ,cB,aH,aM,aL,aO,aB,aC,aD]
 ·intro v
  simp only[pr.pH,cY,aE,↓reduceIte]
 simp only[aQ,cC,cD]
 rw[put_eq _ _ _ (by simp only[aB,aC,aD];omega)]
 simp only[put_eq,aA,cD,cS,cH,cC,cG,eE,dS,cY,cE,dQ,cB,aH,aM,aL,aO,aB,aC,aD]
theorem decl_eq (K:Nat) (hK:20000000≤K) (w:List Bytes) (d:kY) (ho:pr.okD d) (hf:pr.aL8 d) (hw:w.length+(pr.gL d).length≤1000000000):b5 (F26 K (⟨w⟩:dA) d)=some ⟨w++pr.gL d⟩:=by
 unfold F26
 dsimp only
 by_cases h1:d.b9=1
 ·rw[h1]
  simp only[Int.reduceBEq,↓reduceIte]
  rw[aQ9 K hK w d ho hf h1 hw]
  simp only[put_eq,aA,cD,cS,cH,cC,cG,eE,dS,cY,cE,dQ,cB,aH,aM,aL,aO,aB,aC,aD]
 by_cases h2:d.b9=2
 ·rw[h2]
  simp only[Int.reduceBEq,↓reduceIte,aE]
  rw[aO7 K hK w d ho hf h2 hw]
  simp only[put_eq,aA,cD,cS,cH,cC,cG,eE,dS,cY,cE,dQ,cB,aH,aM,aL,aO,aB,aC,aD]
 obtain ⟨o1,o2,o3,o4,o5⟩:=ho
 obtain ⟨f1,f2,f3,f4,f5⟩:=hf
 unfold pr.gL at hw ⊢
 rw[aG h1,aG h2] at hw ⊢
 have b1:(d.b9 == 1)=false:=by simpa using h1
 have b2:(d.b9 == 2)=false:=by simpa using h2
 rw[b1,b2]
 by_cases h3:d.b9=3
 ·rw[h3]
  rw[aJ h3] at hw
  simp only[Int.reduceBEq,↓reduceIte,aE]
  simp only[aB,aC,aD] at hw
  rw[put_eq _ _ _ (by simp only[aC,aD];omega),aA,aFP K _ _ o1 (by omega) (by omega) (by simp only[aB,aC,aD];omega),aA,aKT K _ _ o3 (by omega) (by omega) (by simp only[aB,aC,aD];omega),aA,put_eq _ _ _ (by simp only[aB,aC,aD];omega)]
  simp only[put_eq,aA,cD,cS,cH,cC,cG,eE,dS,cY,cE,dQ,cB,aH,aM,aL,aO,aB,aC,aD]
 by_cases h4:d.b9=4
 ·rw[h4]
  rw[aG h3,aJ h4] at hw
  simp only[Int.reduceBEq,↓reduceIte,aE,Int.reduceEq]
  simp only[aB,aC,aD] at hw
  simp (disch:=(first | assumption | ((try simp only[aB,aC,aD]);omega))) only[dW,put_eq,aA,cD,cS,cH,cC,cG,eE,dS,cY,cE,dQ,cB,aH,aM,aL,aO,aB,aC,aD]
 have b3:(d.b9 == 3)=false:=by simpa using h3
 have b4:(d.b9 == 4)=false:=by simpa using h4
 rw[b3,b4,aG h3,aG h4]
 rw[aG h3,aG h4] at hw
 simp only[aE,↓reduceIte]
 rw[put_eq _ _ _ hw]
 simp only[put_eq,aA,cD,cS,cH,cC,cG,eE,dS,cY,cE,dQ,cB,aH,aM,aL,aO,aB,aC,aD]
end Go.Proofs.YtidjangjfekfjaaGreatDoor

namespace Go.Proofs.YtidjangjfekfjaaGreatDoor
open Go Go.Proofs Go.Dl
set_option maxRecDepth 100000
open pr (B J)
theorem aOV (K:Nat) (t:kI) (hlo:zZ t.jJ) (hhi:zZ t.jM) (hw:(B (pr.rY t)).length≤1000000000):b5 (F13 K t)=some (J (pr.rY t)):=by
 have h2:=aKO (pr.rY t)
 unfold F13
 rw[rS K [] t hlo hhi (by simp only[aD];omega),aA,aL,aFM K _ (aUm t) hw];rfl
theorem aOW (K:Nat) (e:dM) (ho:pr.okE e) (hK:20000000≤K) (hs:pr.sz e≤2000000) (hw:(B (pr.gC e)).length≤1000000000):b5 (F7 K e)=some (J (pr.gC e)):=by
 have h2:=aKO (pr.gC e)
 unfold F7
 rw[aFN 2000000 K e [] hs (by omega) (by omega) ho (by simp only[aD];omega),aA,aL,aFM K _ (aKP e) hw];rfl
theorem v8 (d:kY):pr.gL d≠[]:=by
 unfold pr.gL
 repeat' refine aOX ?_ ?_
 all_goals (intro hc;simp at hc)
def okU (l:List kY):Prop:=l.length≤2000000∧∀ d∈l,pr.okD d∧pr.aL8 d
theorem aDd (K:Nat) (hK:20000000≤K) (u:yL) (ho:okU u.b7) (hw:(pr.xH u.b7).length≤800000000):b5 (F11 K u)=some (pr.xH u.b7):=by
 obtain ⟨l⟩:=u
 dsimp only at ho hw ⊢
 unfold F11
 dsimp only
 unfold pr.xH at hw ⊢
 have key:∀ {A:Type} {f:Bool × List UInt8 × Int→Option (((Bool × List UInt8) ⊕ A) ⊕ (Bool × List UInt8 × Int))},(∀ (i:Nat),i<l.length→∀ v:List UInt8,v.length+(J (pr.gL (l.getD i default))++[10]).length≤800000000→f (decide (0<i),v,(i:Int))=some (.inr (true,v++(J (pr.gL (l.getD i default))++[10]),((i+1:Nat):Int))))→(∀ v,f (decide (0<l.length),v,(l.length:Int))=some (.inl (.inl (decide (0<l.length),v)))) →
  iter K f (false,[],0)=some (.inl (decide (0<l.length),pr.lU (fun _ d=>J (pr.gL d)++[10]) 0 l)):=by
  intro A f ha hb
  have:=pr.aBT (f:=f) (fun i v=>(decide (0<i),v,(i:Int))) (fun v=>Sum.inl (decide (0<l.length),v)) l (fun _ d=>J (pr.gL d)++[10]) 800000000 0 (fun i _ hi v hv=>by
   have:=ha i hi v hv
   have hd:decide (0<i+1)=true:=by simp
   rw[hd];exact this) hb l.length 0 K [] (by omega) (by omega) (by have:=ho.1;omega) (by simpa using hw)
  simpa using this
 rw[key]
 ·simp only[aQ,cC,cD];rfl
 ·intro i hi v hv
  have hm:=pr.gO (l:=l) hi
  have h1:=pr.rR hi
  have h2:=eW hi
  have h3:=pr.kV (i:=i) (by have:=ho.1;omega)
  rw[aY]
  obtain ⟨q1,q2⟩:=ho.2 _ hm
  generalize l.getD i default=d at hv q1 q2 ⊢
  have jl:=aGZ (v8 d)
  have bl:=aKO (pr.gL d)
  simp only[aB,aC,aD] at hv
  have hd:=decl_eq K hK [] d q1 q2 (by simp only[aD];omega)
  have ht:=aFM K _ (v8 d) (by omega)
  simp only[h1,h2,h3,hd,ht,cY,dQ,cB,↓reduceIte,aA,aL]
  rw[dZ (room_le (by simp only[aC,aD];omega)),cB]
  have hb:∀ b,b5 (F27 K (⟨b,v⟩:S75) (J (pr.gL d)++[10]))=some (Int.ofNat (J (pr.gL d)++[10]).length,([]:mF),⟨true,v++(J (pr.gL d)++[10])⟩):=by
   intro b
   unfold F27 F59
   simp only[dS,aA]
   rw[dZ (room_le (by simp only[aB,aC,aD];omega)),cB];rfl
  rw[hb]
  rfl
 ·intro v
  simp only[pr.pH,cY,aE,↓reduceIte]
end Go.Proofs.YtidjangjfekfjaaGreatDoor
