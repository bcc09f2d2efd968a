/- No conditions. -/
import Derived.Test.YtidjangjfekfjaaGreatDoorGPc
import Derived.Test.YtidjangjfekfjaaGreatDoorLP
import Derived.Test.YtidjangjfekfjaaGreatDoorPP
set_option linter.unusedVariables false
set_option linter.unusedSimpArgs false
set_option linter.unusedSectionVars false
namespace Go.Proofs.YtidjangjfekfjaaGreatDoor.ex
open Go Go.Dl
set_option maxRecDepth 100000
open pr (B J)
theorem aTu:lx.zP.all (fun x=>decide (x.length≤13))=true:=by kernel_rfl
theorem aNn {k n:Int} {w:Bytes} (h:lx.Is k w n):w.length≤13:=by
 have a:=lx.wI h (c:=32) (.inl rfl) []
 generalize w++32::[]=l at a
 have hw:lx.nD l = .tok k w n→w.length≤13:=by
  intro a
  unfold lx.nD at a
  dsimp only at a
  split at a
  ·cases a
  ·split at a
   ·rename_i hk
    injection a with _ a2 _
    rw[a2] at hk
    have hm:w∈lx.zP:=of_decide_eq_true hk
    exact of_decide_eq_true (aW.1 aTu w hm)
   ·split at a
    ·cases a
    ·rename_i hl
     injection a with _ a2 _
     rw[a2] at hl
     omega
 have hn:lx.tJ l = .tok k w n→w.length≤13:=by
  intro a
  unfold lx.tJ at a
  dsimp only at a
  split at a
  ·split at a
   ·cases a
   ·rename_i hl
    injection a with _ a2 _
    rw[a2] at hl
    omega
  ·cases a
 have hc:lx.aBt l = .tok k w n→w.length≤13:=by
  intro a
  unfold lx.aBt at a
  split at a <;> cases a
 unfold lx.step at a
 generalize l.headD 0=b at a
 generalize l.tail.headD 0=c at a
 unfold lx.iR at a
 repeat' split at a
 all_goals first
  | (cases a;done)
  | exact hw a
  | exact hn a
  | exact hc a
  | (injection a with _ a2 _;rw[← a2];simp)
def Tk (w:Bytes):Prop:=∃ k n:Int,lx.Is k w n
theorem Tk.ne {w:Bytes} (h:Tk w):w≠[]:=by
 obtain ⟨k,n,l,hl,hs⟩:=h
 have:=lx.fits hl
 rw[hs] at this
 exact this.1
theorem Kw.tk {w:Bytes} (h:Kw w):Tk w:=by
 obtain ⟨q,_,h⟩:=h
 exact ⟨q,0,h⟩
theorem aGX {l:List dM} {w:Bytes} (h:w∈jE l):w=[44]∨∃ x∈l,w∈pr.gC x:=by
 cases l with
 | nil=>simp [jE] at h
 | cons y r =>
   simp only[jE,bH,List.mem_flatMap,aT] at h
   rcases h with h | ⟨z,hz,h⟩
   ·exact .inr ⟨y,by simp,h⟩
   ·rcases h with h | h
    ·exact .inl h
    ·exact .inr ⟨z,by simp [hz],h⟩
theorem vU {x:dM} (hx:Sx x):∀ w∈pr.gC x,Tk w:=by
 have k1:∀ w∈aKw,Tk w:=fun w h=>(pK h).tk
 have op:∀ {a:dM},(∀ w∈pr.gC a,Tk w)→∀ w∈wH a,Tk w:=by
  intro a h w hw
  unfold wH at hw
  split at hw
  ·simp only[bH,aS] at hw
   rcases hw with (rfl | hw) | rfl
   ·exact k1 _ (by decide)
   ·exact h w hw
   ·exact k1 _ (by decide)
  ·exact h w hw
 have ar:∀ {ag:List dM},(∀ a∈ag,∀ w∈pr.gC a,Tk w)→∀ w∈jE ag,Tk w:=by
  intro ag h w hw
  rcases aGX hw with rfl | ⟨x,hx,hw⟩
  ·exact k1 _ (by decide)
  ·exact h x hx w hw
 induction hx with
 | num n hn =>
   rw[aFj]
   intro w hw
   rw[aS.1 hw]
   exact ⟨3,_,lM hn⟩
 | lit k hk =>
   rw[aAF hk]
   intro w hw
   rw[aS.1 hw]
   rcases hk with rfl | rfl | rfl <;> exact k1 _ (by decide)
 | name w hw =>
   rw[zK]
   intro v hv
   rw[aS.1 hv]
   exact ⟨1,0,hw⟩
 | index w a hw ha ih =>
   rw[vT]
   intro v hv
   simp only[bH,aT,List.not_mem_nil,or_false] at hv
   rcases hv with ((rfl | rfl) | hv) | rfl
   ·exact ⟨1,0,hw⟩
   ·exact k1 _ (by decide)
   ·exact ih v hv
   ·exact k1 _ (by decide)
 | sign k a hk ha ih =>
   rw[zL a hk]
   intro v hv
   simp only[bH,aS] at hv
   rcases hv with rfl | hv
   ·split <;> exact k1 _ (by decide)
   ·exact op ih v hv
 | bin n a b h1 h2 ha hb iha ihb =>
   rw[aCz,aEm h1 h2]
   intro v hv
   simp only[bH,aS] at hv
   rcases hv with (hv | rfl) | hv
   ·exact op iha v hv
   ·exact k1 _ (List.mem_append_right _ (bO _ (aKz ⟨n - 1,by omega⟩).2.1))
   ·exact op ihb v hv
 | of k w hk hw =>
   rw[aGU w hk]
   intro v hv
   simp only[aT,List.not_mem_nil,or_false] at hv
   rcases hv with rfl | rfl | rfl | rfl
   ·rcases hk with rfl | rfl | rfl <;> exact k1 _ (by decide)
   ·exact k1 _ (by decide)
   ·exact ⟨1,0,hw⟩
   ·exact k1 _ (by decide)
 | cast w a hw ha ih =>
   rw[aGT]
   intro v hv
   simp only[bH,aT,List.not_mem_nil,or_false] at hv
   rcases hv with ((rfl | rfl | rfl) | hv) | rfl
   ·exact k1 _ (by decide)
   ·exact ⟨1,0,hw⟩
   ·exact k1 _ (by decide)
   ·exact ih v hv
   ·exact k1 _ (by decide)
 | call w wh ag hw hwh hag hl ih =>
   rw[tL]
   intro v hv
   simp only[bH,aT,List.not_mem_nil,or_false] at hv
   rcases hv with ((rfl | rfl | rfl | rfl) | hv) | rfl
   ·exact ⟨1,0,hw⟩
   ·exact k1 _ (by decide)
   ·exact ⟨1,0,hwh⟩
   ·exact k1 _ (by decide)
   ·exact ar ih v hv
   ·exact k1 _ (by decide)
 | own n wh ag hn hwh hag hl ih =>
   rw[aAG wh ag hn]
   intro v hv
   simp only[bH,aT,List.not_mem_nil,or_false] at hv
   rcases hv with ((rfl | rfl | rfl | rfl) | hv) | rfl
   ·split <;> exact k1 _ (by decide)
   ·exact k1 _ (by decide)
   ·exact ⟨1,0,hwh⟩
   ·exact k1 _ (by decide)
   ·exact ar ih v hv
   ·exact k1 _ (by decide)
def Tl:List fS→List Bytes→Prop
 | [],[]=>True
 | x::r,w::l=>(x.eG=w∧lx.Is x.b9 w x.fN)∧Tl r l
 | _,_=>False
theorem Tl.len:∀ {m:List fS} {l:List Bytes},Tl m l→m.length=l.length
 | [],[],_=>rfl
 | x::r,w::l,h=>by rw[aC,aC,h.2.len]
 | [],_::_,h=>h.elim
 | _::_,[],h=>h.elim
theorem Tl.at:∀ {m:List fS} {l:List Bytes} (p q:List fS),Tl m l→At (p++m++q) p.length l
 | [],[],p,q,_=>trivial
 | x::r,w::l,p,q,h=>by
   refine ⟨⟨by simp,?_⟩,?_⟩
   ·have:(p++(x::r)++q).getD p.length default=x:=by simp [List.getD]
    rw[this]
    exact h.1
   ·have:=h.2.at (p++[x]) q
    simp only[aH,aB,aC,aD,aM,aL] at this ⊢
    exact this
 | [],_::_,_,_,h=>h.elim
 | _::_,[],_,_,h=>h.elim
theorem Tl.at0 {m:List fS} {l:List Bytes} (h:Tl m l):At m 0 l:=by
 have:=h.at [] []
 rwa [aL,aO] at this
theorem Tl.app:∀ {m m':List fS} {l l':List Bytes},Tl m l→Tl m' l'→Tl (m++m') (l++l')
 | [],m',[],l',_,h'=>h'
 | x::r,m',w::l,l',h,h'=>⟨h.1,h.2.app h'⟩
 | [],_,_::_,_,h,_=>h.elim
 | _::_,_,[],_,h,_=>h.elim
theorem aKA {w:Bytes} {k n:Int} (h:lx.Is k w n) (v:Bytes) (hv:lx.Cut (v.headD 0)) (a:Nat) (t:List fS) (ht:t.length<1500):lx.lN (w++v) a t=lx.lN v (a+w.length) (t++[⟨k,w,n,(a:Int)⟩]):=by
 have hne:w≠[]:=Tk.ne ⟨k,n,h⟩
 rw[lx.aCE (by simp [hne]) (lx.aGY h v hv),aG (by omega)]
 congr 1
 simp
theorem aWf:lx.Cut 32:=⟨by decide,by decide,by decide,by decide,by decide,by decide⟩
theorem aQG (v:Bytes) (a:Nat) (t:List fS):lx.lN (32::v) a t=lx.lN v (a+1) t:=by
 rw[lx.wJ (n:=1) (by simp) rfl];rfl
theorem aEn:∀ (l:List Bytes) (v:Bytes) (a:Nat) (t:List fS),l≠[]→(∀ w∈l,Tk w)→lx.Cut (v.headD 0)→t.length+l.length≤1500 →
 ∃ m b,lx.lN (J l++v) a t=lx.lN v b (t++m)∧Tl m l
 | [],v,a,t,h,_,_,_=>absurd rfl h
 | [w],v,a,t,_,h,hv,ht=>by
   obtain ⟨k,n,hi⟩:=h w (by simp)
   refine ⟨[⟨k,w,n,(a:Int)⟩],a+w.length,?_,⟨⟨rfl,hi⟩,trivial⟩⟩
   have:J [w]=w:=by simp [J,Lib.join,List.intercalate]
   rw[this]
   exact aKA hi v hv a t (by simp at ht;omega)
 | w::y::r,v,a,t,_,h,hv,ht=>by
   obtain ⟨k,n,hi⟩:=h w (by simp)
   simp only[aC] at ht
   have e:J (w::y::r)++v=w++(32::(J (y::r)++v)):=by
    simp [J,Lib.join,List.intercalate,List.intersperse]
   rw[e,aKA hi (32::(J (y::r)++v)) aWf a t (by omega),aQG]
   obtain ⟨m,b,h1,h2⟩:=aEn (y::r) v (a+w.length+1) (t++[⟨k,w,n,(a:Int)⟩]) (by simp) (fun x hx=>h x (aV _ hx)) hv (by simp;omega)
   refine ⟨⟨k,w,n,(a:Int)⟩::m,b,?_,⟨⟨rfl,hi⟩,h2⟩⟩
   rw[h1];simp
theorem aLI:∀ (l:List Bytes),(∀ w∈l,Tk w)→(B l).length≤14 * l.length
 | [],_=>by simp [B,pr.B]
 | w::r,h=>by
   obtain ⟨k,n,hi⟩:=h w (by simp)
   have:=aNn hi
   have:=aLI r fun x hx=>h x (aV _ hx)
   show (pr.B (w::r)).length≤_
   rw[pr.kM]
   simp only[aB,aC]
   have e:(pr.B r).length=(B r).length:=rfl
   omega
theorem aZd {l:List Bytes} (h0:l≠[]) (h:∀ w∈l,Tk w):(J l).length≤14 * l.length:=by
 have:=aGZ h0
 have:=aLI l h
 omega
end Go.Proofs.YtidjangjfekfjaaGreatDoor.ex
