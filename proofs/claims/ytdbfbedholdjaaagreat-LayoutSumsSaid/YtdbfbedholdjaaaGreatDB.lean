/- No conditions. -/
import Derived.Test.YtdbfbedholdjaaaGreatDA
import Derived.LoopN
import Derived.Still
import Derived.KernelRfl
set_option linter.unusedVariables false
set_option linter.unusedSimpArgs false
set_option linter.unusedSectionVars false
namespace Go.Dl
variable [eC]
section
variable {P:Program} {Γ:lI} {S:Mem} {β:dK} {w:World} {n:Nat}
theorem kI:∀ {om:List Nat} {o i k:Nat},gH o om k=some i→k≤i∧om[i - k]? = some o
 | [],_,_,_,h=>by cases h
 | x::r,o,i,k,h=>by
   unfold gH at h
   cases hb:Nat.beq x o with
   | true =>
     rw[hb,cond_true] at h
     simp only[aA] at h
     subst h
     have:=aF hb
     subst this
     simp
   | false =>
     rw[hb,cond_false] at h
     obtain ⟨h1,h2⟩:=kI h
     refine ⟨by omega,?_⟩
     rw[show i - k=(i - (k+1))+1 by omega,List.getElem?_cons_succ]
     exact h2
def gA (β:dK) (om:List Nat):dK:=fun i=>(om[i]?).bind β
theorem C.n8 {om:List Nat}:∀ {c:C} {β:dK} {v:Value},cW S β c v→cW S (gA β om) (c.kW om) v:=by
 intro c
 induction c with
 | own o m =>
   intro β v hv
   simp only[C.kW]
   cases hi:gH o om 0 with
   | none=>trivial
   | some i =>
     have hb:gA β om i=β o:=by
      have:=(kI hi).2
      simp only[Nat.sub_zero] at this
      simp [gA,this]
     simp only[Option.elim,cW,hb]
     exact hv
 | ptr o i j =>
   intro β v hv
   simp only[C.kW]
   cases hi:gH o om 0 with
   | none=>trivial
   | some q =>
     have hb:gA β om q=β o:=by
      have:=(kI hi).2
      simp only[Nat.sub_zero] at this
      simp [gA,this]
     simp only[Option.elim,cW,hb]
     exact hv
 | self t b o =>
   intro β v hv
   simp only[C.kW]
   cases hi:gH o om 0 with
   | none=>trivial
   | some q =>
     have hb:gA β om q=β o:=by
      have:=(kI hi).2
      simp only[Nat.sub_zero] at this
      simp [gA,this]
     simp only[Option.elim,cW,hb]
     exact hv
 | map o =>
   intro β v hv
   simp only[C.kW]
   cases hi:gH o om 0 with
   | none=>trivial
   | some q =>
     have hb:gA β om q=β o:=by
      have:=(kI hi).2
      simp only[Nat.sub_zero] at this
      simp [gA,this]
     simp only[Option.elim,cW,hb]
     exact hv
 | tail o lo n =>
   intro β v hv
   simp only[C.kW]
   cases hi:gH o om 0 with
   | none=>trivial
   | some q =>
     have hb:gA β om q=β o:=by
      have:=(kI hi).2
      simp only[Nat.sub_zero] at this
      simp [gA,this]
     simp only[Option.elim,cW,hb]
     exact hv
 | opt b c ih =>
   intro β v hv
   simp only[C.kW,cW] at hv ⊢
   split at hv
   ·rename_i h;rw[aH h];exact ih hv
   ·rename_i h;rw[aG h];exact hv
 | iface b t c ih =>
   intro β v hv
   simp only[C.kW,cW] at hv ⊢
   split at hv
   ·rename_i h;rw[aH h];obtain ⟨u,hu,hr⟩:=hv;exact ⟨u,hu,ih hr⟩
   ·rename_i h;rw[aG h];exact hv
 | func fn k cap ih =>
   rintro β v ⟨vs,h1,h2,h3⟩
   refine ⟨vs,h1,h2,fun i hi=>?_⟩
   have:(((List.range k).map fun i=>(cap i).kW om).getD i .bot)=(cap i).kW om:=by
    simp [List.getD,hi]
   show cW S (gA β om) (((List.range k).map fun i=>(cap i).kW om).getD i .bot) _
   rw[this]
   exact ih i (h3 i hi)
 | cond b c ih =>
   intro β v hv hb
   exact ih (hv hb)
 | _=>intro β v hv;exact hv
theorem eM.map {β β':dK} {S S':Mem} (f:C→C) (hf:∀ c v,cW S β c v→cW S' β' (f c) v):∀ {l:List C} {us:List Value},eM S β l us→eM S' β' (l.map f) us
 | [],_,h=>h
 | _::_,_,⟨v,r,h1,h2,h3⟩=>⟨v,r,h1,hf _ _ h2,eM.map f hf h3⟩
theorem D1.n8 {om:List Nat} {d:D1} {v:Value} (h:kX S β d v):kX S (gA β om) (d.kW om) v:=by
 cases d with
 | c x=>exact C.n8 h
 | agg l=>obtain ⟨vs,h1,h2⟩:=h;exact ⟨vs,h1,h2.map _ fun _ _ h=>C.n8 h⟩
theorem tW.map {β β':dK} {S S':Mem} (f:D1→D1) (hf:∀ c v,kX S β c v→kX S' β' (f c) v):∀ {l:List D1} {us:List Value},tW S β l us→tW S' β' (l.map f) us
 | [],_,h=>h
 | _::_,_,⟨v,r,h1,h2,h3⟩=>⟨v,r,h1,hf _ _ h2,tW.map f hf h3⟩
theorem D.n8 {om:List Nat} {d:D} {v:Value} (h:dU S β d v):dU S (gA β om) (d.kW om) v:=by
 cases d with
 | c x=>exact C.n8 h
 | agg l=>obtain ⟨vs,h1,h2⟩:=h;exact ⟨vs,h1,h2.map _ fun _ _ h=>C.n8 h⟩
 | iV l=>obtain ⟨vs,h1,h2⟩:=h;exact ⟨vs,h1,h2.map _ fun _ _ h=>D1.n8 h⟩
theorem yJ:∀ {om:List Nat},nS om=true→∀ {i j o:Nat},om[i]? = some o→om[j]? = some o→i=j
 | [],_,i,j,o,h,_=>by simp at h
 | x::r,hn,i,j,o,hi,hj=>by
   simp only[nS,aC,aP,List.any_eq_false] at hn
   obtain ⟨h1,h2⟩:=hn
   cases i with
   | zero =>
     cases j with
     | zero=>rfl
     | succ j =>
       simp only[List.getElem?_cons_zero,aA] at hi
       subst hi
       simp only[List.getElem?_cons_succ] at hj
       have:=h1 x (bH hj)
       simp at this
   | succ i =>
     cases j with
     | zero =>
       simp only[List.getElem?_cons_zero,aA] at hj
       subst hj
       simp only[List.getElem?_cons_succ] at hi
       have:=h1 x (bH hi)
       simp at this
     | succ j =>
       simp only[List.getElem?_cons_succ] at hi hj
       rw[yJ h2 hi hj]
theorem aGy {x:Obj} {om:List Nat}:(x.kW om).live=x.live:=by cases x <;> rfl
theorem tY.kW {om:List Nat} {o i:Nat} {x:Obj} (h:tY S β w o x) (hi:om[i]? = some o):tY S (gA β om) w i (x.kW om):=by
 have hb:gA β om i=β o:=by simp [gA,hi]
 cases x with
 | dead=>trivial
 | cells l =>
   obtain ⟨k,h1,h2,h3,h4,vs,h5,h6,h7⟩:=h
   exact ⟨k,by rw[hb];exact h1,by rw[h2];simp,h3,h4,vs,h5,h6.map _ fun _ _ h=>C.n8 h,h7⟩
 | aB3 e bs =>
   obtain ⟨k,h1,h2⟩:=h
   exact ⟨k,by rw[hb];exact h1,h2⟩
 | map z has get =>
   obtain ⟨k,h1,h2⟩:=h
   exact ⟨k,by rw[hb];exact h1,h2⟩
 | row e wd m get =>
   rcases h with ⟨h1,h2⟩ | ⟨k,h1,h2⟩
   ·exact .inl ⟨by rw[hb];exact h1,h2⟩
   ·exact .inr ⟨k,by rw[hb];exact h1,h2⟩
theorem Core.kW {xs:List Obj} (h:Core Γ S β w xs) {om:List Nat} (hn:nS om=true) :
 Core Γ S (gA β om) w (om.map fun o=>(xs.getD o .dead).kW om):=by
 have get:∀ i y,(om.map fun o=>(xs.getD o .dead).kW om)[i]? = some y→y.live=true→∃ o x,om[i]? = some o∧xs[o]? = some x∧x.live=true∧y=x.kW om∧gA β om i=β o:=by
  intro i y hy hl
  rw[bA] at hy
  cases ho:om[i]? with
  | none=>simp [ho] at hy
  | some o =>
    simp only[ho,Option.map_some,aA] at hy
    subst hy
    rw[aGy] at hl
    cases hx:xs[o]? with
    | none=>simp [List.getD,hx,Obj.live] at hl
    | some x =>
      refine ⟨o,x,rfl,hx,?_,?_,by simp [gA,ho]⟩
      ·simpa [List.getD,hx] using hl
      ·simp [List.getD,hx]
 refine ⟨h.frame,h.holds,?_,?_,?_,?_,?_⟩
 ·intro i y hy
  cases hl:y.live with
  | false=>cases y <;> first | trivial | cases hl
  | true =>
    obtain ⟨o,x,ho,hx,_,rfl,_⟩:=get i y hy hl
    exact (h.cD o x hx).kW ho
 ·intro i hi
  have:om[i]? = none:=aW (by simpa using hi)
  simp [gA,this]
 ·intro i j k k' y y' hy hy' hl hl' hk hk' hne
  obtain ⟨o,x,ho,hx,hxl,_,hb⟩:=get i y hy hl
  obtain ⟨o',x',ho',hx',aIp,_,hb'⟩:=get j y' hy' hl'
  rw[hb] at hk;rw[hb'] at hk'
  refine h.inj o o' k k' x x' hx hx' hxl aIp hk hk' fun e=>hne ?_
  subst e
  exact yJ hn ho ho'
 ·intro i k y hy hl hk
  obtain ⟨o,x,ho,hx,hxl,_,hb⟩:=get i y hy hl
  rw[hb] at hk
  exact h.sep o k x hx hxl hk
 ·intro i k y hy hl hk
  obtain ⟨o,x,ho,hx,hxl,_,hb⟩:=get i y hy hl
  rw[hb] at hk
  exact h.mine o k x hx hxl hk
theorem aCS (f:Nat→D) (t:Nat):∀ (l:List Nat),dR (D.c .bot) (l.map fun t=>(t,f t)) t=bif l.any (Nat.beq t) then f t else .c .bot
 | []=>rfl
 | x::r=>by
   rw[List.map_cons,List.any_cons]
   simp only[dR]
   cases hb:Nat.beq x t with
   | true =>
     have:=aF hb
     subst this
     simp
   | false =>
     have:Nat.beq t x=false:=by
      cases hq:Nat.beq t x with
      | false=>rfl
      | true=>have:=aF hq;subst this;simp at hb
     rw[cond_false,this,Bool.false_or]
     exact aCS f t r
theorem aM9 {d:D} {om:List Nat} {b:Bool} (h:d.kW om = .c (.val (.bool b))):d = .c (.val (.bool b)):=by
 cases d with
 | c x =>
   simp only[D.kW,D.c.injEq] at h
   cases x with
   | val u=>simp only[C.kW] at h;rw[h]
   | own o m=>simp only[C.kW] at h;cases hi:gH o om 0 <;> simp [hi] at h
   | ptr o i j=>simp only[C.kW] at h;cases hi:gH o om 0 <;> simp [hi] at h
   | self t b o=>simp only[C.kW] at h;cases hi:gH o om 0 <;> simp [hi] at h
   | map o=>simp only[C.kW] at h;cases hi:gH o om 0 <;> simp [hi] at h
   | tail o lo n=>simp only[C.kW] at h;cases hi:gH o om 0 <;> simp [hi] at h
   | _=>simp only[C.kW] at h;cases h
 | agg l=>cases h
 | iV l=>cases h
theorem aBz:∀ {k i:Nat} {om:List Nat},aCt k i om=true→∀ {o:Nat},o<k→om[o]? = some (i+o)
 | 0,_,_,_,_,h=>by omega
 | k+1,i,[],h,_,_=>by cases h
 | k+1,i,x::r,h,o,ho=>by
   simp only[aCt,aC] at h
   have hx:=aF h.1
   subst hx
   cases o with
   | zero=>simp
   | succ o =>
     rw[List.getElem?_cons_succ,aBz h.2 (by omega)]
     congr 1
     omega
theorem gK {a:Act} {st cR:St} {l om:List Nat} (h:RR Γ S β a w n st) (hk:st.keep l om=some cR):RR Γ S (gA β om) a w n cR:=by
 unfold St.keep at hk
 dsimp only at hk
 obtain ⟨hg,hk⟩:=bS hk
 simp only[aA] at hk
 subst hk
 simp only[aC] at hg
 obtain ⟨hg,hn,hst⟩:=hg
 have get':∀ t,St.get ⟨l.map fun t=>(t,(st.get t).kW om),om.map fun o=>(st.cD.getD o .dead).kW om,st.gd.filter (fun p=>l.any (Nat.beq p.1)),st.h⟩ t=bif l.any (Nat.beq t) then (st.get t).kW om else .c .bot :=
  fun t=>aCS (fun t=>(st.get t).kW om) t l
 have aQy:∀ t,St.oQ ⟨l.map fun t=>(t,(st.get t).kW om),om.map fun o=>(st.cD.getD o .dead).kW om,st.gd.filter (fun p=>l.any (Nat.beq p.1)),st.h⟩ t=bif l.any (Nat.beq t) then st.oQ t else []:=by
  intro t
  unfold St.oQ
  simp only
  rw[kU (fun i=>l.any (Nat.beq i))]
 have hkeep:∀ t,l.any (Nat.beq t)=true→∀ q∈st.oQ t,l.any (Nat.beq q.1)=true:=by
  intro t ht q hq
  -- the guard of t lies in what is kept
  have:∃ p∈st.gd.filter (fun p=>l.any (Nat.beq p.1)),q∈p.2:=by
   have hq':q∈St.oQ ⟨l.map fun t=>(t,(st.get t).kW om),om.map fun o=>(st.cD.getD o .dead).kW om,st.gd.filter (fun p=>l.any (Nat.beq p.1)),st.h⟩ t:=by
    rw[aQy t,ht,cond_true];exact hq
   exact aJM hq'
  obtain ⟨p,hp,hqp⟩:=this
  rw[aK] at hg
  have:=hg p hp
  rw[aK] at this
  exact this q hqp
 have hold:∀ t,l.any (Nat.beq t)=true→(St.holds ⟨l.map fun t=>(t,(st.get t).kW om),om.map fun o=>(st.cD.getD o .dead).kW om,st.gd.filter (fun p=>l.any (Nat.beq p.1)),st.h⟩ (st.oQ t)↔st.holds (st.oQ t)):=by
  intro t ht
  unfold St.holds
  constructor
  ·intro hh q hq
   have:=hh q hq
   rw[get' q.1,hkeep t ht q hq,cond_true] at this
   exact aM9 this
  ·intro hh q hq
   rw[get' q.1,hkeep t ht q hq,cond_true,hh q hq]
   rfl
 refine ⟨h.core.kW hn,fun t hh=>?_,fun t hh=>?_,h.size,h.defers,fun o k ho hB=>?_⟩
 ·rw[get' t]
  cases ht:l.any (Nat.beq t) with
  | false=>trivial
  | true =>
    rw[cond_true]
    rw[aQy t,ht,cond_true,hold t ht] at hh
    exact D.n8 (h.tm t hh)
 ·cases ht:l.any (Nat.beq t) with
  | false =>
    rw[aQy t,ht,cond_false] at hh
    exact absurd (fun q hq=>by cases hq) hh
  | true =>
    rw[aQy t,ht,cond_true,hold t ht] at hh
    exact h.un t hh
 ·have:=aBz hst ho
  rw[Nat.zero_add] at this
  simp only[gA,this,Option.bind_some]
  exact h.hand o k ho hB
end
def bW {α:Type}:List Bool→Option α→Option α
 | [],m=>m
 | v::vs,m=>if v=true then bW vs m else none
theorem fX {α:Type}:∀ {vs:List Bool} {m:Option α} {x:α},bW vs m=some x→(∀ b∈vs,b=true)∧m=some x
 | [],_,_,h=>⟨(fun b hb=>by cases hb),h⟩
 | v::vs,m,x,h=>by
   unfold bW at h
   split at h
   ·rename_i hv
    obtain ⟨h1,h2⟩:=fX h
    refine ⟨fun b hb=>?_,h2⟩
    rcases bE.1 hb with rfl | hb
    ·exact hv
    ·exact h1 b hb
   ·cases h
def bM {A T U:Type} (m:Option (A ⊕ T)) (f:T→Option (A ⊕ U)):Option (A ⊕ U) :=
 match m with
 | none=>none
 | some (.inl a)=>some (.inl a)
 | some (.inr t)=>f t
def bL {A T:Type} (m:Option ((T ⊕ A) ⊕ T)):Option (A ⊕ T) :=
 match m with
 | none=>none
 | some (.inl (.inl t))=>some (.inr t)
 | some (.inl (.inr a))=>some (.inl a)
 | some (.inr t)=>some (.inr t)
def iter {A T:Type}:Nat→(T→Option (A ⊕ T))→T→Option A
 | 0,_,_=>none
 | k+1,f,t =>
   match f t with
   | none=>none
   | some (.inl a)=>some a
   | some (.inr t')=>iter k f t'
inductive Ex where
 | ret
 | exit (id:Nat)
def Ex.out:Ex→Exit
 | .ret=>.ret
 | .exit id=>.exit id
def Post (Γ:lI) (n:Nat) {A T:Type} (go:T→St) (ab:A→Ex × St) (x:A ⊕ T):Exit→Act→World→Prop:=fun e a w =>
 match x with
 | .inl t=>e=(ab t).1.out∧∃ S β,RR Γ S β a w n (ab t).2
 | .inr t=>e = .normal∧∃ S β,RR Γ S β a w n (go t)
def wpL (P:Program):List Code→(Exit→Act→World→Prop)→Act→World→Prop
 | [],Q,a,w=>Q .normal a w
 | c::cs,Q,a,w=>c.wp P (Exit.then (wpL P cs Q) Q) a w
def Ref (P:Program) (n:Nat) {A T:Type} (cs:List Code) (st:St) (m:Option (A ⊕ T)) (go:T→St) (ab:A→Ex × St):Prop :=
 ∀ Γ S β a w,RR Γ S β a w n st→∀ x,m=some x→wpL P cs (Post Γ n go ab x) a w
def cY (P:Program) (n:Nat) (ops:Array Oper) {A T:Type} (l:List Oper) (cs:List Code) (st:St) (m:Option (A ⊕ T)) (go:T→St) (ab:A→Ex × St):Prop :=
 ∀ Γ S β a w,RR Γ S β a w n st→∀ x,m=some x→wpList P ops (Exit.then (wpL P cs (Post Γ n go ab x)) (Post Γ n go ab x)) l a w
section
variable {P:Program} {n:Nat} {A T U:Type} {go:T→St} {ab:A→Ex × St} {st:St} {m:Option (A ⊕ T)} {cs:List Code}
theorem Ref.region {id:Nat} {ops:Array Oper} (h:cY P n ops ops.toList cs st m go ab):Ref P n (.region id ops false::cs) st m go ab :=
 fun Γ S β a w hr x hx=>wp_region_list (h Γ S β a w hr x hx)
theorem cY.ev (j:Nat) (keep om:List Nat) {ops:Array Oper} {l:List Oper} {vs:List Bool} {cR:St}
 (he:iR P n ops (l.take j) st keep om=some (vs,cR)) (h:cY P n ops (l.drop j) cs cR m go ab):cY P n ops l cs st (bW vs m) go ab:=by
 intro Γ S β a w hr x hx
 obtain ⟨hvs,hm⟩:=fX hx
 unfold iR at he
 split at he
 ·rename_i vs2 rF h2
  cases hk:rF.keep keep om with
  | none=>rw[hk] at he;cases he
  | some st3 =>
    rw[hk] at he
    simp only[Option.map_some,aA,aI] at he
    obtain ⟨rfl,rfl⟩:=he
    have:=vQ (Q:=Exit.then (wpL P cs (Post Γ n go ab x)) (Post Γ n go ab x)) (rest:=l.drop j) hr h2 hvs fun a' w' S' β' h'=>h Γ S' (gA β' om) a' w' (gK h' hk) x hm
    rwa [List.take_append_drop] at this
 ·cases he
theorem cY.nil {ops:Array Oper} (h:Ref P n cs st m go ab):cY P n ops [] cs st m go ab :=
 fun Γ S β a w hr x hx=>h Γ S β a w hr x hx
theorem Ref.nil {t:T} (h:go t=st):Ref P n [] st (some (.inr t)) go ab:=by
 intro Γ S β a w hr x hx
 simp only[aA] at hx
 subst hx
 exact ⟨rfl,S,β,by rw[h];exact hr⟩
theorem Ref.seq {x y:Code} (h:Ref P n (x::y::cs) st m go ab):Ref P n (.seq x y::cs) st m go ab:=by
 intro Γ S β a w hr q hq
 refine wp_seq (Code.wp_mono (fun e a w he=>?_) (h Γ S β a w hr q hq))
 cases e <;> exact he
theorem Ref.skip (h:Ref P n cs st m go ab):Ref P n (.skip::cs) st m go ab :=
 fun Γ S β a w hr x hx=>wp_skip (h Γ S β a w hr x hx)
theorem Ref.ret {t:A} (h:ab t=(.ret,st)):Ref P n (.ret::cs) st (some (.inl t)) go ab:=by
 intro Γ S β a w hr x hx
 simp only[aA] at hx
 subst hx
 refine wp_ret ?_
 show Post Γ n go ab (.inl t) .ret a w
 simp only[Post,h]
 exact ⟨rfl,S,β,hr⟩
theorem Ref.exit {id:Nat} {t:A} (h:ab t=(.exit id,st)):Ref P n (.exit id::cs) st (some (.inl t)) go ab:=by
 intro Γ S β a w hr x hx
 simp only[aA] at hx
 subst hx
 refine wp_exit ?_
 show Post Γ n go ab (.inl t) (.exit id) a w
 simp only[Post,h]
 exact ⟨rfl,S,β,hr⟩
theorem aCl {Γ:lI} {S:Mem} {β:dK} {a:Act} {w:World} (hr:RR Γ S β a w n st) {c:Operand} {b:Bool} (hg:st.gd=[]) (h:st.lv c = .c (.val (.bool b))):a.eval c = .bool b:=by
 have:=iL hr (g:=[]) (fun q hq=>by cases hq) c
 have hs:st.see []=st:=by unfold St.see;rw[hg];rfl
 rw[hs,h] at this
 exact this
theorem Ref.cond {c:Operand} {x y:Code} {b:Bool} {m1 m2:Option (A ⊕ T)} (hb:st.lv c = .c (.val (.bool b))) (hg:st.gd=[]) (h1:b=true→Ref P n (x::cs) st m1 go ab) (h2:b=false→Ref P n (y::cs) st m2 go ab) :
 Ref P n (.cond c x y::cs) st (if b=true then m1 else m2) go ab:=by
 intro Γ S β a w hr q hq
 have he:=aCl hr hg hb
 refine wp_cond he ?_
 cases b with
 | true =>
   rw[aH rfl] at hq
   exact h1 rfl Γ S β a w hr q hq
 | false =>
   rw[aG (by simp)] at hq
   exact h2 rfl Γ S β a w hr q hq
theorem Ref.bind {x:Code} {w9:U→St} {m1:Option (A ⊕ U)} {m2:U→Option (A ⊕ T)} (h1:Ref P n [x] st m1 w9 ab) (h2:∀ t,Ref P n cs (w9 t) (m2 t) go ab) :
 Ref P n (x::cs) st (bM m1 m2) go ab:=by
 intro Γ S β a w hr q hq
 cases hm:m1 with
 | none=>rw[hm] at hq;cases hq
 | some z =>
   rw[hm] at hq
   refine Code.wp_mono (fun e a' w' he=>?_) (h1 Γ S β a w hr z hm)
   cases z with
   | inl t =>
     simp only[bM,aA] at hq
     subst hq
     have he':Post Γ n w9 ab (.inl t) e a' w':=by
      cases e <;> exact he
     cases e with
     | normal =>
       have:=he'.1
       cases hx:(ab t).1 <;> rw[hx] at this <;> cases this
     | _=>exact he'
   | inr u =>
     simp only[bM] at hq
     have he':Post Γ n w9 ab (.inr u) e a' w':=by
      cases e <;> exact he
     obtain ⟨rfl,S',β',hr'⟩:=he'
     exact h2 u Γ S' β' a' w' hr' q hq
theorem Ref.block {id:Nat} {c:Code} {U:Type} {w9:U→St} {m1:Option ((U ⊕ A) ⊕ U)} {m2:U→Option (A ⊕ T)}
 (h1:Ref P n [c] st m1 w9 (fun x=>match x with | .inl t=>(.exit id,w9 t) | .inr a=>ab a)) (hid:∀ a,(ab a).1≠.exit id)
 (h2:∀ t,Ref P n cs (w9 t) (m2 t) go ab):Ref P n (.block id c::cs) st (bM (bL m1) m2) go ab:=by
 intro Γ S β a w hr q hq
 cases hm:m1 with
 | none=>rw[hm] at hq;cases hq
 | some z =>
   rw[hm] at hq
   refine wp_block (Code.wp_mono (fun e a' w' he=>?_) (h1 Γ S β a w hr z hm))
   have he':Post Γ n w9 (fun x=>match x with | .inl t=>(.exit id,w9 t) | .inr a=>ab a) z e a' w':=by
    cases e <;> exact he
   cases z with
   | inl t =>
     cases t with
     | inl u =>
       simp only[bL,bM] at hq
       obtain ⟨rfl,S',β',hr'⟩:=he'
       show Exit.inBlock id _ (.exit id) a' w'
       simp only[Exit.inBlock,if_true]
       exact h2 u Γ S' β' a' w' hr' q hq
     | inr t =>
       simp only[bL,bM,aA] at hq
       subst hq
       obtain ⟨yK,S',β',hr'⟩:=he'
       have yK:e=(ab t).1.out:=yK
       have tI:Post Γ n go ab (.inl t) e a' w':=⟨yK,S',β',hr'⟩
       cases hx:(ab t).1 with
       | ret =>
         rw[hx] at yK
         subst yK
         exact tI
       | exit id' =>
         rw[hx] at yK
         subst yK
         show Exit.inBlock id _ (.exit id') a' w'
         simp only[Exit.inBlock]
         rw[aG (fun e=>hid t (by rw[hx,e]))]
         exact tI
   | inr u =>
     simp only[bL,bM] at hq
     obtain ⟨rfl,S',β',hr'⟩:=he'
     exact h2 u Γ S' β' a' w' hr' q hq
theorem aBA {body:Code} {hd:T→St} {f:T→Option (A ⊕ T)} {Γ:lI} {go:U→St} (hb:∀ t,Ref P n [body] (hd t) (f t) hd ab) :
 ∀ (k:Nat) (t:T) (x:A) (S:Mem) (β:dK) (a:Act) (w:World),RR Γ S β a w n (hd t)→iter k f t=some x→Code.rounds P body (Post Γ n go ab (.inl x)) k a w
 | 0,t,x,S,β,a,w,hr,h=>by cases h
 | k+1,t,x,S,β,a,w,hr,h=>by
   unfold iter at h
   rw[rounds_succ]
   cases hf:f t with
   | none=>rw[hf] at h;cases h
   | some z =>
     rw[hf] at h
     refine Code.wp_mono (fun e a' w' he=>?_) (hb t Γ S β a w hr z hf)
     have he':Post Γ n hd ab z e a' w':=by
      cases e <;> exact he
     cases z with
     | inl y =>
       simp only[aA] at h
       subst h
       obtain ⟨yK,S',β',hr'⟩:=he'
       have tI:Post Γ n go ab (.inl y) e a' w':=⟨yK,S',β',hr'⟩
       cases hx:(ab y).1 <;> (rw[hx] at yK;subst yK;exact tI)
     | inr t' =>
       obtain ⟨rfl,S',β',hr'⟩:=he'
       exact aBA hb k t' x S' β' a' w' hr' h
theorem Ref.loop {body:Code} {hd:U→St} {f:U→Option (A ⊕ U)} (k:Nat) (t0:U) (h0:hd t0=st) (hb:∀ t,Ref P n [body] (hd t) (f t) hd ab) :
 Ref P n (.loop body::cs) st ((iter k f t0).map .inl) go ab:=by
 intro Γ S β a w hr q hq
 cases hi:iter k f t0 with
 | none=>rw[hi] at hq;cases hq
 | some x =>
   rw[hi] at hq
   simp only[Option.map_some,aA] at hq
   subst hq
   subst h0
   refine Code.wp_mono (fun e a' w' he=>?_) (wp_loop_rounds k (aBA (go:=go) hb k t0 x S β a w hr hi))
   obtain ⟨yK,S',β',hr'⟩:=he
   have tI:Post Γ n go ab (.inl x) e a' w':=⟨yK,S',β',hr'⟩
   cases hx:(ab x).1 <;> (rw[hx] at yK;subst yK;exact tI)
end
end Go.Dl

namespace Go.Dl
variable [eC]
inductive hU {α β:Type} (R:α→β→Prop):List α→List β→Prop where
 | nil:hU R [] []
 | cons {a:α} {b:β} {l:List α} {l':List β}:R a b→hU R l l'→hU R (a::l) (b::l')
theorem hU.length_eq {α β:Type} {R:α→β→Prop}:∀ {l:List α} {l':List β},hU R l l'→l.length=l'.length
 | _,_,.nil=>rfl
 | _,_,.cons _ h=>by simp [h.length_eq]
def eD (c c':C):Prop:=∀ S β v,cW S β c v→cW S β c' v
def eG (d d':D):Prop:=∀ S β v,dU S β d v→dU S β d' v
def OLe (x x':Obj):Prop:=x.live=x'.live∧∀ S β w o,tY S β w o x→tY S β w o x'
def aQA (n:Nat) (st cR:St):Prop:=∀ Γ S β a w,RR Γ S β a w n st→RR Γ S β a w n cR
section
variable {P:Program} {n:Nat} {A T U:Type} {go:T→St} {ab:A→Ex × St} {st cR:St} {m:Option (A ⊕ T)} {cs:List Code}
theorem Ref.keep (l om:List Nat) (hk:st.keep l om=some cR) (h:Ref P n cs cR m go ab):Ref P n cs st m go ab :=
 fun Γ S β a w hr x hx=>h Γ S _ a w (gK hr hk) x hx
theorem cY.keep {ops:Array Oper} {l:List Oper} (lt om:List Nat) (hk:st.keep lt om=some cR) (h:cY P n ops l cs cR m go ab):cY P n ops l cs st m go ab :=
 fun Γ S β a w hr x hx=>h Γ S _ a w (gK hr hk) x hx
theorem eD.refl (c:C):eD c c:=fun _ _ _ h=>h
theorem eG.refl (d:D):eG d d:=fun _ _ _ h=>h
theorem eD.tree {w m m':Nat} {g g':Nat→Nat→C} (hm:m=m') (h:∀ i j,i<m→j<w→eD (g i j) (g' i j)):eD (.tree w m g) (.tree w m' g'):=by
 subst hm
 rintro S β v ⟨a,cap,h1,h2,h3,h4⟩
 refine ⟨a,cap,h1,h2,h3,?_⟩
 rcases h4 with h4 | ⟨b,off,h5,h6⟩
 ·exact .inl h4
 ·refine .inr ⟨b,off,h5,fun i j hi hj=>?_⟩
  obtain ⟨u,hu,hr⟩:=h6 i j hi hj
  exact ⟨u,hu,h i j hi hj _ _ _ hr⟩
theorem OLe.row {e w m m':Nat} {g g':Nat→Nat→C} (hm:m=m') (h:∀ i j,i<m→j<w→eD (g i j) (g' i j)):OLe (.row e w m g) (.row e w m' g'):=by
 subst hm
 refine ⟨rfl,fun S β ww o ho=>?_⟩
 rcases ho with ho | ⟨k,h1,h2,h3,h4,h5,h6,cur,h7,h8,h9⟩
 ·exact .inl ho
 ·refine .inr ⟨k,h1,h2,h3,h4,h5,h6,cur,h7,h8,fun i j hi hj=>?_⟩
  obtain ⟨u,hu,ho1,hr⟩:=h9 i j hi hj
  exact ⟨u,hu,ho1,h i j hi hj _ _ _ hr⟩
theorem OLe.cells {l l':List C} (h:hU eD l l'):OLe (.cells l) (.cells l'):=by
 refine ⟨rfl,fun S β ww o ho=>?_⟩
 obtain ⟨k,h1,h2,h3,h4,us,h5,h6,h7⟩:=ho
 refine ⟨k,h1,by rw[h2,h.length_eq],h3,h4,us,h5,?_,h7⟩
 clear h2 h5 h7
 induction h generalizing us with
 | nil=>exact h6
 | cons hc _ ih =>
   obtain ⟨v,r,rfl,q1,q2⟩:=h6
   exact ⟨v,r,rfl,hc _ _ _ q1,ih r q2⟩
end
end Go.Dl

namespace Go.Dl
variable [eC]
def w8 (β:dK) (xs:List Obj):Nat→Prop:=fun b=>∃ o k x,xs[o]? = some x∧x.live=true∧β o=some (some k)∧k.b=b
theorem Core.inv {Γ:lI} {S:Mem} {β:dK} {w:World} {xs:List Obj} (h:Core Γ S β w xs):eC.I w :=
 eC.keep _ _ h.frame.size (fun b hb=>h.frame.block b (bB hb (eC.size _ h.frame.inv)) fun hM=>absurd (h.frame.aEo b hM) (by omega)) h.frame.inv
theorem Core.aGz {Γ:lI} {S:Mem} {β:dK} {w:World} {xs:List Obj} (h:Core Γ S β w xs):∀ b,w8 β xs b→eC.N≤b:=by
 rintro b ⟨o,k,x,hx,hl,hk,rfl⟩
 have hm:=(h.mine o k x hx hl hk).2
 have hz:=eC.size _ h.frame.inv
 rcases aY k.b Γ.w.heap.size with h1 | h1
 ·exact h.frame.aEo _ (hm h1)
 ·omega
def bR (P:Program) (f:FuncId) {R:Type} (args:List D) (xs:List Obj) (m:Option R) (res:R→D) (out:R→List Obj):Prop :=
 ∀ S β w vs,Core ⟨S,w,w8 β xs,β⟩ S β w xs→gG S β args vs→∀ r,m=some r →
   Calls P f vs.toArray w fun e w'=>∃ v S' β',e = .returned v∧dU S' β' (res r) v∧(∀ o k,o<xs.length→β o=some k→β' o=some k)∧Core ⟨S,w,w8 β xs,β⟩ S' β' w' (out r)
def bU {R:Type} (m:Option (R ⊕ R)):Option R :=
 match m with
 | none=>none
 | some (.inl r)=>some r
 | some (.inr r)=>some r
def aFx:List D→Nat→List (Nat × D)
 | [],_=>[]
 | d::ds,i=>(i,d)::aFx ds (i+1)
def vR (a:Act):ResultVar→Sem Value
 | .tmp t=>pure (a.tmps.getD t undef)
 | .cell q t=>do loadVar t (← asAddr (a.tmps.getD q undef))
def aLv (P:Program) (st:St):ResultVar→Option D
 | .tmp t=>some (st.get t)
 | .cell q t =>
   bif (P.underlying t).isSome then
    (match st.get q with
    | .c (.ptr o i j)=>(aA1 P t (.c (.ptr o i j)) st.cD).map fun r=>r.2.1
    | _=>none)
   else none
def aLw (P:Program) (st:St):List ResultVar→Option (List D1)
 | []=>some []
 | v::r=>(match (aLv P st v).bind D1.ofD,aLw P st r with
   | some d,some l=>some (d::l)
   | _,_=>none)
def aQB (P:Program) (st:St) (rs:List ResultVar):Option D :=
 match rs with
 | [v]=>aLv P st v
 | rs=>(aLw P st rs).map .iV
section
variable {P:Program} {n:Nat}
theorem aCT:∀ (ds:List D) (i t:Nat),dR (D.c .bot) (aFx ds i) t=if i≤t∧t<i+ds.length then ds.getD (t - i) (.c .bot) else .c .bot
 | [],i,t=>by simp only[aFx,dR,List.length_nil];rw[aG (by omega)]
 | d::ds,i,t=>by
   simp only[aFx,dR,List.length_cons]
   cases hb:Nat.beq i t with
   | true =>
     have:=aF hb
     subst this
     rw[cond_true,aH (by omega)]
     simp
   | false =>
     have hne:i≠t:=by
      intro e
      subst e
      simp at hb
     rw[cond_false,aCT ds (i+1) t]
     by_cases h:i+1≤t∧t<i+1+ds.length
     ·rw[aH h,aH (by omega),show t - i=(t - (i+1))+1 by omega,List.getD_cons_succ]
     ·rw[aG h,aG (by omega)]
theorem gG.get {S:Mem} {β:dK}:∀ {ds:List D} {vs:List Value},gG S β ds vs→vs.length=ds.length∧∀ (i:Nat) (d:D),ds[i]? = some d→∃ v,vs[i]? = some v∧dU S β d v
 | [],_,h=>by obtain rfl:=h;exact ⟨rfl,fun i d hd=>by simp at hd⟩
 | _::_,_,⟨v,r,h1,h2,h3⟩=>by
   subst h1
   obtain ⟨hl,hg⟩:=gG.get h3
   refine ⟨by simp [hl],fun i d hd=>?_⟩
   cases i with
   | zero=>simp only[List.getElem?_cons_zero,aA] at hd;subst hd;exact ⟨v,rfl,h2⟩
   | succ i=>simp only[List.getElem?_cons_succ] at hd ⊢;exact hg i d hd
theorem aCU {Γ:lI} {S:Mem} {β:dK} {a:Act} {w:World} {st:St} (h:RR Γ S β a w n st) (hg:st.gd=[]) {v:ResultVar} {d:D} (hv:aLv P st v=some d) :
 ∃ u,(vR a v).run P w = .ok u w∧dU S β d u:=by
 have tm:∀ t,dU S β (st.get t) (a.tmps.getD t undef):=fun t=>h.tm t (by unfold St.oQ;rw[hg];intro q hq;cases hq)
 cases v with
 | tmp t =>
   simp only[aLv,aA] at hv
   subst hv
   exact ⟨_,rfl,tm t⟩
 | cell q t =>
   simp only[aLv] at hv
   obtain ⟨hu,hv⟩:=bS hv
   split at hv
   ·rename_i o i j hq
    cases he:aA1 P t (.c (.ptr o i j)) st.cD with
    | none=>rw[he] at hv;cases hv
    | some r =>
      rw[he] at hv
      simp only[Option.map_some,aA] at hv
      subst hv
      have hq':=tm q
      rw[hq] at hq'
      obtain ⟨u,hrun,hd,_⟩:=zR (vs:=r.1) (d':=r.2.1) (xs':=r.2.2) (bD.1 hu) h.core hq' he
      refine ⟨u,?_,hd⟩
      have hr:=hrun w (.inr (Up.refl w))
      obtain ⟨k,_,_,_,hp⟩:=hq'
      rw[hp] at hr
      simp only[vR,hp]
      exact hr
   ·cases hv
theorem aCV {Γ:lI} {S:Mem} {β:dK} {a:Act} {w:World} {st:St} (h:RR Γ S β a w n st) (hg:st.gd=[]):∀ {rs:List ResultVar} {l:List D1},aLw P st rs=some l →
 ∃ us,(rs.mapM (vR a)).run P w = .ok us w∧tW S β l us∧us.length=rs.length
 | [],l,hl=>by
   simp only[aLw,aA] at hl
   subst hl
   exact ⟨[],rfl,rfl,rfl⟩
 | v::r,l,hl=>by
   unfold aLw at hl
   split at hl
   ·rename_i d l' hd hr
    simp only[aA] at hl
    subst hl
    obtain ⟨us,h1,h2,h3⟩:=aCV h hg hr
    cases hv:aLv P st v with
    | none=>rw[hv] at hd;cases hd
    | some dd =>
      rw[hv,Option.bind_some] at hd
      obtain ⟨u,hu,hdu⟩:=aCU h hg hv
      refine ⟨u::us,?_,⟨_,_,rfl,?_,h2⟩,by simp [h3]⟩
      ·rw[List.mapM_cons,Sem.run_bind,hu,Result.andThen_ok,Sem.run_bind,h1]
       rfl
      ·cases dd with
       | c x=>simp only[D1.ofD,aA] at hd;subst hd;exact hdu
       | agg x=>simp only[D1.ofD,aA] at hd;subst hd;exact hdu
       | iV x=>cases hd
   ·cases hl
theorem aBC {fn:Func} {v:ResultVar} (hrs:fn.results = #[v]) (a:Act) (w:World) {u:Value} (hu:(vR a v).run P w = .ok u w):(results fn a.tmps).run P w = .ok u w:=by
 have hres:results fn a.tmps=(do
  let vs ← fn.results.mapM (vR a)
  pure (if h:vs.size=1 then vs[0] else .tuple vs)):=by
  unfold results
  congr 1
 rw[hres,hrs,Sem.run_bind,Array.mapM_eq_mapM_toList,Sem.run_map]
 show (((List.mapM (vR a) [v]).run P w).andThen _).andThen _=_
 rw[List.mapM_cons,Sem.run_bind,hu]
 rfl
theorem aIq {Γ:lI} {S:Mem} {β:dK} {a:Act} {w:World} {st:St} (h:RR Γ S β a w n st) (hg:st.gd=[]) {fn:Func} {d:D} (hr:aQB P st fn.results.toList=some d) :
 ∃ v,(results fn a.tmps).run P w = .ok v w∧dU S β d v:=by
 unfold aQB at hr
 split at hr
 ·rename_i t ht
  have hrs:fn.results = #[t]:=by apply Array.ext';simpa using ht
  obtain ⟨u,hu,hd⟩:=aCU h hg hr
  exact ⟨u,aBC hrs a w hu,hd⟩
 ·rename_i rs hne
  cases hl:aLw P st fn.results.toList with
  | none=>rw[hl] at hr;cases hr
  | some l =>
    rw[hl] at hr
    simp only[Option.map_some,aA] at hr
    subst hr
    obtain ⟨us,h1,h2,h3⟩:=aCV (P:=P) h hg hl
    refine ⟨.tuple us.toArray,?_,us,rfl,h2⟩
    have hres:results fn a.tmps=(do
     let vs ← fn.results.mapM (vR a)
     pure (if h:vs.size=1 then vs[0] else .tuple vs)):=by
     unfold results
     congr 1
    rw[hres,Sem.run_bind]
    have:(fn.results.mapM (vR a)).run P w = .ok us.toArray w:=by
     rw[Array.mapM_eq_mapM_toList,Sem.run_map,h1]
     rfl
    rw[this,Result.andThen_ok]
    rw[dif_neg]
    ·rfl
    ·intro hone
     have hlen:fn.results.toList.length=1:=by rw[← h3];simpa using hone
     obtain ⟨x,hx⟩:=List.length_eq_one_iff.1 hlen
     exact hne x hx
theorem bR.intro {f:FuncId} {fn:Func} {c:Code} {R:Type} {args:List D} {xs:List Obj} {m:Option (R ⊕ R)} {rs:R→St} {res:R→D} {out:R→List Obj}
 (hf:P.funcs[f]? = some fn) (hb:fn.body=some c) (hn:Nat.ble args.length fn.ntmps=true)
 (aTE:Ref P fn.ntmps [c] ⟨aFx args 0,xs,[],xs.length⟩ m rs (fun r=>(.ret,rs r)))
 (hres:∀ r,aQB P (rs r) fn.results.toList=some (res r)) (hout:∀ r,(rs r).cD=out r) (hgd:∀ r,(rs r).gd=[]) (hh:∀ r,(rs r).h=xs.length) :
 bR P f args xs (bU m) res out:=by
 intro S β w vs hc hv r hr
 have hn:=aT hn
 obtain ⟨hvl,hvg⟩:=hv.get
 refine calls_of_wp hf hb ?_
 have hstart:RR ⟨S,w,w8 β xs,β⟩ S β { tmps:=vs.toArray++Array.replicate (fn.ntmps - vs.toArray.size) undef,defers:=[] } w fn.ntmps ⟨aFx args 0,xs,[],xs.length⟩:=by
  refine ⟨hc,fun t _=>?_,fun t ht=>absurd (fun q hq=>by cases hq) ht,by simp;omega,rfl,fun o k _ h=>h⟩
  unfold St.get
  simp only
  rw[aCT]
  by_cases ht:t<args.length
  ·rw[aH (by omega)]
   obtain ⟨u,hu,hru⟩:=hvg t _ (aD ht)
   have e1:args.getD (t - 0) (.c .bot)=args[t]:=by simp [List.getD,aD ht]
   have e2:(vs.toArray++Array.replicate (fn.ntmps - vs.toArray.size) undef).getD t undef=u:=by
    rw[aL,Array.getElem?_append_left (by simp;omega)]
    simp [hu]
   rw[e1,e2];exact hru
  ·rw[aG (by omega)];trivial
 have key:∀ z,m=some z→(match z with | .inl r=>r | .inr r=>r)=r→c.wp P (bodyPost P fn fun e w'=>∃ v S' β',e = .returned v∧dU S' β' (res r) v∧(∀ o k,o<xs.length→β o=some k→β' o=some k)∧Core ⟨S,w,w8 β xs,β⟩ S' β' w' (out r))
  { tmps:=vs.toArray++Array.replicate (fn.ntmps - vs.toArray.size) undef,defers:=[] } w:=by
  intro z hz hzr
  refine Code.wp_mono (fun e a' w' he=>?_) (aTE _ S β _ w hstart z hz)
  have he':Post ⟨S,w,w8 β xs,β⟩ fn.ntmps rs (fun r=>(.ret,rs r)) z e a' w':=by
   cases e <;> exact he
  have fin:∀ r',r'=r→(∃ S' β',RR ⟨S,w,w8 β xs,β⟩ S' β' a' w' fn.ntmps (rs r'))→a'.defers=[]∧∃ v,(results fn a'.tmps).run P w' = .ok v w' ∧
   ∃ v' S' β',Ending.returned v = .returned v'∧dU S' β' (res r) v'∧(∀ o k,o<xs.length→β o=some k→β' o=some k)∧Core ⟨S,w,w8 β xs,β⟩ S' β' w' (out r):=by
   rintro r' rfl ⟨S',β',hr'⟩
   obtain ⟨v,hv1,hv2⟩:=aIq (P:=P) hr' (hgd r') (hres r')
   refine ⟨hr'.defers,v,hv1,v,S',β',rfl,hv2,fun o k ho hk=>hr'.hand o k (by rw[hh r'];exact ho) hk,?_⟩
   rw[← hout r'];exact hr'.core
  cases z with
  | inl r' =>
    obtain ⟨rfl,hex⟩:=he'
    exact fin r' hzr hex
  | inr r' =>
    obtain ⟨rfl,hex⟩:=he'
    exact fin r' hzr hex
 cases m with
 | none=>cases hr
 | some z =>
   cases z with
   | inl r'=>simp only[bU,aA] at hr;subst hr;exact key _ rfl rfl
   | inr r'=>simp only[bU,aA] at hr;subst hr;exact key _ rfl rfl
theorem bR.congr {f:FuncId} {R:Type} {args:List D} {xs:List Obj} {m m':Option R} {res:R→D} {out:R→List Obj} (h:bR P f args xs m res out) (he:m'=m):bR P f args xs m' res out:=he ▸ h
end
end Go.Dl

namespace Go.Dl
variable [eC]
def yL (om:List Nat) (base i:Nat):Nat:=(om[i]?).getD (base+(i - om.length))
def C.oU (om:List Nat) (base:Nat):C→C
 | .own o n=>.own (yL om base o) n
 | .ptr o i j=>.ptr (yL om base o) i j
 | .self t b o=>.self t b (yL om base o)
 | .map o=>.map (yL om base o)
 | .tail o lo n=>.tail (yL om base o) lo n
 | .opt b c=>.opt b (c.oU om base)
 | .iface b t c=>.iface b t (c.oU om base)
 | .cond b c=>.cond b (c.oU om base)
 | .func fn k cap =>
   let l:=(List.range k).map fun i=>(cap i).oU om base
   .func fn k fun i=>l.getD i .bot
 | c=>c
def D1.oU (om:List Nat) (base:Nat):D1→D1
 | .c x=>.c (x.oU om base)
 | .agg l=>.agg (l.map (C.oU om base))
def D.oU (om:List Nat) (base:Nat):D→D
 | .c x=>.c (x.oU om base)
 | .agg l=>.agg (l.map (C.oU om base))
 | .iV l=>.iV (l.map (D1.oU om base))
def Obj.oU (om:List Nat) (base:Nat):Obj→Obj
 | .cells l=>.cells (l.map (C.oU om base))
 | x=>x
def sQ (om:List Nat) (base:Nat) (out:List Obj):List Obj→Nat→List Obj
 | [],_=>[]
 | x::r,o=>((gH o om 0).elim x fun i=>(out.getD i .dead).oU om base)::sQ om base out r (o+1)
def oV (om:List Nat) (out:List Obj) (xs:List Obj):List Obj :=
 sQ om xs.length out xs 0++(out.drop om.length).map (Obj.oU om xs.length)
def aJS (k:Nat) (cap:Nat→C):List D:=(List.range k).map fun i=>.c (cap i)
def zX (st:St) (x:Operand) (args:List Operand) (om:List Nat):Option (FuncId × List D) :=
 match (st.see []).lv x with
 | .c (.func (.func f) k cap)=>some (f,(args.map (st.see []).lv).map (D.kW om)++(aJS k cap).map (D.kW om))
 | _=>none
def jQ (st:St) (om:List Nat):List Obj:=om.map fun o=>(st.cD.getD o .dead).kW om
def kY (P:Program) (f:FuncId):Bool :=
 match P.funcs[f]? with
 | some fn=>!(fn.name == "runtime.NumGoroutine") && fn.body.isSome
 | none=>false
section
variable {P:Program} {n:Nat} {A T R:Type} {go:T→St} {ab:A→Ex × St} {st:St} {cs:List Code}
theorem lN {f:FuncId} (h:kY P f=true) (vs:Array Value) (w:World):(callFunc f vs).run P w = .ok (.enter f vs) w:=by
 unfold kY at h
 unfold callFunc
 rw[Sem.run_bind,run_program,Result.andThen_ok]
 cases hf:P.funcs[f]? with
 | none=>rw[hf] at h;cases h
 | some fn =>
   rw[hf] at h
   simp only[aC,aP] at h
   obtain ⟨h1,h2⟩:=h
   have h3:fn.body.isNone=false:=by cases hb:fn.body <;> simp_all
   simp only[h1,h3,aN,if_false]
   rfl
theorem gG.append {S:Mem} {β:dK}:∀ {l m:List D} {us vs:List Value},gG S β l us→gG S β m vs→gG S β (l++m) (us++vs)
 | [],_,_,_,h,k=>by obtain rfl:=h;exact k
 | _::_,_,_,_,⟨v,r,h1,h2,h3⟩,k=>by subst h1;exact ⟨v,r++_,rfl,h2,gG.append h3 k⟩
theorem gG.kW {S:Mem} {β:dK} {om:List Nat}:∀ {l:List D} {us:List Value},gG S β l us→gG S (gA β om) (l.map (D.kW om)) us
 | [],_,h=>h
 | _::_,_,⟨v,r,h1,h2,h3⟩=>⟨v,r,h1,D.n8 h2,gG.kW h3⟩
theorem tJ {S:Mem} {β:dK} {fn:Fn} {k:Nat} {cap:Nat→C} {v:Value} (h:cW S β (.func fn k cap) v):∃ vs:Array Value,v = .func fn #[] vs∧gG S β (aJS k cap) vs.toList:=by
 obtain ⟨vs,h1,h2,h3⟩:=h
 refine ⟨vs,h1,?_⟩
 unfold aJS
 have key:∀ (l:List Nat) (us:List Value),us.length=l.length→(∀ (i j:Nat),l[i]? = some j→∃ u,us[i]? = some u∧cW S β (cap j) u)→gG S β (l.map fun i=>D.c (cap i)) us:=by
  intro l
  induction l with
  | nil=>intro us hl _;simpa [gG] using hl
  | cons x r ih =>
    intro us hl hh
    cases us with
    | nil=>simp at hl
    | cons u us =>
      refine ⟨u,us,rfl,?_,ih us (by simpa using hl) fun i j hij=>?_⟩
      ·obtain ⟨u',hu',hr⟩:=hh 0 x rfl
       simp only[List.getElem?_cons_zero,aA] at hu'
       subst hu';exact hr
      ·obtain ⟨u',hu',hr⟩:=hh (i+1) j (by simpa using hij)
       exact ⟨u',by simpa using hu',hr⟩
 refine key _ _ (by simp [h2]) fun i j hij=>?_
 have hi:i<k:=by
  rcases aY i k with h | h
  ·exact h
  ·rw[aW (by simpa using h)] at hij;cases hij
 rw[List.getElem?_range hi] at hij
 simp only[aA] at hij
 subst hij
 have hlt:i<vs.size:=by omega
 refine ⟨vs[i],by simp [hlt],?_⟩
 have:=h3 i hi
 rwa [aL,Array.getElem?_eq_getElem hlt,Option.getD_some] at this
theorem gG.aFz {Γ:lI} {S:Mem} {β:dK} {a:Act} {w:World} (h:RR Γ S β a w n st):∀ (l:List Operand),gG S β (l.map (st.see []).lv) (l.map a.eval)
 | []=>rfl
 | x::l=>⟨_,_,rfl,iL h (fun q hq=>by cases hq) x,gG.aFz h l⟩
def aA2 (β:dK) (om:List Nat) (base:Nat) (βc:dK):dK:=fun o =>
 match gH o om 0 with
 | some i=>βc i
 | none=>if o<base then β o else βc (om.length+(o - base))
theorem aA3:∀ {om:List Nat} {i k o:Nat},nS om=true→om[i]? = some o→gH o om k=some (k+i)
 | [],i,k,o,_,h=>by simp at h
 | x::r,i,k,o,hn,h=>by
   unfold gH
   cases i with
   | zero =>
     simp only[List.getElem?_cons_zero,aA] at h
     subst h
     simp
   | succ i =>
     simp only[List.getElem?_cons_succ] at h
     have hne:Nat.beq x o=false:=by
      cases hb:Nat.beq x o with
      | false=>rfl
      | true =>
        have:=aF hb
        subst this
        have:=yJ hn (i:=0) (j:=i+1) (o:=x) (by simp) (by simpa using h)
        omega
     simp only[nS,aC] at hn
     rw[hne,cond_false,aA3 hn.2 h]
     congr 1
     omega
theorem aBD {om:List Nat} {o:Nat} (hall:∀ x∈om,x≠o) (k:Nat):gH o om k=none:=by
 induction om generalizing k with
 | nil=>rfl
 | cons x r ih =>
   unfold gH
   have hne:Nat.beq x o=false:=by
    cases hb:Nat.beq x o with
    | false=>rfl
    | true=>exact absurd (aF hb) (hall x (by simp))
   rw[hne,cond_false]
   exact ih (fun y hy=>hall y (by simp [hy])) _
theorem zY {β:dK} {om:List Nat} {base:Nat} {βc:dK} (hn:nS om=true) (hlt:∀ x∈om,x<base) (i:Nat):aA2 β om base βc (yL om base i)=βc i:=by
 unfold aA2 yL
 cases ho:om[i]? with
 | some o =>
   simp only[Option.getD_some]
   rw[aA3 hn ho]
   simp
 | none =>
   simp only[Option.getD_none]
   have hge:om.length≤i:=by
    rcases aY i om.length with h | h
    ·rw[aD h] at ho;cases ho
    ·exact h
   rw[aBD (fun x hx=>by have:=hlt x hx;omega)]
   simp only
   rw[aG (by omega)]
   congr 1
   omega
theorem C.mD {S:Mem} {β βc:dK} {om:List Nat} {base:Nat} (hb:∀ i,β (yL om base i)=βc i):∀ {c:C} {v:Value},cW S βc c v→cW S β (c.oU om base) v:=by
 intro c
 induction c with
 | own o m=>intro v hv;simp only[C.oU,cW,hb] at hv ⊢;exact hv
 | ptr o i j=>intro v hv;simp only[C.oU,cW,hb] at hv ⊢;exact hv
 | self t b o=>intro v hv;simp only[C.oU,cW,hb] at hv ⊢;exact hv
 | map o=>intro v hv;simp only[C.oU,cW,hb] at hv ⊢;exact hv
 | tail o lo n=>intro v hv;simp only[C.oU,cW,hb] at hv ⊢;exact hv
 | opt b c ih =>
   intro v hv
   simp only[C.oU,cW] at hv ⊢
   split at hv
   ·rename_i h;rw[aH h];exact ih hv
   ·rename_i h;rw[aG h];exact hv
 | iface b t c ih =>
   intro v hv
   simp only[C.oU,cW] at hv ⊢
   split at hv
   ·rename_i h;rw[aH h];obtain ⟨u,hu,hr⟩:=hv;exact ⟨u,hu,ih hr⟩
   ·rename_i h;rw[aG h];exact hv
 | func fn k cap ih =>
   rintro v ⟨vs,h1,h2,h3⟩
   refine ⟨vs,h1,h2,fun i hi=>?_⟩
   have:(((List.range k).map fun i=>(cap i).oU om base).getD i .bot)=(cap i).oU om base:=by
    simp [List.getD,hi]
   show cW S β (((List.range k).map fun i=>(cap i).oU om base).getD i .bot) _
   rw[this]
   exact ih i (h3 i hi)
 | cond b c ih =>
   intro v hv hbb
   exact ih (hv hbb)
 | _=>intro v hv;exact hv
theorem D1.mD {S:Mem} {β βc:dK} {om:List Nat} {base:Nat} (hb:∀ i,β (yL om base i)=βc i) {d:D1} {v:Value} (h:kX S βc d v):kX S β (d.oU om base) v:=by
 cases d with
 | c x=>exact C.mD hb h
 | agg l=>obtain ⟨vs,h1,h2⟩:=h;exact ⟨vs,h1,h2.map _ fun _ _ h=>C.mD hb h⟩
theorem D.mD {S:Mem} {β βc:dK} {om:List Nat} {base:Nat} (hb:∀ i,β (yL om base i)=βc i) {d:D} {v:Value} (h:dU S βc d v):dU S β (d.oU om base) v:=by
 cases d with
 | c x=>exact C.mD hb h
 | agg l=>obtain ⟨vs,h1,h2⟩:=h;exact ⟨vs,h1,h2.map _ fun _ _ h=>C.mD hb h⟩
 | iV l=>obtain ⟨vs,h1,h2⟩:=h;exact ⟨vs,h1,h2.map _ fun _ _ h=>D1.mD hb h⟩
theorem aGA {x:Obj} {om:List Nat} {base:Nat}:(x.oU om base).live=x.live:=by cases x <;> rfl
theorem tY.oU {S:Mem} {β βc:dK} {w:World} {om:List Nat} {base i:Nat} (hb:∀ i,β (yL om base i)=βc i) {x:Obj} (h:tY S βc w i x):tY S β w (yL om base i) (x.oU om base):=by
 cases x with
 | dead=>trivial
 | cells l =>
   obtain ⟨k,h1,h2,h3,h4,vs,h5,h6,h7⟩:=h
   exact ⟨k,by rw[hb];exact h1,by rw[h2];simp,h3,h4,vs,h5,h6.map _ fun _ _ h=>C.mD hb h,h7⟩
 | aB3 e bs =>
   obtain ⟨k,h1,h2⟩:=h
   exact ⟨k,by rw[hb];exact h1,h2⟩
 | map z has get =>
   obtain ⟨k,h1,h2⟩:=h
   exact ⟨k,by rw[hb];exact h1,h2⟩
 | row e wd m get =>
   rcases h with ⟨h1,h2⟩ | ⟨k,h1,h2⟩
   ·exact .inl ⟨by rw[hb];exact h1,h2⟩
   ·exact .inr ⟨k,by rw[hb];exact h1,h2⟩
theorem l6 {om:List Nat} {base:Nat} {out:List Obj}:∀ (xs:List Obj) (o:Nat),(sQ om base out xs o).length=xs.length
 | [],_=>rfl
 | _::r,o=>by simp [sQ,l6 r (o+1)]
theorem aCW {om:List Nat} {base:Nat} {out:List Obj}:∀ (xs:List Obj) (o q:Nat),(sQ om base out xs o)[q]? = (xs[q]?).map fun x=>(gH (o+q) om 0).elim x fun i=>(out.getD i .dead).oU om base
 | [],_,_=>by simp [sQ]
 | x::r,o,0=>by simp [sQ]
 | x::r,o,q+1=>by
   simp only[sQ,List.getElem?_cons_succ]
   rw[aCW r (o+1) q,show o+1+q=o+(q+1) by omega]
theorem nT {om:List Nat} {out xs:List Obj} (hlt:∀ x∈om,x<xs.length) {q:Nat} {y:Obj} (h:(oV om out xs)[q]? = some y) (hl:y.live=true) :
 (∃ i x,out[i]? = some x∧q=yL om xs.length i∧y=x.oU om xs.length∧x.live=true∧(i<om.length∨om.length≤i))∨(gH q om 0=none∧xs[q]? = some y∧q<xs.length):=by
 unfold oV at h
 rcases aY q xs.length with hq | hq
 ·rw[List.getElem?_append_left (by rw[l6];exact hq),aCW,Nat.zero_add] at h
  cases hx:xs[q]? with
  | none=>rw[hx] at h;cases h
  | some x =>
    rw[hx] at h
    simp only[Option.map_some,aA] at h
    cases hi:gH q om 0 with
    | none =>
      rw[hi] at h
      simp only[Option.elim] at h
      subst h
      exact .inr ⟨rfl,rfl,hq⟩
    | some i =>
      rw[hi] at h
      simp only[Option.elim] at h
      subst h
      rw[aGA] at hl
      obtain ⟨_,hom⟩:=kI hi
      simp only[Nat.sub_zero] at hom
      cases ho:out[i]? with
      | none=>simp [List.getD,ho,Obj.live] at hl
      | some x' =>
        left
        have hgd:out.getD i .dead=x':=by simp [List.getD,ho]
        rw[hgd] at hl
        refine ⟨i,x',ho,by simp [yL,hom],by rw[hgd],hl,?_⟩
        rcases aY i om.length with h | h
        ·exact .inl h
        ·exact .inr h
 ·rw[List.getElem?_append_right (by rw[l6];exact hq),l6,bA,List.getElem?_drop] at h
  cases ho:out[om.length+(q - xs.length)]? with
  | none=>rw[ho] at h;cases h
  | some x =>
    rw[ho] at h
    simp only[Option.map_some,aA] at h
    subst h
    rw[aGA] at hl
    left
    refine ⟨om.length+(q - xs.length),x,ho,?_,rfl,hl,.inr (by omega)⟩
    have:om[om.length+(q - xs.length)]? = none:=aW (by omega)
    simp only[yL,this,Option.getD_none]
    omega
theorem Core.after {Γ:lI} {S S':Mem} {β βc:dK} {w w':World} {xs out:List Obj} {om:List Nat} (h:Core Γ S β w xs) (hn:nS om=true) (hlt:∀ x∈om,x<xs.length)
 (hc:Core ⟨S,w,w8 (gA β om) (om.map fun o=>(xs.getD o .dead).kW om),gA β om⟩ S' βc w' out) (hB:∀ o k,o<om.length→gA β om o=some k→βc o=some k) :
 Core Γ S' (aA2 β om xs.length βc) w' (oV om out xs)∧lX β (aA2 β om xs.length βc):=by
 have s8:=fun i=>zY (β:=β) (βc:=βc) hn hlt i
 -- the blocks that are handed over
 have hM:∀ b,w8 (gA β om) (om.map fun o=>(xs.getD o .dead).kW om) b→∃ o k x,o∈om∧xs[o]? = some x∧x.live=true∧β o=some (some k)∧k.b=b:=by
  rintro b ⟨i,k,y,hy,hl,hk,hb⟩
  rw[bA] at hy
  cases ho:om[i]? with
  | none=>rw[ho] at hy;cases hy
  | some o =>
    rw[ho] at hy
    simp only[Option.map_some,aA] at hy
    subst hy
    rw[aGy] at hl
    cases hx:xs[o]? with
    | none=>simp [List.getD,hx,Obj.live] at hl
    | some x =>
      refine ⟨o,k,x,bH ho,hx,by simpa [List.getD,hx] using hl,?_,hb⟩
      simpa [gA,ho] using hk
 have hMΓ:∀ b,b<Γ.w.heap.size→¬ Γ.M b→¬ w8 (gA β om) (om.map fun o=>(xs.getD o .dead).kW om) b:=by
  intro b hb hnm hm
  obtain ⟨o,k,x,_,hx,hl,hk,rfl⟩:=hM b hm
  exact hnm ((h.mine o k x hx hl hk).2 hb)
 -- an object that is not handed over keeps its block
 have aFA:∀ o k x,gH o om 0=none→xs[o]? = some x→x.live=true→β o=some (some k)→¬ w8 (gA β om) (om.map fun o=>(xs.getD o .dead).kW om) k.b:=by
  intro o k x hi hx hl hk hm
  obtain ⟨o',k',x',ho',hx',hl',hk',hb⟩:=hM _ hm
  by_cases e:o'=o
  ·subst e
   obtain ⟨i,hi'⟩:=List.getElem?_of_mem ho'
   rw[aA3 hn hi'] at hi
   cases hi
  ·exact h.inj o' o k' k x' x hx' hx hl' hl hk' hk e hb
 have hle:lX β (aA2 β om xs.length βc):=by
  intro o k hk
  unfold aA2
  cases hi:gH o om 0 with
  | some i =>
    obtain ⟨_,hom⟩:=kI hi
    simp only[Nat.sub_zero] at hom
    have hil:i<om.length:=by
     rcases aY i om.length with h | h
     ·exact h
     ·rw[aW h] at hom;cases hom
    exact hB i k hil (by simpa [gA,hom] using hk)
  | none =>
    simp only
    rw[aH]
    ·exact hk
    ·rcases aY o xs.length with h1 | h1
     ·exact h1
     ·rw[h.out o h1] at hk;cases hk
 have hold:∀ o,gH o om 0=none→o<xs.length→aA2 β om xs.length βc o=β o:=by
  intro o hi ho
  unfold aA2
  rw[hi]
  simp only
  rw[aH ho]
 have aTG:∀ i k x,out[i]? = some x→x.live=true→βc i=some (some k)→k.b<w.heap.size→w8 (gA β om) (om.map fun o=>(xs.getD o .dead).kW om) k.b:=fun i k x hx hl hk=>(hc.mine i k x hx hl hk).2
 refine ⟨⟨?_,hc.holds,?_,?_,?_,?_,?_⟩,hle⟩
 ·refine ⟨hc.frame.os.trans h.frame.os,hc.frame.tape.trans h.frame.tape,hc.frame.output.trans h.frame.output,aV h.frame.size hc.frame.size,fun b hb hnm=>?_,fun b i hb hnm=>?_,h.frame.le.trans hc.frame.le,h.frame.aEo,h.frame.inv⟩
  ·exact (hc.frame.block b (bB hb h.frame.size) (hMΓ b hb hnm)).trans (h.frame.block b hb hnm)
  ·exact (hc.frame.mem b i (bB hb h.frame.size) (hMΓ b hb hnm)).trans (h.frame.mem b i hb hnm)
 ·intro q y hy
  cases hl:y.live with
  | false=>cases y <;> first | trivial | cases hl
  | true =>
    rcases nT hlt hy hl with ⟨i,x,hx,rfl,rfl,hxl,_⟩ | ⟨hi,hx,hq⟩
    ·exact (hc.cD i x hx).oU s8
    ·exact (h.cD q y hx).keep hc.frame.le hle fun k hl hk=>hc.frame.block k.b (h.mine q k y hx hl hk).1 (aFA q k y hi hx hl hk)
 ·intro q hq
  have hlen:(oV om out xs).length=xs.length+(out.length - om.length):=by
   unfold oV
   rw[aE,l6,List.length_map,bI]
  rw[hlen] at hq
  unfold aA2
  rw[aBD (fun x hx=>by have:=hlt x hx;omega)]
  simp only
  rw[aG (by omega)]
  exact hc.out _ (by omega)
 ·intro q q' k k' y y' hy hy' hl hl' hk hk' hne
  rcases nT hlt hy hl with ⟨i,x,hx,rfl,rfl,hxl,_⟩ | ⟨hi,hx,hq⟩
  ·rw[s8] at hk
   rcases nT hlt hy' hl' with ⟨i',x',hx',rfl,rfl,aIp,_⟩ | ⟨hi',hx',hq'⟩
   ·rw[s8] at hk'
    exact hc.inj i i' k k' x x' hx hx' hxl aIp hk hk' fun e=>hne (by rw[e])
   ·rw[hold q' hi' hq'] at hk'
    intro e
    have hlt':=(h.mine q' k' y' hx' hl' hk').1
    exact aFA q' k' y' hi' hx' hl' hk' (e ▸ aTG i k x hx hxl hk (by omega))
  ·rw[hold q hi hq] at hk
   rcases nT hlt hy' hl' with ⟨i',x',hx',rfl,rfl,aIp,_⟩ | ⟨hi',hx',hq'⟩
   ·rw[s8] at hk'
    intro e
    have hlt':=(h.mine q k y hx hl hk).1
    exact aFA q k y hi hx hl hk (e ▸ aTG i' k' x' hx' aIp hk' (by omega))
   ·rw[hold q' hi' hq'] at hk'
    exact h.inj q q' k k' y y' hx hx' hl hl' hk hk' hne
 ·intro q k y hy hl hk j
  rcases nT hlt hy hl with ⟨i,x,hx,rfl,rfl,hxl,_⟩ | ⟨hi,hx,hq⟩
  ·rw[s8] at hk
   exact hc.sep i k x hx hxl hk j
  ·rw[hold q hi hq] at hk
   rw[hc.frame.mem k.b j (h.mine q k y hx hl hk).1 (aFA q k y hi hx hl hk)]
   exact h.sep q k y hx hl hk j
 ·intro q k y hy hl hk
  rcases nT hlt hy hl with ⟨i,x,hx,rfl,rfl,hxl,_⟩ | ⟨hi,hx,hq⟩
  ·rw[s8] at hk
   refine ⟨(hc.mine i k x hx hxl hk).1,fun hb=>?_⟩
   obtain ⟨o',k',x',_,hx',hl',hk',hb'⟩:=hM _ (aTG i k x hx hxl hk (bB hb h.frame.size))
   rw[← hb']
   exact (h.mine o' k' x' hx' hl' hk').2 (by rw[hb'];exact hb)
  ·rw[hold q hi hq] at hk
   have:=h.mine q k y hx hl hk
   exact ⟨bB this.1 hc.frame.size,this.2⟩
theorem cY.call {ops:Array Oper} {o:Oper} {rest:List Oper} {x:Operand} {args:Array Operand} {sN:Array TypeId} {t:Nat} {f:FuncId} {om:List Nat} {dI:List D} {cxs:List Obj}
 {mc:Option R} {res:R→D} {out:R→List Obj} {m:R→Option (A ⊕ T)}
 (nJ:bR P f dI cxs mc res out) (hgd:o.guard=none) (ho:o.op = .call ⟨.value x,args,sN⟩) (nI:o.dst=some t)
 (gI:zX st x args.toList om=some (f,dI)) (aZu:jQ st om=cxs) (hf:kY P f=true)
 (hn:(nS om && (om.all (fun o=>Nat.blt o st.cD.length) && (Nat.blt t n && mY st t)))=true)
 (h:∀ r,cY P n ops rest cs (st.put (some t) ((res r).oU om st.cD.length) (oV om (out r) st.cD) []) (m r) go ab) :
 cY P n ops (o::rest) cs st (mc.bind m) go ab:=by
 intro Γ S β a w hr q hq
 simp only[aC,aK,aU] at hn
 obtain ⟨hnd,hlt,htn,hfree⟩:=hn
 cases hm:mc with
 | none=>rw[hm] at hq;cases hq
 | some r =>
   rw[hm,Option.bind_some] at hq
   simp only[wpList,Region.wanted,hgd,if_true]
   left
   unfold zX at gI
   split at gI
   ·rename_i f' k cap hx
    simp only[aA,aI] at gI
    obtain ⟨rfl,qI⟩:=gI
    have hxr:=iL hr (g:=[]) (fun q hq=>by cases hq) x
    rw[hx] at hxr
    obtain ⟨vs,hxv,vS⟩:=tJ hxr
    have hrun:(execOp a.eval o).run P w = .ok (.enter f' (args.map a.eval++vs)) w:=by
     unfold execOp
     rw[ho]
     simp only[resolve,hxv,Deferred.ofValue,pure_bind,invoke]
     rw[lN hf]
     simp
    simp only[Oper.wp,Oper.upon,hrun]
    have hargs:gG S (gA β om) dI (args.map a.eval++vs).toList:=by
     rw[← qI]
     have e:(args.map a.eval++vs).toList=args.toList.map a.eval++vs.toList:=by simp
     rw[e]
     exact (gG.kW (gG.aFz hr args.toList)).append (gG.kW vS)
    have fT:=hr.core.kW hnd
    subst aZu
    have yM:Core ⟨S,w,w8 (gA β om) (jQ st om),gA β om⟩ S (gA β om) w (jQ st om):=by
     refine ⟨⟨rfl,rfl,rfl,aO _,fun _ _ _=>rfl,fun _ _ _ _=>rfl,kS.refl _,fT.aGz,fT.inv⟩,fT.holds,fT.cD,fT.out,fT.inj,fT.sep,fun o k y hy hl hk=>⟨(fT.mine o k y hy hl hk).1,fun _=>⟨o,k,y,hy,hl,hk,rfl⟩⟩⟩
    have:=nJ S (gA β om) w (args.map a.eval++vs).toList yM hargs r hm
    have e2:(args.map a.eval++vs).toList.toArray=args.map a.eval++vs:=by simp
    rw[e2] at this
    refine this.mono fun e w' he=>?_
    obtain ⟨v,S',βc,rfl,hres,hB,oR⟩:=he
    obtain ⟨sK,hle⟩:=hr.core.after hnd hlt oR (fun o k ho hk=>hB o k (by simpa [jQ] using ho) hk)
    have aCX:dU S' (aA2 β om st.cD.length βc) ((res r).oU om st.cD.length) v:=D.mD (fun i=>zY hnd hlt i) hres
    have hput:=hr.put sK oR.frame.le hle htn hfree (g:=[]) (fun q hq=>by cases hq) (fun _=>aCX) (fun hno=>absurd (fun q hq=>by cases hq) hno)
    rw[nI]
    exact h r Γ S' _ _ w' hput q hq
   ·cases gI
end
end Go.Dl

namespace Go.Dl
variable [eC]
def C.sub (f:C→C):C→C
 | .own o n=>f (.own o n)
 | .ptr o i j=>f (.ptr o i j)
 | .opt b c=>.opt b (c.sub f)
 | .iface b t c=>.iface b t (c.sub f)
 | .cond b c=>.cond b (c.sub f)
 | .func fn k cap =>
   let l:=(List.range k).map fun i=>(cap i).sub f
   .func fn k fun i=>l.getD i .bot
 | c=>c
def D1.sub (f:C→C):D1→D1
 | .c x=>.c (x.sub f)
 | .agg l=>.agg (l.map (C.sub f))
def D.sub (f:C→C):D→D
 | .c x=>.c (x.sub f)
 | .agg l=>.agg (l.map (C.sub f))
 | .iV l=>.iV (l.map (D1.sub f))
def Obj.sub (f:C→C):Obj→Obj
 | .cells l=>.cells (l.map (C.sub f))
 | x=>x
def oW (o w:Nat) (get:Nat→Nat→C):C→C
 | .own o' n=>bif Nat.beq o' o then .tree w n get else .own o' n
 | c=>c
def qJ (o:Nat) (l:List C):C→C
 | .ptr o' i j=>bif Nat.beq o' o then .rI l.length (fun j=>l.getD j .bot) j else .ptr o' i j
 | c=>c
def St.freeze (st:St) (o:Nat):Option St :=
 match st.cD[o]? with
 | some (.row _ w _ get)=>some ⟨st.tmps.map fun p=>(p.1,p.2.sub (oW o w get)),(st.cD.set o .dead).map (Obj.sub (oW o w get)),st.gd,st.h⟩
 | some (.cells l)=>bif l.all C.shut then some ⟨st.tmps.map fun p=>(p.1,p.2.sub (qJ o l)),(st.cD.set o .dead).map (Obj.sub (qJ o l)),st.gd,st.h⟩ else none
 | _=>none
def C.flat:C→Bool
 | .val _ | .str _ | .nil | .bot=>true
 | .iface _ _ c=>c.flat
 | _=>false
def D1.flat:D1→Bool
 | .c x=>x.flat
 | .agg l=>l.all C.flat
def D.flat:D→Bool
 | .c x=>x.flat
 | .agg l=>l.all C.flat
 | .iV l=>l.all D1.flat
def D.shut:D→Bool
 | .c x=>x.shut
 | .agg l=>l.all C.shut
 | .iV _=>false
def St.n9 (st:St):List Nat→Option St
 | []=>some st
 | o::r =>
   match st.freeze o with
   | some cR=>cR.n9 r
   | none=>none
def kZ (st:St) (g:List (Nat × Bool)) (x:Operand) (args:List Operand):Option (FuncId × List D) :=
 match (st.see g).lv x with
 | .c (.func (.func f) k cap)=>some (f,args.map (st.see g).lv++aJS k cap)
 | _=>none
section
variable {P:Program} {n:Nat} {A T R:Type} {go:T→St} {ab:A→Ex × St} {st cR:St} {cs:List Code} {m:Option (A ⊕ T)}
def aEy (S:Mem) (w:World) (b k:Nat):Mem:=fun b' i=>if b'=b then (if i<k then w.cell? ⟨b,i,none⟩ else none) else S b' i
theorem aCu {S:Mem} {w:World} {b k:Nat} (h:∀ i,S b i=none):kS S (aEy S w b k):=by
 intro b' i v hv
 unfold aEy
 split
 ·rename_i e;subst e;rw[h i] at hv;cases hv
 ·exact hv
theorem C.pQ {S S':Mem} {β:dK} {f:C→C} (hs:kS S S') (h1:∀ o m v,cW S β (.own o m) v→cW S' β (f (.own o m)) v) (h2:∀ o i j v,cW S β (.ptr o i j) v→cW S' β (f (.ptr o i j)) v) :
 ∀ {c:C} {v:Value},cW S β c v→cW S' β (c.sub f) v:=by
 intro c
 induction c with
 | own o' m=>intro v hv;exact h1 _ _ _ hv
 | ptr o' i j=>intro v hv;exact h2 _ _ _ _ hv
 | opt b c ih =>
   intro v hv
   simp only[C.sub,cW] at hv ⊢
   split at hv
   ·rename_i h;rw[aH h];exact ih hv
   ·rename_i h;rw[aG h];exact hv
 | iface b t c ih =>
   intro v hv
   simp only[C.sub,cW] at hv ⊢
   split at hv
   ·rename_i h;rw[aH h];obtain ⟨u,hu,hr⟩:=hv;exact ⟨u,hu,ih hr⟩
   ·rename_i h;rw[aG h];exact hv
 | func fn k cap ih =>
   rintro v ⟨vs,q1,q2,q3⟩
   refine ⟨vs,q1,q2,fun i hi=>?_⟩
   have:(((List.range k).map fun i=>(cap i).sub f).getD i .bot)=(cap i).sub f:=by
    simp [List.getD,hi]
   show cW S' β (((List.range k).map fun i=>(cap i).sub f).getD i .bot) _
   rw[this]
   exact ih i (q3 i hi)
 | cond b c ih =>
   intro v hv hb
   exact ih (hv hb)
 | _=>intro v hv;exact cW.mono hs _ _ _ hv
theorem D1.pQ {S S':Mem} {β:dK} {f:C→C} (hs:kS S S') (h1:∀ o m v,cW S β (.own o m) v→cW S' β (f (.own o m)) v) (h2:∀ o i j v,cW S β (.ptr o i j) v→cW S' β (f (.ptr o i j)) v)
 {d:D1} {v:Value} (h:kX S β d v):kX S' β (d.sub f) v:=by
 cases d with
 | c x=>exact C.pQ hs h1 h2 h
 | agg l=>obtain ⟨vs,q1,q2⟩:=h;exact ⟨vs,q1,q2.map _ fun _ _ h=>C.pQ hs h1 h2 h⟩
theorem D.pQ {S S':Mem} {β:dK} {f:C→C} (hs:kS S S') (h1:∀ o m v,cW S β (.own o m) v→cW S' β (f (.own o m)) v) (h2:∀ o i j v,cW S β (.ptr o i j) v→cW S' β (f (.ptr o i j)) v)
 {d:D} {v:Value} (h:dU S β d v):dU S' β (d.sub f) v:=by
 cases d with
 | c x=>exact C.pQ hs h1 h2 h
 | agg l=>obtain ⟨vs,q1,q2⟩:=h;exact ⟨vs,q1,q2.map _ fun _ _ h=>C.pQ hs h1 h2 h⟩
 | iV l=>obtain ⟨vs,q1,q2⟩:=h;exact ⟨vs,q1,q2.map _ fun _ _ h=>D1.pQ hs h1 h2 h⟩
theorem aCY {Γ:lI} {S:Mem} {β:dK} {w:World} {xs:List Obj} (h:Core Γ S β w xs) {o:Nat} {e:TypeId} {wd m:Nat} {get:Nat→Nat→C} (hx:xs[o]? = some (.row e wd m get)) :
 ∃ S',kS S S'∧Holds S' w∧(∀ q v,cW S β (.own o q) v→cW S' β (.tree wd q get) v) ∧
   ((S'=S)∨∃ k,β o=some (some k)∧∀ b i,b≠k.b→S' b i=S b i):=by
 rcases h.cD o _ hx with ⟨hn,hm⟩ | ⟨k,hk,he,hw,hn,hcap,zE,cur,hh,hsz,hcell⟩
 ·refine ⟨S,kS.refl _,h.holds,fun q v hv=>?_,.inl rfl⟩
  simp only[cW,hn] at hv
  obtain ⟨rfl,rfl⟩:=hv
  exact ⟨none,0,rfl,aO _,Nat.zero_le _,.inl rfl⟩
 ·have hsep:=h.sep o k _ hx rfl hk
  refine ⟨aEy S w k.b (m * wd),aCu hsep,?_,fun q v hv=>?_,.inr ⟨k,hk,fun b i hb=>?_⟩⟩
  ·intro b i v hv
   unfold aEy at hv
   split at hv
   ·rename_i e'
    subst e'
    split at hv
    ·rename_i hi
     refine ⟨hv,?_⟩
     have hwd:0<wd:=by
      rcases Nat.eq_zero_or_pos wd with hz | hz
      ·rw[hz] at hi;omega
      ·exact hz
     have h1:i / wd<m:=by rw[Nat.div_lt_iff_lt_mul hwd];exact hi
     obtain ⟨u,hu,ho1,_⟩:=hcell (i / wd) (i % wd) h1 (Nat.mod_lt _ hwd)
     rw[Nat.mul_comm,Nat.div_add_mod] at hu
     rw[cell_of_heap hh,hu] at hv
     simp only[aA] at hv
     rw[← hv];exact ho1
    ·cases hv
   ·exact h.holds b i v hv
  ·simp only[cW,hk] at hv
   obtain ⟨h1,h2,rfl⟩:=hv
   refine ⟨_,_,rfl,h2,zE,?_⟩
   by_cases hq:q=0
   ·exact .inl hq
   ·refine .inr ⟨k.b,0,rfl,fun i j hi hj=>?_⟩
    obtain ⟨u,hu,_,hr⟩:=hcell i j (by omega) hj
    refine ⟨u,?_,cW.mono (aCu hsep) _ _ _ hr⟩
    unfold aEy
    rw[aH rfl,Nat.zero_add,aH,cell_of_heap hh,hu]
    have:(i+1) * wd≤m * wd:=aS _ (by omega)
    rw[Nat.add_mul] at this
    omega
  ·unfold aEy
   rw[aG hb]
theorem aFC {Γ:lI} {S:Mem} {β:dK} {w:World} {xs:List Obj} (h:Core Γ S β w xs) {o:Nat} {l:List C} (hx:xs[o]? = some (.cells l)) (hsh:l.all C.shut=true) :
 ∃ S',kS S S'∧Holds S' w∧(∀ i j v,cW S β (.ptr o i j) v→cW S' β (.rI l.length (fun j=>l.getD j .bot) j) v) ∧
   ((S'=S)∨∃ k,β o=some (some k)∧∀ b i,b≠k.b→S' b i=S b i):=by
 obtain ⟨k,hk,hw,hn,hcap,us,hh,hl,h1⟩:=h.cD o _ hx
 have hsep:=h.sep o k _ hx rfl hk
 refine ⟨aEy S w k.b l.length,aCu hsep,?_,fun i j v hv=>?_,.inr ⟨k,hk,fun b i hb=>?_⟩⟩
 ·intro b i v hv
  unfold aEy at hv
  split at hv
  ·rename_i e'
   subst e'
   split at hv
   ·rename_i hi
    refine ⟨hv,?_⟩
    rw[cell_of_heap hh] at hv
    have:us[i]? = some v:=by simpa using hv
    exact h1 v (bH this)
   ·cases hv
  ·exact h.holds b i v hv
 ·obtain ⟨k',hk',hi,hj,rfl⟩:=hv
  rw[hk] at hk';simp only[aA] at hk';subst hk'
  have hi0:i=0:=by omega
  subst hi0
  refine ⟨k.b,0,by simp,fun j' hj'=>?_⟩
  obtain ⟨u,hu,hr⟩:=hl.get j' _ (aD hj')
  refine ⟨u,?_,?_⟩
  ·unfold aEy
   rw[aH rfl,Nat.zero_add,aH hj',cell_of_heap hh]
   simpa using hu
  ·have hsj:(l[j']).shut=true:=by rw[aK] at hsh;exact hsh _ (List.getElem_mem hj')
   have e:l.getD j' .bot=l[j']:=by simp [List.getD,aD hj']
   show cW _ sL (l.getD j' .bot) u
   rw[e]
   exact cW.mono (aCu hsep) _ _ _ (mW hsj hr)
 ·unfold aEy
  rw[aG hb]
theorem aNa {x:Obj} {f:C→C}:(x.sub f).live=x.live:=by cases x <;> rfl
theorem aA4 {Γ:lI} {S S':Mem} {β:dK} {a:Act} {w:World} {o:Nat} {ob:Obj} {f:C→C} (h:RR Γ S β a w n st) (hx:st.cD[o]? = some ob) (hol:ob.live=true) (hs:kS S S') (hh:Holds S' w)
 (h1:∀ o m v,cW S β (.own o m) v→cW S' β (f (.own o m)) v) (h2:∀ o i j v,cW S β (.ptr o i j) v→cW S' β (f (.ptr o i j)) v)
 (hf:∀ o m b,f (.own o m)≠.val (.bool b)) (hf2:∀ o i j b,f (.ptr o i j)≠.val (.bool b))
 (hch:(S'=S)∨∃ k,β o=some (some k)∧∀ b i,b≠k.b→S' b i=S b i) :
 RR Γ S' β a w n ⟨st.tmps.map fun p=>(p.1,p.2.sub f),(st.cD.set o .dead).map (Obj.sub f),st.gd,st.h⟩:=by
 have get':∀ t,St.get ⟨st.tmps.map fun p=>(p.1,p.2.sub f),(st.cD.set o .dead).map (Obj.sub f),st.gd,st.h⟩ t=(st.get t).sub f:=by
  intro t
  unfold St.get
  simp only
  generalize st.tmps=l
  induction l with
  | nil=>rfl
  | cons p r ih =>
    obtain ⟨i,d⟩:=p
    simp only[List.map_cons,dR]
    cases Nat.beq i t with
    | true=>rfl
    | false=>exact ih
 have qK:∀ {d:D} {b:Bool},d.sub f = .c (.val (.bool b))↔d = .c (.val (.bool b)):=by
  intro d b
  constructor
  ·intro hd
   cases d with
   | c x =>
     simp only[D.sub,D.c.injEq] at hd
     cases x with
     | val u=>simp only[C.sub] at hd;rw[hd]
     | own o' q=>exact absurd hd (hf _ _ _)
     | ptr o' i j=>exact absurd hd (hf2 _ _ _ _)
     | _=>simp only[C.sub] at hd;cases hd
   | agg l=>cases hd
   | iV l=>cases hd
  ·rintro rfl;rfl
 have hold:∀ g,St.holds ⟨st.tmps.map fun p=>(p.1,p.2.sub f),(st.cD.set o .dead).map (Obj.sub f),st.gd,st.h⟩ g↔st.holds g:=by
  intro g
  unfold St.holds
  constructor
  ·intro hh q hq
   have:=hh q hq
   rw[get',qK] at this
   exact this
  ·intro hh q hq
   rw[get',qK]
   exact hh q hq
 have aNb:∀ q y,((st.cD.set o .dead).map (Obj.sub f))[q]? = some y→y.live=true→∃ x,q≠o∧st.cD[q]? = some x∧x.live=true∧y=x.sub f:=by
  intro q y hy hl
  rw[bA] at hy
  cases hq:(st.cD.set o .dead)[q]? with
  | none=>rw[hq] at hy;cases hy
  | some x =>
    rw[hq] at hy
    simp only[Option.map_some,aA] at hy
    subst hy
    rw[aNa] at hl
    obtain ⟨h1,h2⟩:=aJJ hq hl
    exact ⟨x,h1,h2,hl,rfl⟩
 have hne:∀ k,β o=some (some k)→∀ q x k',q≠o→st.cD[q]? = some x→x.live=true→β q=some (some k')→k'.b≠k.b :=
  fun k hk q x k' hq hxq hl hk'=>h.core.inj q o k' k x _ hxq hx hl hol hk' hk hq
 refine ⟨⟨?_,hh,?_,?_,?_,?_,?_⟩,fun t ht=>?_,fun t ht=>?_,h.size,h.defers,h.hand⟩
 ·refine ⟨h.core.frame.os,h.core.frame.tape,h.core.frame.output,h.core.frame.size,h.core.frame.block,fun b i hb hnm=>?_,h.core.frame.le.trans hs,h.core.frame.aEo,h.core.frame.inv⟩
  rcases hch with rfl | ⟨k,hk,hch⟩
  ·exact h.core.frame.mem b i hb hnm
  ·by_cases e:b=k.b
   ·subst e
    exact absurd ((h.core.mine o k _ hx hol hk).2 hb) hnm
   ·rw[hch b i e];exact h.core.frame.mem b i hb hnm
 ·intro q y hy
  cases hl:y.live with
  | false=>cases y <;> first | trivial | cases hl
  | true =>
    obtain ⟨x,hq,hxq,hxl,rfl⟩:=aNb q y hy hl
    have ho:=h.core.cD q x hxq
    cases x with
    | dead=>cases hxl
    | cells l =>
      obtain ⟨k,h1',h2',h3,h4,vs,h5,h6,h7⟩:=ho
      exact ⟨k,h1',by rw[h2'];simp,h3,h4,vs,h5,h6.map _ fun _ _ hc=>C.pQ hs h1 h2 hc,h7⟩
    | row e2 wd2 m2 a1L=>exact ho.keep hs (lX.refl _) fun _ _ _=>rfl
    | aB3 e2 bs=>exact ho.keep hs (lX.refl _) fun _ _ _=>rfl
    | map z has get=>exact ho.keep hs (lX.refl _) fun _ _ _=>rfl
 ·intro q hq
  exact h.core.out q (by simpa using hq)
 ·intro q q' k k' y y' hy hy' hl hl'
  obtain ⟨x,_,hxq,hxl,_⟩:=aNb q y hy hl
  obtain ⟨x',_,aZw,aIp,_⟩:=aNb q' y' hy' hl'
  exact h.core.inj q q' k k' x x' hxq aZw hxl aIp
 ·intro q k y hy hl hk i
  obtain ⟨x,hq,hxq,hxl,_⟩:=aNb q y hy hl
  rcases hch with rfl | ⟨k0,hk0,hch⟩
  ·exact h.core.sep q k x hxq hxl hk i
  ·rw[hch k.b i (hne k0 hk0 q x k hq hxq hxl hk)]
   exact h.core.sep q k x hxq hxl hk i
 ·intro q k y hy hl hk
  obtain ⟨x,_,hxq,hxl,_⟩:=aNb q y hy hl
  exact h.core.mine q k x hxq hxl hk
 ·rw[get']
  have ht':st.holds (st.oQ t):=(hold _).1 ht
  exact D.pQ hs h1 h2 (h.tm t ht')
 ·exact h.un t fun hh=>ht ((hold _).2 hh)
theorem zZ {Γ:lI} {S:Mem} {β:dK} {a:Act} {w:World} {o:Nat} (h:RR Γ S β a w n st) (hf:st.freeze o=some cR):∃ S',RR Γ S' β a w n cR∧∀ g,cR.holds g↔st.holds g:=by
 have aSE:∀ (f:C→C),(∀ o m b,f (.own o m)≠.val (.bool b))→(∀ o i j b,f (.ptr o i j)≠.val (.bool b))→∀ g,St.holds ⟨st.tmps.map fun p=>(p.1,p.2.sub f),(st.cD.set o .dead).map (Obj.sub f),st.gd,st.h⟩ g↔st.holds g:=by
  intro f hf1 hf2 g
  have get':∀ t,St.get ⟨st.tmps.map fun p=>(p.1,p.2.sub f),(st.cD.set o .dead).map (Obj.sub f),st.gd,st.h⟩ t=(st.get t).sub f:=by
   intro t
   unfold St.get
   simp only
   generalize st.tmps=l
   induction l with
   | nil=>rfl
   | cons p r ih =>
     obtain ⟨i,d⟩:=p
     simp only[List.map_cons,dR]
     cases Nat.beq i t with
     | true=>rfl
     | false=>exact ih
  have qK:∀ {d:D} {b:Bool},d.sub f = .c (.val (.bool b))↔d = .c (.val (.bool b)):=by
   intro d b
   constructor
   ·intro hd
    cases d with
    | c x =>
      simp only[D.sub,D.c.injEq] at hd
      cases x with
      | val u=>simp only[C.sub] at hd;rw[hd]
      | own o' q=>exact absurd hd (hf1 _ _ _)
      | ptr o' i j=>exact absurd hd (hf2 _ _ _ _)
      | _=>simp only[C.sub] at hd;cases hd
    | agg l=>cases hd
    | iV l=>cases hd
   ·rintro rfl;rfl
  unfold St.holds
  constructor
  ·intro hh q hq
   have:=hh q hq
   rw[get',qK] at this
   exact this
  ·intro hh q hq
   rw[get',qK]
   exact hh q hq
 unfold St.freeze at hf
 split at hf
 ·rename_i e wd m get hx
  simp only[aA] at hf
  subst hf
  obtain ⟨S',hs,hh,hown,hch⟩:=aCY h.core hx
  have f1:∀ o' m' b,oW o wd get (.own o' m')≠.val (.bool b):=by
   intro o' m' b
   simp only[oW]
   cases Nat.beq o' o <;> simp
  have f2:∀ o' i j b,oW o wd get (.ptr o' i j)≠.val (.bool b):=by
   intro o' i j b
   simp [oW]
  refine ⟨S',aA4 h hx rfl hs hh (fun o' m' v hv=>?_) (fun o' i j v hv=>?_) f1 f2 hch,aSE _ f1 f2⟩
  ·simp only[oW]
   cases hb:Nat.beq o' o with
   | true =>
     have:=aF hb
     subst this
     exact hown m' v hv
   | false=>rw[cond_false];exact cW.mono hs _ _ _ hv
  ·exact cW.mono hs _ _ _ hv
 ·rename_i l hx
  obtain ⟨hsh,hf⟩:=bS hf
  simp only[aA] at hf
  subst hf
  obtain ⟨S',hs,hh,aZy,hch⟩:=aFC h.core hx hsh
  have f1:∀ o' m' b,qJ o l (.own o' m')≠.val (.bool b):=by
   intro o' m' b
   simp [qJ]
  have f2:∀ o' i j b,qJ o l (.ptr o' i j)≠.val (.bool b):=by
   intro o' i j b
   simp only[qJ]
   cases Nat.beq o' o <;> simp
  refine ⟨S',aA4 h hx rfl hs hh (fun o' m' v hv=>?_) (fun o' i j v hv=>?_) f1 f2 hch,aSE _ f1 f2⟩
  ·exact cW.mono hs _ _ _ hv
  ·simp only[qJ]
   cases hb:Nat.beq o' o with
   | true =>
     have:=aF hb
     subst this
     exact aZy i j v hv
   | false=>rw[cond_false];exact cW.mono hs _ _ _ hv
 ·cases hf
theorem aNc {S S':Mem} {β β':dK} {c:C} {v:Value} (hf:c.flat=true) (h:cW S β c v):cW S' β' c v:=by
 induction c generalizing v with
 | iface b t c ih =>
   simp only[cW] at h ⊢
   split at h
   ·rename_i hb;rw[aH hb];obtain ⟨u,hu,hr⟩:=h;exact ⟨u,hu,ih hf hr⟩
   ·rename_i hb;rw[aG hb];exact h
 | _=>first | exact h | cases hf
theorem aNd {S S':Mem} {β β':dK}:∀ {l:List C} {vs:List Value},l.all C.flat=true→eM S β l vs→eM S' β' l vs
 | [],_,_,h=>h
 | _::_,_,hf,⟨v,r,h1,h2,h3⟩=>by
   simp only[List.all_cons,aC] at hf
   exact ⟨v,r,h1,aNc hf.1 h2,aNd hf.2 h3⟩
theorem aTH {S S':Mem} {β β':dK} {d:D1} {v:Value} (hf:d.flat=true) (h:kX S β d v):kX S' β' d v:=by
 cases d with
 | c x=>exact aNc hf h
 | agg l=>obtain ⟨vs,h1,h2⟩:=h;exact ⟨vs,h1,aNd hf h2⟩
theorem aSF {S S':Mem} {β β':dK}:∀ {l:List D1} {vs:List Value},l.all D1.flat=true→tW S β l vs→tW S' β' l vs
 | [],_,_,h=>h
 | _::_,_,hf,⟨v,r,h1,h2,h3⟩=>by
   simp only[List.all_cons,aC] at hf
   exact ⟨v,r,h1,aTH hf.1 h2,aSF hf.2 h3⟩
theorem aSG {S S':Mem} {β β':dK} {d:D} {v:Value} (hf:d.flat=true) (h:dU S β d v):dU S' β' d v:=by
 cases d with
 | c x=>exact aNc hf h
 | agg l=>obtain ⟨vs,h1,h2⟩:=h;exact ⟨vs,h1,aNd hf h2⟩
 | iV l=>obtain ⟨vs,h1,h2⟩:=h;exact ⟨vs,h1,aSF hf h2⟩
theorem sR {Γ:lI} {β:dK} {a:Act} {w:World}:∀ {l:List Nat} {st cR:St} {S:Mem},RR Γ S β a w n st→st.n9 l=some cR→∃ S',RR Γ S' β a w n cR∧∀ g,cR.holds g↔st.holds g
 | [],st,cR,S,h,hf=>by
   simp only[St.n9,aA] at hf
   subst hf
   exact ⟨S,h,fun _=>Iff.rfl⟩
 | o::r,st,cR,S,h,hf=>by
   unfold St.n9 at hf
   cases h1:st.freeze o with
   | none=>rw[h1] at hf;cases hf
   | some st1 =>
     rw[h1] at hf
     obtain ⟨S1,hr1,hg1⟩:=zZ h h1
     obtain ⟨S2,vH,hg2⟩:=sR hr1 hf
     exact ⟨S2,vH,fun g=>(hg2 g).trans (hg1 g)⟩
theorem pR {st:St}:∀ {g:List (Nat × Bool)},kB st g=some true→st.holds g
 | [],_=>fun q hq=>by cases hq
 | (t,want)::r,h=>by
   unfold kB at h
   cases ht:st.get t with
   | c x =>
     cases x with
     | val u =>
       cases u with
       | bool b =>
         cases hr:kB st r with
         | none=>rw[ht,hr] at h;cases h
         | some x =>
           rw[ht,hr] at h
           simp only at h
           have hb:(bif want then b else !b)=true∧x=true:=by
            split at h
            ·simp only[aA] at h
             simp only[kB,aA] at hr
             exact ⟨h,hr.symm⟩
            ·simp only[aA,aC] at h
             exact h
           obtain ⟨h1,rfl⟩:=hb
           have ih:=pR hr
           intro q hq
           rcases bE.1 hq with rfl | hq
           ·show st.get t=_
            rw[ht]
            cases want <;> cases b <;> simp_all
           ·exact ih q hq
       | _=>rw[ht] at h;cases h
     | _=>rw[ht] at h;cases h
   | _=>rw[ht] at h;cases h
theorem Core.aJT {Γ:lI} {S:Mem} {β:dK} {w w':World} {xs:List Obj} (h:Core Γ S β w xs) (ho:w'.os=w.os) (ht:w'.tape=w.tape) (hu:w'.output=w.output)
 (hz:w.heap.size≤w'.heap.size) (hb:∀ b,b<w.heap.size→w'.heap[b]? = w.heap[b]?):Core Γ S β w' xs :=
 ⟨h.frame.ext ho ht hu hz fun b hb1 _=>hb b (bB hb1 h.frame.size),h.holds.keep fun b ⟨_,hi⟩=>hb b (h.holds.lt hi),
  fun o x hx=>(h.cD o x hx).keep (kS.refl _) (lX.refl _) fun k hl hk=>hb k.b (h.mine o k x hx hl hk).1,h.out,h.inj,h.sep,
  fun o k x hx hl hk=>⟨bB (h.mine o k x hx hl hk).1 hz,(h.mine o k x hx hl hk).2⟩⟩
theorem eM.shut {S:Mem} {β:dK}:∀ {l:List C} {vs:List Value},l.all C.shut=true→eM S β l vs→eM S sL l vs
 | [],_,_,h=>h
 | _::_,_,hf,⟨v,r,h1,h2,h3⟩=>by
   simp only[List.all_cons,aC] at hf
   exact ⟨v,r,h1,mW hf.1 h2,eM.shut hf.2 h3⟩
theorem gG.shut {S:Mem} {β:dK}:∀ {l:List D} {vs:List Value},l.all D.shut=true→gG S β l vs→gG S sL l vs
 | [],_,_,h=>h
 | d::_,_,hf,⟨v,r,h1,h2,h3⟩=>by
   simp only[List.all_cons,aC] at hf
   refine ⟨v,r,h1,?_,gG.shut hf.2 h3⟩
   cases d with
   | c x=>exact mW hf.1 h2
   | agg l=>obtain ⟨us,q1,q2⟩:=h2;exact ⟨us,q1,eM.shut hf.1 q2⟩
   | iV l=>cases hf.1
def cK {R:Type} (b:Bool) (mc:Option R) (r0:R):Option R:=if b=true then mc else some r0
theorem cY.look {ops:Array Oper} {o:Oper} {rest:List Oper} {x:Operand} {args:Array Operand} {sN:Array TypeId} {t:Nat} {f:FuncId} {dI:List D} {g:List (Nat × Bool)} {b:Bool}
 {mc:Option R} {res:R→D} {m:R→Option (A ⊕ T)} {rF:St} (bo:List Nat) (r0:R)
 (nJ:bR P f dI [] mc res (fun _=>[])) (hg:guardOf ops o st=some g) (hb:kB st g=some b) (ho:o.op = .call ⟨.value x,args,sN⟩) (nI:o.dst=some t)
 (hfr:st.n9 bo=some rF) (gI:kZ rF g x args.toList=some (f,dI)) (hf:kY P f=true)
 (hn:(Nat.blt t n && (mY st t && g.all fun q=>!Nat.beq q.1 t))=true) (aBE:∀ r,(res r).flat=true) (kH:dI.all D.shut=true)
 (h:∀ r,cY P n ops rest cs (st.put (some t) (res r) st.cD g) (m r) go ab) :
 cY P n ops (o::rest) cs st ((cK b mc r0).bind m) go ab:=by
 intro Γ S β a w hr q hq
 simp only[aC,aK,aU] at hn
 obtain ⟨htn,hfree,hgt⟩:=hn
 have z7:∀ q∈g,q.1≠t:=fun q hq e=>by
  have:=hgt q hq
  rw[e] at this
  simp at this
 by_cases hh:st.holds g
 ·have hbt:=oG hb hh
  subst hbt
  simp only[cK,if_true] at hq
  have z8:Region.wanted o (yielded ops a.tmps)=true:=by
   unfold guardOf at hg
   cases hgd:o.guard with
   | none=>simp [Region.wanted,hgd]
   | some jw =>
     obtain ⟨j,want⟩:=jw
     rw[hgd] at hg
     dsimp only at hg
     cases vP:(ops[j]?).bind (·.dst) with
     | none=>rw[vP] at hg;cases hg
     | some tj =>
       rw[vP] at hg
       simp only[aA] at hg
       subst hg
       have hrel:=hr.tm tj (fun q hq=>hh q (aX _ hq))
       have hxw:=hh (tj,want) (by simp)
       simp only at hxw
       rw[hxw] at hrel
       have hval:a.tmps.getD tj undef = .bool want:=hrel
       have hsome:a.tmps[tj]? = some (.bool want):=by
        rw[aL] at hval
        cases hq:a.tmps[tj]? with
        | none=>rw[hq] at hval;cases hval
        | some u=>rw[hq] at hval;simp only[Option.getD_some] at hval;rw[hval]
       have jB:yielded ops a.tmps j=some want:=by
        unfold yielded
        rw[vP]
        show (match a.tmps[tj]? with | some (.bool b)=>some b | _=>none)=some want
        rw[hsome]
       simp only[Region.wanted,hgd,jB]
       simp
  cases hm:mc with
  | none=>rw[hm] at hq;cases hq
  | some r =>
    rw[hm,Option.bind_some] at hq
    obtain ⟨S2,vH,aTI⟩:=sR hr hfr
    simp only[wpList,z8,if_true]
    left
    unfold kZ at gI
    split at gI
    ·rename_i f' k cap hx
     simp only[aA,aI] at gI
     obtain ⟨rfl,qI⟩:=gI
     have hh2:rF.holds g:=(aTI g).2 hh
     have hxr:=iL vH hh2 x
     rw[hx] at hxr
     obtain ⟨vs,hxv,vS⟩:=tJ hxr
     have hrun:(execOp a.eval o).run P w = .ok (.enter f' (args.map a.eval++vs)) w:=by
      unfold execOp
      rw[ho]
      simp only[resolve,hxv,Deferred.ofValue,pure_bind,invoke]
      rw[lN hf]
      simp
     simp only[Oper.wp,Oper.upon,hrun]
     have hvm:∀ (l:List Operand),gG S2 β (l.map (rF.see g).lv) (l.map a.eval):=by
      intro l
      induction l with
      | nil=>rfl
      | cons x l ih=>exact ⟨_,_,rfl,iL vH hh2 x,ih⟩
     have hargs:gG S2 β dI (args.map a.eval++vs).toList:=by
      rw[← qI]
      have e:(args.map a.eval++vs).toList=args.toList.map a.eval++vs.toList:=by simp
      rw[e]
      exact (hvm args.toList).append vS
     have hclosed:gG S2 sL dI (args.map a.eval++vs).toList:=gG.shut kH hargs
     have oR:Core ⟨S2,w,w8 sL [],sL⟩ S2 sL w [] :=
      ⟨⟨rfl,rfl,rfl,aO _,fun _ _ _=>rfl,fun _ _ _ _=>rfl,kS.refl _,fun b hb=>by obtain ⟨o,k,x,hx,_⟩:=hb;simp at hx,vH.core.inv⟩,vH.core.holds,fun o x hx=>by simp at hx,fun _ _=>rfl,
       fun o o' k k' x x' hx=>by simp at hx,fun o k x hx=>by simp at hx,fun o k x hx=>by simp at hx⟩
     have:=nJ S2 sL w (args.map a.eval++vs).toList oR hclosed r hm
     have e2:(args.map a.eval++vs).toList.toArray=args.map a.eval++vs:=by simp
     rw[e2] at this
     refine this.mono fun e w' he=>?_
     obtain ⟨v,S',βc,rfl,hres,_,aCZ⟩:=he
     have hnm:∀ b,¬ w8 sL [] b:=by
      rintro b ⟨o,k,x,hx,_⟩
      simp at hx
     have sK:=hr.core.aJT aCZ.frame.os aCZ.frame.tape aCZ.frame.output aCZ.frame.size fun b hb=>aCZ.frame.block b hb (hnm b)
     have hput:=hr.put sK (kS.refl _) (lX.refl _) htn hfree z7 (fun _=>aSG (aBE r) hres) (fun hno=>absurd hh hno)
     rw[nI]
     exact h r Γ S _ _ w' hput q hq
    ·cases gI
 ·have hb0:b=false:=by
   cases b with
   | false=>rfl
   | true=>exact absurd (pR hb) hh
  subst hb0
  simp only[cK,aN,if_false,Option.bind_some] at hq
  have hwt:Region.wanted o (yielded ops a.tmps)=false:=by
   unfold guardOf at hg
   cases hgd:o.guard with
   | none =>
     rw[hgd] at hg
     simp only[aA] at hg
     subst hg
     exact absurd (fun q hq=>by cases hq) hh
   | some jw =>
     obtain ⟨j,want⟩:=jw
     rw[hgd] at hg
     dsimp only at hg
     cases vP:(ops[j]?).bind (·.dst) with
     | none=>rw[vP] at hg;cases hg
     | some tj =>
       rw[vP] at hg
       simp only[aA] at hg
       subst hg
       obtain ⟨x0,hx0⟩:=oH hb
       have qH:∀ (yl:Option Bool),yielded ops a.tmps j=yl→Region.wanted o (yielded ops a.tmps)=(yl == some want):=by
        intro yl hy
        simp only[Region.wanted,hgd,hy]
       have jB:yielded ops a.tmps j=match a.tmps[tj]? with | some (.bool b)=>some b | _=>none:=by
        unfold yielded
        rw[vP]
        rfl
       by_cases oS:st.holds (st.oQ tj)
       ·have hrel:=hr.tm tj oS
        rw[hx0] at hrel
        have hval:a.tmps.getD tj undef = .bool x0:=hrel
        have hsome:a.tmps[tj]? = some (.bool x0):=by
         rw[aL] at hval
         cases hq:a.tmps[tj]? with
         | none=>rw[hq] at hval;cases hval
         | some u=>rw[hq] at hval;simp only[Option.getD_some] at hval;rw[hval]
        rw[qH (some x0) (by rw[jB,hsome])]
        have hne:x0≠want:=by
         intro e
         subst e
         refine hh fun q hq=>?_
         rcases bE.1 hq with rfl | hq
         ·exact hx0
         ·exact oS q hq
        simpa using hne
       ·have hun:=hr.un tj oS
        have hnone:yielded ops a.tmps j=none:=by
         rw[jB]
         rw[aL] at hun
         cases hq:a.tmps[tj]? with
         | none=>rfl
         | some u =>
           rw[hq] at hun
           simp only[Option.getD_some] at hun
           rw[hun];rfl
        rw[qH none hnone]
        rfl
  simp only[wpList,hwt,aN,if_false]
  have hput:=hr.put (d:=res r0) (v:=undef) hr.core (kS.refl _) (lX.refl _) htn hfree z7 (fun hy=>absurd hy hh) (fun _=>rfl)
  rw[nI]
  exact h r0 Γ S _ _ w hput q hq
end
end Go.Dl

namespace Go.Dl
variable [eC]
open Go.RowKit
section
variable {P:Program} {ops:Array Oper} {md:Region.Mode} {W:Nat→Bool}
def vT (P:Program) (k:Value→World→Prop):Result Next→Prop
 | .ok (.value v) w'=>k v w'
 | .ok .skip w'=>k undef w'
 | .ok (.enter f args) w'=>Calls P f args w' fun e w''=>∃ v,e = .returned v∧k v w''
 | _=>False
def xop (P:Program) (o:Oper) (a:Act) (w:World) (k:Value→World→Prop):Prop:=vT P k ((execOp a.eval o).run P w)
theorem aAa {o:Oper} {a:Act} {w:World} {k k':Value→World→Prop} (h:∀ v w',k v w'→k' v w') (hx:xop P o a w k):xop P o a w k':=by
 unfold xop at *
 generalize (execOp a.eval o).run P w=r at *
 cases r with
 | ok n w' =>
   cases n <;> simp only[vT] at hx ⊢ <;> first
    | exact h _ _ hx
    | exact Calls.mono hx (fun e w'' ⟨v,he,hk⟩=>⟨v,he,h _ _ hk⟩)
 | halt x w'=>simp only[vT] at hx
def aB8 (P:Program) (ops:Array Oper) (i:Nat) (K:Act→World→Prop) (a:Act) (w:World):Prop :=
 match ops[i]? with
 | none=>∀ w',Up w w'→K a w'
 | some o=>if Region.wanted o (yielded ops a.tmps) then xop P o a w fun v w'=>Up w w'∧∀ w'',Up w' w''→K (a.put o.dst v) w''
  else ∀ w',Up w w'→K (a.put o.dst undef) w'
def xOp (P:Program) (ops:Array Oper) (W:Nat→Bool) (Q':Exit→Act→World→Prop) (i:Nat) (K:Act→World→Prop) (a:Act) (w:World):Prop :=
 bif W i then wpOp P ops Q' i K a w else aB8 P ops i K a w
def xM (P:Program) (md:Region.Mode) (ops:Array Oper) (W:Nat→Bool) (Q':Exit→Act→World→Prop):Nat→Array Bool→Act→World→Prop
 | 0,listed,a,w=>Region.ready md ops listed=[]∧Q' .normal a w
 | fuel+1,listed,a,w =>
   (Region.ready md ops listed=[]→Q' .normal a w) ∧
   ∀ i∈Region.ready md ops listed,xOp P ops W Q' i (xM P md ops W Q' fuel (listed.setIfInBounds i true)) a w
theorem aIs {Q':Exit→Act→World→Prop} {i:Nat} {K K':Act→World→Prop} {a:Act} {w:World} (h:∀ a w,K a w→K' a w) (hx:aB8 P ops i K a w):wpOp P ops Q' i K' a w:=by
 unfold aB8 at hx
 unfold wpOp
 split
 ·rename_i ho;simp only[ho] at hx;exact h _ _ (hx w (Up.refl w))
 ·rename_i o ho
  simp only[ho] at hx
  split
  ·rename_i hw
   simp only[hw,if_true] at hx
   left
   unfold xop at hx
   unfold Oper.wp
   generalize (execOp a.eval o).run P w=r at *
   cases r with
   | ok n w' =>
     cases n <;> simp only[vT] at hx <;> simp only[Oper.upon]
     case value v=>exact h _ _ (hx.2 w' (Up.refl _))
     case skip=>exact h _ _ (hx.2 w' (Up.refl _))
     case enter f args =>
      refine hx.mono fun e w'' ⟨v,he,hk⟩=>?_
      subst he
      exact h _ _ (hk.2 w'' (Up.refl _))
   | halt x w'=>simp only[vT] at hx
  ·rename_i hw;simp only[hw] at hx;exact h _ _ (hx w (Up.refl w))
theorem aLA {Q':Exit→Act→World→Prop} {i:Nat} {K K':Act→World→Prop} {a:Act} {w:World} (h:∀ a w,K a w→K' a w) (hx:xOp P ops W Q' i K a w):wpOp P ops Q' i K' a w:=by
 unfold xOp at hx
 cases hW:W i with
 | true=>rw[hW,cond_true] at hx;exact wpOp_mono h hx
 | false=>rw[hW,cond_false] at hx;exact aIs h hx
theorem aC1 {Q':Exit→Act→World→Prop}:∀ (fuel:Nat) (listed:Array Bool) (a:Act) (w:World),
 xM P md ops W Q' fuel listed a w→wpAny P md ops Q' fuel listed a w
 | 0,_,_,_,h=>⟨h.1,h.2⟩
 | fuel+1,_,_,_,h=>⟨fun h0=>h.1 h0,fun i hi=>aLA (fun a' w' h'=>aC1 fuel _ a' w' h') (h.2 i hi)⟩
def YQ (P:Program) (ops:Array Oper) (o:Oper) (v:Value) (a:Act) (w:World):Prop :=
 (Region.wanted o (yielded ops a.tmps)=true∧∀ w2,Up w w2→xop P o a w2 fun u w3=>u=v∧Up w2 w3) ∨
 (Region.wanted o (yielded ops a.tmps)=false∧v=undef)
theorem YQ.up {o:Oper} {v:Value} {a:Act} {w w':World} (h:YQ P ops o v a w) (hw:Up w w'):YQ P ops o v a w':=by
 rcases h with ⟨h1,h2⟩ | h
 ·exact .inl ⟨h1,fun w2 h=>h2 w2 (hw.trans h)⟩
 ·exact .inr h
theorem YQ.of_same {o:Oper} {v:Value} {a a':Act} {w:World} (hy:YQ P ops o v a w) (he:execOp a'.eval o=execOp a.eval o)
 (hw:Region.wanted o (yielded ops a'.tmps)=Region.wanted o (yielded ops a.tmps)):YQ P ops o v a' w:=by
 unfold YQ xop at *
 rw[he,hw]
 exact hy
theorem aQC {j:Nat} {oi oj:Oper} {v:Value} (hj:ops[j]? = some oj) (hap:oi.apart ops oj=true)
 (hsj:∀ cs b,oj.op≠.select cs b) {K:Act→World→Prop} {a:Act} {w:World}
 (h:aB8 P ops j K (a.put oi.dst v) w):aB8 P ops j (fun a' w'=>Up w w'∧(∃ u,a'=a.put oj.dst u)∧K (a'.put oi.dst v) w') a w:=by
 obtain ⟨h1,h2,_⟩:=Oper.apart_spec hap
 unfold aB8 at *
 simp only[hj] at *
 rw[wanted_put oj a oi.dst v h1] at h
 split
 ·rename_i hw
  simp only[hw,if_true] at h
  unfold xop at *
  rw[execOp_put oj hsj a oi.dst v h1] at h
  generalize (execOp a.eval oj).run P w=r at *
  have hh:∀ u w',(Up w w'∧∀ w'',Up w' w''→K ((a.put oi.dst v).put oj.dst u) w'') →
   Up w w'∧∀ w'',Up w' w''→Up w w''∧(∃ u',a.put oj.dst u=a.put oj.dst u')∧K ((a.put oj.dst u).put oi.dst v) w'':=by
   intro u w' ⟨g1,g2⟩
   exact ⟨g1,fun w'' aA5=>⟨g1.trans aA5,⟨u,rfl⟩,by rw[← Act.put_comm a v u h2];exact g2 w'' aA5⟩⟩
  cases r with
  | ok n w' =>
    cases n <;> simp only[vT] at h ⊢
    case value u=>exact hh u w' h
    case skip=>exact hh undef w' h
    case enter f args=>exact h.mono fun e w'' ⟨u,he,hk⟩=>⟨u,he,hh u w'' hk⟩
  | halt x w'=>simp only[vT] at h
 ·rename_i hw
  simp only[hw] at h
  exact fun w' lK=>⟨lK,⟨undef,rfl⟩,by rw[← Act.put_comm a v undef h2];exact h w' lK⟩
structure aTK (md:Region.Mode) (ops:Array Oper) (W:Nat→Bool) (listed:Array Bool) (i:Nat) (oi:Oper) (D:Nat→Bool):Prop where
 close:∀ k ok,ops[k]? = some ok→D k=true→∃ e∈ok.after,Region.binds md e=true∧(e.on=i∨D e.on=true)
 open_:∀ k,D k=true→listed.getD k true=false
 rest:∀ j oj,ops[j]? = some oj→j≠i→listed.getD j true=false→D j=false→oi.apart ops oj=true∧W j=false
theorem yO {Q:Exit→Act→World→Prop} {i:Nat} {oi:Oper} {v:Value} (hi:ops[i]? = some oi) (hsel:∀ (j:Nat) (o:Oper) cs b,ops[j]? = some o→o.op≠.select cs b) (hWi:W i=false) :
 ∀ (fuel:Nat) (listed:Array Bool) (a:Act) (w:World),
   (∃ D,aTK md ops W listed i oi D) →
   i∈Region.ready md ops listed→YQ P ops oi v a w →
   (∀ w',Up w w'→xM P md ops W Q fuel (listed.setIfInBounds i true) (a.put oi.dst v) w')→xM P md ops W Q (fuel+1) listed a w:=by
 intro fuel
 have self:∀ (fuel:Nat) (listed:Array Bool) (a:Act) (w:World),YQ P ops oi v a w→(∀ w',Up w w'→xM P md ops W Q fuel (listed.setIfInBounds i true) (a.put oi.dst v) w') →
  xOp P ops W Q i (xM P md ops W Q fuel (listed.setIfInBounds i true)) a w:=by
  intro fuel listed a w hy H
  unfold xOp
  rw[hWi,cond_false]
  unfold aB8
  simp only[hi]
  rcases hy with ⟨hw,hv⟩ | ⟨hw,rfl⟩
  ·simp only[hw,if_true]
   refine aAa (fun u w' ⟨e,hu⟩=>?_) (hv w (Up.refl w))
   subst e
   exact ⟨hu,fun w'' aA5=>H w'' (hu.trans aA5)⟩
  ·simp only[hw,aN,if_false]
   exact H
 induction fuel with
 | zero =>
   intro listed a w _ hr hy H
   refine ⟨fun h=>(by rw[h] at hr;cases hr),fun j hj=>?_⟩
   by_cases hji:j=i
   ·subst hji;exact self _ _ _ _ hy H
   ·have:=ready_mono hj hji
    rw[(H w (Up.refl w)).1] at this
    cases this
 | succ fuel ih =>
   intro listed a w hfree hr hy H
   refine ⟨fun h=>(by rw[h] at hr;cases hr),fun j hj=>?_⟩
   by_cases hji:j=i
   ·subst hji;exact self _ _ _ _ hy H
   ·have h1:=(H w (Up.refl w)).2 j (ready_mono hj hji)
    obtain ⟨aVS,oj,hoj,hall⟩:=mem_ready.1 hj
    obtain ⟨D,hF⟩:=hfree
    have aSJ:∀ k,listed.getD k true=false→listed.getD k false=true→False:=fun k h0 h1=>by
     rcases aY k listed.size with h' | h'
     ·simp [h'] at h0 h1;rw[h0] at h1;cases h1
     ·simp [Array.getElem?_eq_none h'] at h1
    have hDj:D j=false:=by
     cases hd:D j with
     | false=>rfl
     | true =>
       exfalso
       obtain ⟨e,he,hb,heq⟩:=hF.close j oj hoj hd
       have h1:=hall e he hb
       rcases heq with heq | heq
       ·rw[heq] at h1;exact aSJ i (mem_ready.1 hr).1 h1
       ·exact aSJ _ (hF.open_ _ heq) h1
    obtain ⟨hap,hWj⟩:=hF.rest j oj hoj hji aVS hDj
    unfold xOp at h1 ⊢
    rw[hWj,cond_false] at h1 ⊢
    have h2:=aQC hoj hap (fun cs b=>hsel j oj cs b hoj) h1
    have aTL:∃ D,aTK md ops W (listed.setIfInBounds j true) i oi D:=by
     refine ⟨D,hF.close,fun k hk=>?_,fun k ok hk hki hun hd=>?_⟩
     ·have hjk:j≠k:=fun e=>by rw[e,hk] at hDj;cases hDj
      rw[getD_set_ne true hjk]
      exact hF.open_ k hk
     ·refine hF.rest k ok hk hki ?_ hd
      by_cases hjk:j=k
      ·subst hjk;exact aVS
      ·rw[getD_set_ne true hjk] at hun;exact hun
    obtain ⟨_,_,h3⟩:=Oper.apart_spec hap
    -- after j,in each world with more blocks
    have h4:aB8 P ops j (xM P md ops W Q (fuel+1) (listed.setIfInBounds j true)) a w:=by
     unfold aB8 at h2 ⊢
     simp only[hoj] at h2 ⊢
     have step:∀ u w',(∀ w'',Up w' w''→Up w w''∧(∃ u',a.put oj.dst u=a.put oj.dst u')∧xM P md ops W Q fuel ((listed.setIfInBounds i true).setIfInBounds j true) ((a.put oj.dst u).put oi.dst v) w'') →
      ∀ w'',Up w' w''→xM P md ops W Q (fuel+1) (listed.setIfInBounds j true) (a.put oj.dst u) w'':=by
      intro u w' hk w'' aA5
      refine ih (listed.setIfInBounds j true) _ w'' aTL (ready_mono hr (Ne.symm hji)) ?_ ?_
      ·exact (hy.up (hk w'' aA5).1).of_same (execOp_put oi (fun cs b=>hsel i oi cs b hi) a oj.dst u h3) (wanted_put oi a oj.dst u h3)
      ·intro w3 hw3
       rw[Array.setIfInBounds_comm _ _ (Ne.symm (Ne.symm hji))]
       exact (hk w3 (aA5.trans hw3)).2.2
     split
     ·rename_i hw
      simp only[hw,if_true] at h2
      exact aAa (fun u w' ⟨g1,g2⟩=>⟨g1,step u w' g2⟩) h2
     ·rename_i hw
      simp only[hw] at h2
      exact step undef w h2
    exact h4
end
end Go.Dl

namespace Go.Dl
variable [eC]
open Go.RowKit
def inW (l:List Nat) (i:Nat):Bool:=l.any (Nat.beq i)
def aA6 (md:Region.Mode) (ops:Array Oper) (listed:Array Bool) (i:Nat):List Nat→List Nat→List Nat
 | [],d=>d
 | j::r,d=>aA6 md ops listed i r (bif !listed.getD j true && (ops[j]?).elim false fun oj=>oj.after.any fun e=>Region.binds md e && (e.on == i || d.any (Nat.beq e.on)) then j::d else d)
def aJX (md:Region.Mode) (ops:Array Oper) (W:Nat→Bool) (listed:Array Bool) (i:Nat):Bool :=
 match ops[i]? with
 | none=>false
 | some oi =>
   let d:=aA6 md ops listed i (List.range ops.size) []
   (List.range ops.size).all fun j=>j == i || listed.getD j true || d.any (Nat.beq j) || match ops[j]? with
    | some oj=>oi.apart ops oj && !W j
    | none=>true
def jI (md:Region.Mode) (ops:Array Oper) (W:Nat→Bool):Array Bool→List Nat→Option (Array Bool)
 | listed,[]=>some listed
 | listed,i::r =>
   bif (Region.ready md ops listed).contains i && (aJX md ops W listed i && (!W i && (ops[i]?).elim false fun o=>iK o.op)) then jI md ops W (listed.setIfInBounds i true) r else none
def aAb (md:Region.Mode) (ops:Array Oper):Array Bool→List Nat→Bool
 | listed,[]=>(Region.ready md ops listed).isEmpty
 | listed,j::r=>decide (Region.ready md ops listed=[j]) && aAb md ops (listed.setIfInBounds j true) r
def opsOf (ops:Array Oper) (l:List Nat):List Oper:=l.filterMap fun i=>ops[i]?
def bQ (P:Program) (n:Nat) (ops:Array Oper) (W:Nat→Bool) {A T:Type} (fuel:Nat) (listed:Array Bool) (cs:List Code) (st:St) (m:Option (A ⊕ T)) (go:T→St) (ab:A→Ex × St):Prop :=
 ∀ Γ S β a w,RR Γ S β a w n st→∀ x,m=some x→xM P .any ops W (Exit.then (wpL P cs (Post Γ n go ab x)) (Post Γ n go ab x)) fuel listed a w
section
variable {P:Program} {n:Nat} {ops:Array Oper} {W:Nat→Bool} {md:Region.Mode}
theorem aBG {i:Nat} {listed:Array Bool}:∀ (l d:List Nat),
 (∀ k∈d,listed.getD k true=false∧∀ ok,ops[k]? = some ok→∃ e∈ok.after,Region.binds md e=true∧(e.on=i∨e.on∈d)) →
 ∀ k∈aA6 md ops listed i l d,listed.getD k true=false∧∀ ok,ops[k]? = some ok→∃ e∈ok.after,Region.binds md e=true∧(e.on=i∨e.on∈aA6 md ops listed i l d)
 | [],d,h=>h
 | j::r,d,h=>by
   unfold aA6
   refine aBG r _ ?_
   intro k hk
   cases hc:(!listed.getD j true && (ops[j]?).elim false fun oj=>oj.after.any fun e=>Region.binds md e && (e.on == i || d.any (Nat.beq e.on))) with
   | false =>
     rw[hc,cond_false] at hk
     rw[cond_false]
     exact h k hk
   | true =>
     rw[hc,cond_true] at hk
     rw[cond_true]
     rcases bE.1 hk with rfl | hk
     ·simp only[aC,aP] at hc
      refine ⟨hc.1,fun ok hok=>?_⟩
      have h2:=hc.2
      rw[hok] at h2
      simp only[Option.elim] at h2
      obtain ⟨e,he,hb⟩:=Array.any_eq_true'.1 h2
      simp only[aC,aM,beq_iff_eq,List.any_eq_true] at hb
      refine ⟨e,he,hb.1,?_⟩
      rcases hb.2 with h3 | ⟨x,hx,h3⟩
      ·exact .inl h3
      ·right
       have:=aF h3
       rw[this]
       exact aX _ hx
     ·obtain ⟨h1,h2⟩:=h k hk
      refine ⟨h1,fun ok hok=>?_⟩
      obtain ⟨e,he,hb,h3⟩:=h2 ok hok
      exact ⟨e,he,hb,h3.imp id (aX _)⟩
theorem yP {i:Nat} {oi:Oper} {listed:Array Bool} (hi:ops[i]? = some oi) (h:aJX md ops W listed i=true):∃ D,aTK md ops W listed i oi D:=by
 have hs:=aBG (md:=md) (ops:=ops) (i:=i) (listed:=listed) (List.range ops.size) [] (fun k hk=>by cases hk)
 simp only[aJX,hi,aK,List.mem_range] at h
 generalize aA6 md ops listed i (List.range ops.size) []=d at *
 have hmem:∀ k,d.any (Nat.beq k)=true↔k∈d:=fun k=>by
  rw[List.any_eq_true]
  constructor
  ·rintro ⟨x,hx,hb⟩
   rw[aF hb];exact hx
  ·intro hk;exact ⟨k,hk,by simp⟩
 refine ⟨fun k=>d.any (Nat.beq k),fun k ok hok hk=>?_,fun k hk=>(hs k ((hmem k).1 hk)).1,fun j oj hj hne hun hd=>?_⟩
 ·obtain ⟨e,he,hb,h3⟩:=(hs k ((hmem k).1 hk)).2 ok hok
  exact ⟨e,he,hb,h3.imp id fun h=>(hmem _).2 h⟩
 ·have h1:=h j (Array.getElem?_eq_some_iff.1 hj).1
  rw[hd] at h1
  simp only[hj,aM,beq_iff_eq,hne,false_or,hun,aN] at h1
  simpa using h1
theorem RR.up {Γ:lI} {S:Mem} {β:dK} {a:Act} {w w':World} {st:St} (h:RR Γ S β a w n st) (hu:Up w w'):RR Γ S β a w' n st :=
 ⟨h.core.aJT hu.os hu.tape hu.output hu.size hu.block,h.tm,h.un,h.size,h.defers,h.hand⟩
theorem aGE {Q:Exit→Act→World→Prop} {Γ:lI} {S:Mem} {β:dK} {fuel:Nat} {mZ:Array Bool} {rF:St} (hsel:Region.noSelect ops=true):∀ {is:List Nat} {listed:Array Bool} {st:St} {vs:List Bool} {a:Act} {w:World},
 RR Γ S β a w n st→jI md ops W listed is=some mZ→kN P n ops (opsOf ops is) st=some (vs,rF)→(∀ b∈vs,b=true) →
 (∀ a' w',RR Γ S β a' w' n rF→xM P md ops W Q fuel mZ a' w')→xM P md ops W Q (is.length+fuel) listed a w
 | [],listed,st,vs,a,w,hr,hf,he,hvs,hk=>by
   simp only[jI,aA] at hf
   subst hf
   simp only[opsOf,List.filterMap_nil,kN,aA,aI] at he
   obtain ⟨_,rfl⟩:=he
   rw[List.length_nil,Nat.zero_add]
   exact hk a w hr
 | i::r,listed,st,vs,a,w,hr,hf,he,hvs,hk=>by
   unfold jI at hf
   obtain ⟨hc,hf⟩:=bS hf
   simp only[aC,aP] at hc
   obtain ⟨hrd,hfree,hWi,hq⟩:=hc
   cases ho:ops[i]? with
   | none=>rw[ho] at hq;cases hq
   | some o =>
     rw[ho] at hq
     simp only[Option.elim] at hq
     have aA7:opsOf ops (i::r)=o::opsOf ops r:=by simp [opsOf,ho]
     rw[aA7] at he
     unfold kN at he
     split at he
     ·rename_i v st1 h1
      split at he
      ·rename_i vs2 st3 h2
       simp only[aA,aI] at he
       obtain ⟨rfl,rfl⟩:=he
       have hv1:∀ b∈v,b=true:=fun b hb=>hvs b (List.mem_append_left _ hb)
       have hv2:∀ b∈vs2,b=true:=fun b hb=>hvs b (List.mem_append_right _ hb)
       rw[List.length_cons,show r.length+1+fuel=(r.length+fuel)+1 by omega]
       have key:∀ u,YQ P ops o u a w→RR Γ S β (a.put o.dst u) w n st1→xM P md ops W Q (r.length+fuel+1) listed a w:=by
        intro u hy oS
        exact yO ho (Region.noSelect_spec hsel) hWi _ listed a w (yP ho hfree) (by simpa using hrd) hy
         fun w' lK=>aGE hsel (oS.up lK) hf h2 hv2 hk
       rcases kK hr h1 hv1 with ⟨hw,u,w',S',β',_,oS,hqq⟩ | ⟨hw,oS⟩
       ·obtain ⟨rfl,rfl,rfl,hrun⟩:=hqq hq
        refine key u (.inl ⟨hw,fun w2 hw2=>?_⟩) oS
        unfold xop
        rw[hrun w2 (.inr hw2)]
        exact ⟨rfl,Up.refl _⟩
       ·exact key undef (.inr ⟨hw,rfl⟩) oS
      ·cases he
     ·cases he
theorem aBH {Q':Exit→Act→World→Prop}:∀ (js:List Nat) (listed:Array Bool) (a:Act) (w:World),aAb md ops listed js=true→(js.all fun j=>W j && (ops[j]?).isSome)=true →
 wpList P ops Q' (opsOf ops js) a w→xM P md ops W Q' js.length listed a w
 | [],listed,a,w,hs,_,h=>⟨by simpa [aAb] using hs,h⟩
 | j::r,listed,a,w,hs,hW,h=>by
   simp only[aAb,aC,aB] at hs
   simp only[List.all_cons,aC] at hW
   refine ⟨fun h1=>(by rw[hs.1] at h1;cases h1),fun i hi=>?_⟩
   rw[hs.1] at hi
   have hik:i=j:=by simpa using hi
   subst hik
   obtain ⟨o,ho⟩:=bD.1 hW.1.2
   have aA7:opsOf ops (i::r)=o::opsOf ops r:=by simp [opsOf,ho]
   rw[aA7] at h
   unfold xOp
   rw[hW.1.1,cond_true]
   have hw:wpOp P ops Q' i (wpList P ops Q' (opsOf ops r)) a w:=by unfold wpOp;simp only[ho];exact h
   exact wpOp_mono (fun a' w' h'=>aBH r _ a' w' hs.2 (by rw[aK];simpa using hW.2) h') hw
variable {A T:Type} {go:T→St} {ab:A→Ex × St} {st:St} {m:Option (A ⊕ T)} {cs:List Code}
theorem bQ.ev (is keep om:List Nat) {fuel fuel':Nat} {listed mZ:Array Bool} {vs:List Bool} {cR:St} (tK:fuel=is.length+fuel')
 (hf:(bif Region.noSelect ops then jI .any ops W listed is else none)=some mZ) (he:iR P n ops (opsOf ops is) st keep om=some (vs,cR))
 (h:bQ P n ops W fuel' mZ cs cR m go ab):bQ P n ops W fuel listed cs st (bW vs m) go ab:=by
 intro Γ S β a w hr x hx
 obtain ⟨hvs,hm⟩:=fX hx
 obtain ⟨hsel,hf⟩:=bS hf
 subst tK
 unfold iR at he
 split at he
 ·rename_i vs2 rF h2
  cases hk:rF.keep keep om with
  | none=>rw[hk] at he;cases he
  | some st3 =>
    rw[hk] at he
    simp only[Option.map_some,aA,aI] at he
    obtain ⟨rfl,rfl⟩:=he
    exact aGE hsel hr hf h2 hvs fun a' w' h'=>h Γ S (gA β om) a' w' (gK h' hk) x hm
 ·cases he
theorem bQ.tail (js:List Nat) {fuel:Nat} {listed:Array Bool} (tK:fuel=js.length) (hs:(aAb .any ops listed js && js.all fun j=>W j && (ops[j]?).isSome)=true)
 (h:cY P n ops (opsOf ops js) cs st m go ab):bQ P n ops W fuel listed cs st m go ab:=by
 intro Γ S β a w hr x hx
 rw[aC] at hs
 subst tK
 exact aBH js listed a w hs.1 hs.2 (h Γ S β a w hr x hx)
theorem bQ.done {listed:Array Bool} (hs:(Region.ready .any ops listed).isEmpty=true) (h:Ref P n cs st m go ab):bQ P n ops W 0 listed cs st m go ab :=
 fun Γ S β a w hr x hx=>⟨by simpa using hs,h Γ S β a w hr x hx⟩
end
end Go.Dl

namespace Go.Dl
variable [eC]
open Go.RowKit
def C.exact:C→Option Value
 | .val v=>some v
 | .str l=>some (.string ⟨l.toArray⟩)
 | .nil=>some (.slice none 0 0)
 | .iface b t c=>match c.exact with
   | some u=>some (if b=true then .iface t u else .nilIface)
   | none=>none
 | _=>none
def vU:List C→Option (List Value)
 | []=>some []
 | c::r=>match c.exact,vU r with
   | some u,some us=>some (u::us)
   | _,_=>none
def D1.exact:D1→Option Value
 | .c x=>x.exact
 | .agg l=>match vU l with
   | some us=>some (.agg us.toArray)
   | none=>none
def aA8:List D1→Option (List Value)
 | []=>some []
 | c::r=>match c.exact,aA8 r with
   | some u,some us=>some (u::us)
   | _,_=>none
def D.exact:D→Option Value
 | .c x=>x.exact
 | .agg l=>match vU l with
   | some us=>some (.agg us.toArray)
   | none=>none
 | .iV l=>match aA8 l with
   | some us=>some (.tuple us.toArray)
   | none=>none
theorem C.nA:∀ {c:C} {u v:Value} {S:Mem} {β:dK},c.exact=some u→cW S β c v→v=u
 | .val _,_,_,_,_,h,hr=>by simp only[C.exact,aA] at h;subst h;exact hr
 | .str _,_,_,_,_,h,hr=>by simp only[C.exact,aA] at h;subst h;exact hr.1
 | .nil,_,_,_,_,h,hr=>by simp only[C.exact,aA] at h;subst h;exact hr
 | .iface b t c,u,v,S,β,h,hr=>by
   unfold C.exact at h
   split at h
   ·rename_i z hz
    simp only[aA] at h
    subst h
    simp only[cW] at hr
    cases b with
    | true =>
      simp only[if_true] at hr ⊢
      obtain ⟨z',rfl,hz'⟩:=hr
      rw[C.nA hz hz']
    | false =>
      simp only[aN,if_false] at hr ⊢
      exact hr
   ·cases h
theorem aA9 {S:Mem} {β:dK}:∀ {l:List C} {us vs:List Value},vU l=some us→eM S β l vs→vs=us
 | [],_,_,h,hr=>by simp only[vU,aA] at h;subst h;exact hr
 | c::l,us,vs,h,hr=>by
   unfold vU at h
   split at h
   ·rename_i u us' hu hus
    simp only[aA] at h
    subst h
    obtain ⟨v,r,rfl,h1,h2⟩:=hr
    rw[C.nA hu h1,aA9 hus h2]
   ·cases h
theorem D1.nA {S:Mem} {β:dK} {d:D1} {u v:Value} (h:d.exact=some u) (hr:kX S β d v):v=u:=by
 cases d with
 | c x=>exact C.nA h hr
 | agg l =>
   simp only[D1.exact] at h
   cases hus:vU l with
   | none=>rw[hus] at h;cases h
   | some us =>
     rw[hus] at h
     simp only[aA] at h
     subst h
     obtain ⟨vs,rfl,h2⟩:=hr
     rw[aA9 hus h2]
theorem aEX {S:Mem} {β:dK}:∀ {l:List D1} {us vs:List Value},aA8 l=some us→tW S β l vs→vs=us
 | [],_,_,h,hr=>by simp only[aA8,aA] at h;subst h;exact hr
 | c::l,us,vs,h,hr=>by
   unfold aA8 at h
   split at h
   ·rename_i u us' hu hus
    simp only[aA] at h
    subst h
    obtain ⟨v,r,rfl,h1,h2⟩:=hr
    rw[D1.nA hu h1,aEX hus h2]
   ·cases h
theorem D.nA {S:Mem} {β:dK} {d:D} {u v:Value} (h:d.exact=some u) (hr:dU S β d v):v=u:=by
 cases d with
 | c x=>exact C.nA h hr
 | agg l =>
   simp only[D.exact] at h
   cases hus:vU l with
   | none=>rw[hus] at h;cases h
   | some us =>
     rw[hus] at h
     simp only[aA] at h
     subst h
     obtain ⟨vs,rfl,h2⟩:=hr
     rw[aA9 hus h2]
 | iV l =>
   simp only[D.exact] at h
   cases hus:aA8 l with
   | none=>rw[hus] at h;cases h
   | some us =>
     rw[hus] at h
     simp only[aA] at h
     subst h
     obtain ⟨vs,rfl,h2⟩:=hr
     rw[aEX hus h2]
section
variable {P:Program} {n:Nat} {ops:Array Oper} {W:Nat→Bool} {A T R:Type} {go:T→St} {ab:A→Ex × St} {st:St} {cs:List Code}
theorem aBI {Γ:lI} {S:Mem} {β:dK} {a:Act} {w:World} {o:Oper} {g:List (Nat × Bool)} {b:Bool} (hr:RR Γ S β a w n st) (hg:guardOf ops o st=some g) (hb:kB st g=some b) :
 (b=true∧st.holds g∧Region.wanted o (yielded ops a.tmps)=true)∨(b=false∧¬ st.holds g∧Region.wanted o (yielded ops a.tmps)=false):=by
 by_cases hh:st.holds g
 ·left
  have hbt:=oG hb hh
  subst hbt
  have z8:Region.wanted o (yielded ops a.tmps)=true:=by
   unfold guardOf at hg
   cases hgd:o.guard with
   | none=>simp [Region.wanted,hgd]
   | some jw =>
     obtain ⟨j,want⟩:=jw
     rw[hgd] at hg
     dsimp only at hg
     cases vP:(ops[j]?).bind (·.dst) with
     | none=>rw[vP] at hg;cases hg
     | some tj =>
       rw[vP] at hg
       simp only[aA] at hg
       subst hg
       have hrel:=hr.tm tj (fun q hq=>hh q (aX _ hq))
       have hxw:=hh (tj,want) (by simp)
       simp only at hxw
       rw[hxw] at hrel
       have hval:a.tmps.getD tj undef = .bool want:=hrel
       have hsome:a.tmps[tj]? = some (.bool want):=by
        rw[aL] at hval
        cases hq:a.tmps[tj]? with
        | none=>rw[hq] at hval;cases hval
        | some u=>rw[hq] at hval;simp only[Option.getD_some] at hval;rw[hval]
       have jB:yielded ops a.tmps j=some want:=by
        unfold yielded
        rw[vP]
        show (match a.tmps[tj]? with | some (.bool b)=>some b | _=>none)=some want
        rw[hsome]
       simp only[Region.wanted,hgd,jB]
       simp
  exact ⟨rfl,hh,z8⟩
 ·right
  have hb0:b=false:=by
   cases b with
   | false=>rfl
   | true=>exact absurd (pR hb) hh
  subst hb0
  have hwt:Region.wanted o (yielded ops a.tmps)=false:=by
   unfold guardOf at hg
   cases hgd:o.guard with
   | none =>
     rw[hgd] at hg
     simp only[aA] at hg
     subst hg
     exact absurd (fun q hq=>by cases hq) hh
   | some jw =>
     obtain ⟨j,want⟩:=jw
     rw[hgd] at hg
     dsimp only at hg
     cases vP:(ops[j]?).bind (·.dst) with
     | none=>rw[vP] at hg;cases hg
     | some tj =>
       rw[vP] at hg
       simp only[aA] at hg
       subst hg
       obtain ⟨x0,hx0⟩:=oH hb
       have qH:∀ (yl:Option Bool),yielded ops a.tmps j=yl→Region.wanted o (yielded ops a.tmps)=(yl == some want):=by
        intro yl hy
        simp only[Region.wanted,hgd,hy]
       have jB:yielded ops a.tmps j=match a.tmps[tj]? with | some (.bool b)=>some b | _=>none:=by
        unfold yielded
        rw[vP]
        rfl
       by_cases oS:st.holds (st.oQ tj)
       ·have hrel:=hr.tm tj oS
        rw[hx0] at hrel
        have hval:a.tmps.getD tj undef = .bool x0:=hrel
        have hsome:a.tmps[tj]? = some (.bool x0):=by
         rw[aL] at hval
         cases hq:a.tmps[tj]? with
         | none=>rw[hq] at hval;cases hval
         | some u=>rw[hq] at hval;simp only[Option.getD_some] at hval;rw[hval]
        rw[qH (some x0) (by rw[jB,hsome])]
        have hne:x0≠want:=by
         intro e
         subst e
         refine hh fun q hq=>?_
         rcases bE.1 hq with rfl | hq
         ·exact hx0
         ·exact oS q hq
        simpa using hne
       ·have hun:=hr.un tj oS
        have hnone:yielded ops a.tmps j=none:=by
         rw[jB]
         rw[aL] at hun
         cases hq:a.tmps[tj]? with
         | none=>rfl
         | some u =>
           rw[hq] at hun
           simp only[Option.getD_some] at hun
           rw[hun];rfl
        rw[qH none hnone]
        rfl
  exact ⟨rfl,hh,hwt⟩
theorem aQE {o:Oper} {a:Act} {w:World} {k:Value→World→Prop} (h:xop P o a w k):∃ v w',k v w':=by
 unfold xop at h
 generalize (execOp a.eval o).run P w=r at *
 cases r with
 | ok n w' =>
   cases n <;> simp only[vT] at h
   case value v=>exact ⟨v,w',h⟩
   case skip=>exact ⟨undef,w',h⟩
   case enter f args =>
    obtain ⟨e,w',fr,⟨v,_,hk⟩,_⟩:=h []
    exact ⟨v,w',hk⟩
 | halt x w'=>simp only[vT] at h
theorem aGF {Γ:lI} {S:Mem} {β:dK} {a:Act} {w:World} {o:Oper} {x:Operand} {args:Array Operand} {sN:Array TypeId} {f:FuncId} {dI:List D} {g:List (Nat × Bool)}
 {mc:Option R} {res:R→D} {rF:St} {bo:List Nat} {r:R} (hr:RR Γ S β a w n st)
 (nJ:bR P f dI [] mc res (fun _=>[])) (hh:st.holds g) (ho:o.op = .call ⟨.value x,args,sN⟩)
 (hfr:st.n9 bo=some rF) (gI:kZ rF g x args.toList=some (f,dI)) (hf:kY P f=true)
 (kH:dI.all D.shut=true) (hm:mc=some r):xop P o a w fun v w'=>(∃ S' β',dU S' β' (res r) v)∧Up w w':=by
 obtain ⟨S2,vH,aTI⟩:=sR hr hfr
 unfold kZ at gI
 split at gI
 ·rename_i f' k cap hx
  simp only[aA,aI] at gI
  obtain ⟨rfl,qI⟩:=gI
  have hh2:rF.holds g:=(aTI g).2 hh
  have hxr:=iL vH hh2 x
  rw[hx] at hxr
  obtain ⟨vs,hxv,vS⟩:=tJ hxr
  have hrun:(execOp a.eval o).run P w = .ok (.enter f' (args.map a.eval++vs)) w:=by
   unfold execOp
   rw[ho]
   simp only[resolve,hxv,Deferred.ofValue,pure_bind,invoke]
   rw[lN hf]
   simp
  unfold xop
  simp only[hrun,vT]
  have hvm:∀ (l:List Operand),gG S2 β (l.map (rF.see g).lv) (l.map a.eval):=by
   intro l
   induction l with
   | nil=>rfl
   | cons x l ih=>exact ⟨_,_,rfl,iL vH hh2 x,ih⟩
  have hargs:gG S2 β dI (args.map a.eval++vs).toList:=by
   rw[← qI]
   have e:(args.map a.eval++vs).toList=args.toList.map a.eval++vs.toList:=by simp
   rw[e]
   exact (hvm args.toList).append vS
  have hclosed:gG S2 sL dI (args.map a.eval++vs).toList:=gG.shut kH hargs
  have oR:Core ⟨S2,w,w8 sL [],sL⟩ S2 sL w [] :=
   ⟨⟨rfl,rfl,rfl,aO _,fun _ _ _=>rfl,fun _ _ _ _=>rfl,kS.refl _,fun b hb=>by obtain ⟨o,k,x,hx,_⟩:=hb;simp at hx,vH.core.inv⟩,vH.core.holds,fun o x hx=>by simp at hx,fun _ _=>rfl,
    fun o o' k k' x x' hx=>by simp at hx,fun o k x hx=>by simp at hx,fun o k x hx=>by simp at hx⟩
  have:=nJ S2 sL w (args.map a.eval++vs).toList oR hclosed r hm
  have e2:(args.map a.eval++vs).toList.toArray=args.map a.eval++vs:=by simp
  rw[e2] at this
  refine this.mono fun e w' he=>?_
  obtain ⟨v,S',βc,rfl,hres,_,aCZ⟩:=he
  have hnm:∀ b,¬ w8 sL [] b:=by
   rintro b ⟨o,k,x,hx,_⟩
   simp at hx
  exact ⟨v,rfl,⟨S',βc,hres⟩,⟨aCZ.frame.os,aCZ.frame.tape,aCZ.frame.output,aCZ.frame.size,fun b hb=>aCZ.frame.block b hb (hnm b)⟩⟩
 ·cases gI
def aC2 (ops:Array Oper) (W:Nat→Bool) (listed:Array Bool) (i:Nat):Bool :=
 Region.noSelect ops && ((Region.ready .any ops listed).contains i && (aJX .any ops W listed i && !W i))
theorem bQ.look {o:Oper} {x:Operand} {args:Array Operand} {sN:Array TypeId} {t:Nat} {f:FuncId} {dI:List D} {g:List (Nat × Bool)} {b:Bool}
 {mc:Option R} {res:R→D} {m:R→Option (A ⊕ T)} {rF:St} {fuel:Nat} {listed:Array Bool} (i:Nat) (bo:List Nat) (r0:R)
 (nJ:bR P f dI [] mc res (fun _=>[])) (hi:ops[i]? = some o) (aBa:aC2 ops W listed i=true)
 (hg:guardOf ops o st=some g) (hb:kB st g=some b) (ho:o.op = .call ⟨.value x,args,sN⟩) (nI:o.dst=some t)
 (hfr:st.n9 bo=some rF) (gI:kZ rF g x args.toList=some (f,dI)) (hf:kY P f=true)
 (hn:(Nat.blt t n && (mY st t && g.all fun q=>!Nat.beq q.1 t))=true) (hex:∀ r,(res r).exact.isSome=true) (aBE:∀ r,(res r).flat=true) (kH:dI.all D.shut=true)
 (h:∀ r,bQ P n ops W fuel (listed.setIfInBounds i true) cs (st.put (some t) (res r) st.cD g) (m r) go ab) :
 bQ P n ops W (fuel+1) listed cs st ((cK b mc r0).bind m) go ab:=by
 intro Γ S β a w hr q hq
 simp only[aC,aK,aU] at hn
 obtain ⟨htn,hfree,hgt⟩:=hn
 have z7:∀ q∈g,q.1≠t:=fun q hq e=>by
  have:=hgt q hq
  rw[e] at this
  simp at this
 simp only[aC2,aC,aP] at aBa
 obtain ⟨hsel,hrd,hfw,hWi⟩:=aBa
 rcases aBI hr hg hb with ⟨rfl,hh,hw⟩ | ⟨rfl,hh,hw⟩
 ·simp only[cK,if_true] at hq
  cases hm:mc with
  | none=>rw[hm] at hq;cases hq
  | some r =>
    rw[hm,Option.bind_some] at hq
    obtain ⟨u,hu⟩:=bD.1 (hex r)
    have hy:YQ P ops o u a w:=by
     refine .inl ⟨hw,fun w2 hw2=>?_⟩
     exact aAa (fun v w' ⟨⟨S',β',hv⟩,hup⟩=>⟨D.nA hu hv,hup⟩) (aGF (hr.up hw2) nJ hh ho hfr gI hf kH hm)
    have hrel:dU S β (res r) u:=by
     obtain ⟨v,w',⟨S',β',hv⟩,_⟩:=aQE (aGF hr nJ hh ho hfr gI hf kH hm)
     have:=D.nA hu hv
     subst this
     exact aSG (aBE r) hv
    refine yO hi (Region.noSelect_spec hsel) hWi _ listed a w (yP hi hfw) (by simpa using hrd) hy fun w' lK=>?_
    have hput:=(hr.up lK).put (hr.up lK).core (kS.refl _) (lX.refl _) htn hfree z7 (fun _=>hrel) (fun hno=>absurd hh hno)
    rw[nI]
    exact h r Γ S β _ w' hput q hq
 ·simp only[cK,aN,if_false,Option.bind_some] at hq
  refine yO hi (Region.noSelect_spec hsel) hWi _ listed a w (yP hi hfw) (by simpa using hrd) (.inr ⟨hw,rfl⟩) fun w' lK=>?_
  have hput:=(hr.up lK).put (d:=res r0) (v:=undef) (hr.up lK).core (kS.refl _) (lX.refl _) htn hfree z7 (fun hy=>absurd hy hh) (fun _=>rfl)
  rw[nI]
  exact h r0 Γ S β _ w' hput q hq
end
end Go.Dl

namespace Go.Dl
variable [eC]
def cd:Code→List Nat→Code
 | c,[]=>c
 | .seq a b,i::p=>bif Nat.beq i 0 then cd a p else cd b p
 | .cond _ a b,i::p=>bif Nat.beq i 0 then cd a p else cd b p
 | .block _ c,_::p=>cd c p
 | .loop c,_::p=>cd c p
 | c,_::_=>c
def bd (f:Func):Code:=f.body.getD .skip
def rg:Code→Array Oper
 | .region _ ops _=>ops
 | _=>#[]
def aTN:Oper:=⟨none,.move (.func 0),0,"",#[],none⟩
def lB (l:List Oper) (k:Nat):Oper:=l.getD k aTN
def qL (P:Program) (n:Nat) (o:Oper) (st:St) (om:List Nat):Option (FuncId × List D × Nat) :=
 match o.guard,o.op,o.dst with
 | none,.call ⟨.value x,args,_⟩,some t =>
   (match zX st x args.toList om with
   | some (f,dI)=>bif kY P f && (nS om && (om.all (fun o=>Nat.blt o st.cD.length) && (Nat.blt t n && mY st t))) then some (f,dI,t) else none
   | none=>none)
 | _,_,_=>none
structure vV where
 f:FuncId
 dI:List D
 t:Nat
 g:List (Nat × Bool)
 b:Bool
def lC (P:Program) (n:Nat) (ops:Array Oper) (o:Oper) (st:St) (bo:List Nat):Option vV :=
 match o.op,o.dst,guardOf ops o st,st.n9 bo with
 | .call ⟨.value x,args,_⟩,some t,some g,some rF =>
   (match kB st g,kZ rF g x args.toList with
   | some b,some (f,dI)=>bif kY P f && (dI.all D.shut && (Nat.blt t n && (mY st t && g.all fun q=>!Nat.beq q.1 t))) then some ⟨f,dI,t,g,b⟩ else none
   | _,_=>none)
 | _,_,_,_=>none
section
variable {P:Program} {n:Nat} {A T U R:Type} {go:T→St} {ab:A→Ex × St} {st cR:St} {m:Option (A ⊕ T)} {cs:List Code} {c:Code}
theorem cY.evC (k j k':Nat) (keep om:List Nat) {ops:Array Oper} {l:List Oper} {vs:List Bool} (hk:k'=k+j)
 (he:iR P n ops ((l.drop k).take j) st keep om=some (vs,cR)) (h:cY P n ops (l.drop k') cs cR m go ab):cY P n ops (l.drop k) cs st (bW vs m) go ab:=by
 refine cY.ev j keep om he ?_
 rw[List.drop_drop,← hk]
 exact h
theorem cY.aTO (k:Nat) {ops:Array Oper} {l:List Oper} (hk:Nat.ble l.length k=true) (h:Ref P n cs st m go ab):cY P n ops (l.drop k) cs st m go ab:=by
 rw[List.drop_eq_nil_of_le (aT hk)]
 exact cY.nil h
theorem p9 {l:List Oper} {k:Nat} (hk:Nat.blt k l.length=true):l.drop k=lB l k::l.drop (k+1):=by
 have hk:k<l.length:=by simpa [aU] using hk
 rw[List.drop_eq_getElem_cons hk]
 simp [lB,List.getD,aD hk]
theorem cY.cF (k k':Nat) (om:List Nat) {ops:Array Oper} {l:List Oper} {f:FuncId} {dI:List D} {t:Nat} {mc:Option R} {res:R→D} {out:R→List Obj} {m:R→Option (A ⊕ T)}
 (hk:(Nat.blt k l.length && Nat.beq k' (k+1))=true) (hi:qL P n (lB l k) st om=some (f,dI,t)) (nJ:bR P f dI (jQ st om) mc res out)
 (h:∀ r,cY P n ops (l.drop k') cs (st.put (some t) ((res r).oU om st.cD.length) (oV om (out r) st.cD) []) (m r) go ab):cY P n ops (l.drop k) cs st (mc.bind m) go ab:=by
 rw[aC] at hk
 obtain ⟨hk,hk'⟩:=hk
 have hk':=aF hk'
 subst hk'
 rw[p9 hk]
 unfold qL at hi
 split at hi
 ·rename_i x args sN t' hg hop hd
  split at hi
  ·rename_i f' sU hca
   obtain ⟨hc,hi⟩:=bS hi
   simp only[aA,aI] at hi
   obtain ⟨rfl,rfl,rfl⟩:=hi
   rw[aC] at hc
   exact cY.call nJ hg hop hd hca rfl hc.1 hc.2 h
  ·cases hi
 ·cases hi
theorem cY.lV (k k':Nat) (bo:List Nat) {ops:Array Oper} {l:List Oper} {f:FuncId} {dI:List D} {t:Nat} {g:List (Nat × Bool)} {b:Bool} {mc:Option R} {res:R→D} {m:R→Option (A ⊕ T)} (r0:R)
 (hk:(Nat.blt k l.length && Nat.beq k' (k+1))=true) (hi:lC P n ops (lB l k) st bo=some ⟨f,dI,t,g,b⟩) (nJ:bR P f dI [] mc res (fun _=>[])) (aBE:∀ r,(res r).flat=true)
 (h:∀ r,cY P n ops (l.drop k') cs (st.put (some t) (res r) st.cD g) (m r) go ab):cY P n ops (l.drop k) cs st ((cK b mc r0).bind m) go ab:=by
 rw[aC] at hk
 obtain ⟨hk,hk'⟩:=hk
 have hk':=aF hk'
 subst hk'
 rw[p9 hk]
 unfold lC at hi
 split at hi
 ·rename_i x args sN t' g' rF hop hd hg hfr
  split at hi
  ·rename_i b' f' sU hb hca
   obtain ⟨hc,hi⟩:=bS hi
   simp only[aA,vV.mk.injEq] at hi
   obtain ⟨rfl,rfl,rfl,rfl,rfl⟩:=hi
   simp only[aC] at hc
   exact cY.look bo r0 nJ hg hb hop hd hfr hca hc.1 (by simp only[aC];exact hc.2.2) aBE hc.2.1 h
  ·cases hi
 ·cases hi
theorem bQ.lV (i:Nat) (bo:List Nat) {ops:Array Oper} {W:Nat→Bool} {fuel fuel':Nat} {listed:Array Bool} {f:FuncId} {dI:List D} {t:Nat} {g:List (Nat × Bool)} {b:Bool} {mc:Option R} {res:R→D} {m:R→Option (A ⊕ T)} (r0:R)
 (tK:fuel=fuel'+1) (aBa:(aC2 ops W listed i && Nat.blt i ops.size)=true) (hi:lC P n ops (lB ops.toList i) st bo=some ⟨f,dI,t,g,b⟩) (nJ:bR P f dI [] mc res (fun _=>[]))
 (aBE:∀ r,((res r).flat && (res r).exact.isSome)=true)
 (h:∀ r,bQ P n ops W fuel' (listed.setIfInBounds i true) cs (st.put (some t) (res r) st.cD g) (m r) go ab):bQ P n ops W fuel listed cs st ((cK b mc r0).bind m) go ab:=by
 rw[aC] at aBa
 subst tK
 unfold lC at hi
 split at hi
 ·rename_i x args sN t' g' rF hop hd hg hfr
  split at hi
  ·rename_i b' f' sU hb hca
   obtain ⟨hc,hi⟩:=bS hi
   simp only[aA,vV.mk.injEq] at hi
   obtain ⟨rfl,rfl,rfl,rfl,rfl⟩:=hi
   simp only[aC] at hc
   have hlt:i<ops.size:=by simpa [aU] using aBa.2
   have s8:ops[i]? = some (lB ops.toList i):=by
    simp [lB,List.getD,hlt]
   exact bQ.look i bo r0 nJ s8 aBa.1 hg hb hop hd hfr hca hc.1 (by simp only[aC];exact hc.2.2)
    (fun r=>by have:=aBE r;rw[aC] at this;exact this.2) (fun r=>by have:=aBE r;rw[aC] at this;exact this.1) hc.2.1 h
  ·cases hi
 ·cases hi
theorem bQ.qM (js:List Nat) {ops:Array Oper} {W:Nat→Bool} {fuel:Nat} {listed:Array Bool} (tK:fuel=js.length) (hs:(aAb .any ops listed js && js.all fun j=>W j && (ops[j]?).isSome)=true)
 (h:cY P n ops ((opsOf ops js).drop 0) cs st m go ab):bQ P n ops W fuel listed cs st m go ab:=bQ.tail js tK hs h
def St.setObj (st:St) (o:Nat) (x:Obj):St:=⟨st.tmps,st.cD.set o x,st.gd,st.h⟩
theorem aLB (o:Nat) (x:Obj) (h:OLe (st.cD.getD o .dead) x) (hx:Nat.blt o st.cD.length=true):aQA n st (st.setObj o x):=by
 intro Γ S β a w hr
 have hlt:o<st.cD.length:=by simpa [aU] using hx
 have h0:st.cD[o]? = some (st.cD.getD o .dead):=by simp [List.getD,aD hlt]
 have get:∀ (i:Nat) (y:Obj),(st.cD.set o x)[i]? = some y→∃ y':Obj,st.cD[i]? = some y'∧y.live=y'.live∧∀ S β w o',tY S β w o' y'→tY S β w o' y:=by
  intro i y hy
  by_cases hi:i=o
  ·subst hi
   rw[List.getElem?_set_self hlt] at hy
   simp only[aA] at hy
   subst hy
   exact ⟨_,h0,h.1.symm,h.2⟩
  ·rw[List.getElem?_set_ne (Ne.symm hi)] at hy
   exact ⟨y,hy,rfl,fun _ _ _ _ h=>h⟩
 refine ⟨⟨hr.core.frame,hr.core.holds,?_,?_,?_,?_,?_⟩,hr.tm,hr.un,hr.size,hr.defers,hr.hand⟩
 ·intro i y hy
  obtain ⟨y',h1,_,h3⟩:=get i y hy
  exact h3 _ _ _ _ (hr.core.cD i y' h1)
 ·intro i hi
  exact hr.core.out i (by simpa [St.setObj] using hi)
 ·intro i i' k k' y y' hy hy' hl hl' hk hk' hne
  obtain ⟨z,h1,h2,_⟩:=get i y hy
  obtain ⟨z',h1',h2',_⟩:=get i' y' hy'
  exact hr.core.inj i i' k k' z z' h1 h1' (h2 ▸ hl) (h2' ▸ hl') hk hk' hne
 ·intro i k y hy hl hk
  obtain ⟨z,h1,h2,_⟩:=get i y hy
  exact hr.core.sep i k z h1 (h2 ▸ hl) hk
 ·intro i k y hy hl hk
  obtain ⟨z,h1,h2,_⟩:=get i y hy
  exact hr.core.mine i k z h1 (h2 ▸ hl) hk
end
end Go.Dl

namespace Go.Dl
variable [eC]
structure El (α:Type) where
 ty:TypeId
 w:Nat
 cs:α→List C
 d:α
variable {α:Type}
def El.at (E:El α) (l:List α) (i j:Nat):C:=(E.cs (l.getD i E.d)).getD j .bot
def El.tree (E:El α) (l:List α):C:=.tree E.w l.length (E.at l)
def El.row (E:El α) (l:List α):Obj:=.row E.ty E.w l.length (E.at l)
theorem getD_lt {β:Type} {l:List β} {i:Nat} (d d':β) (h:i<l.length):l.getD i d=l.getD i d':=by
 simp [List.getD,aD h]
theorem oA {β:Type} (l m:List β) (d:β) (i:Nat) (h:i<l.length):(l++m).getD i d=l.getD i d:=by
 simp [List.getD,List.getElem?_append_left h]
theorem l7 {β:Type} (l m:List β) (d:β) (i:Nat) (h:l.length≤i):(l++m).getD i d=m.getD (i - l.length) d:=by
 simp [List.getD,List.getElem?_append_right h]
theorem El.cH (E:El α) (xs ys:List α) {n m:Nat} (hn:n=xs.length) (hm:m=ys.length) :
 OLe (.row E.ty E.w (n+m) fun i j=>bif Nat.blt i n then E.at xs i j else E.at ys (i - n) j) (E.row (xs++ys)):=by
 subst hn hm
 refine OLe.row (by simp) fun i j hi hj=>?_
 unfold El.at
 rcases aY i xs.length with h | h
 ·have hb:Nat.blt i xs.length=true:=by simpa [aU] using h
  rw[hb,cond_true,oA _ _ _ _ h]
  exact eD.refl _
 ·have hb:Nat.blt i xs.length=false:=by
   cases hq:Nat.blt i xs.length with
   | false=>rfl
   | true=>rw[aU] at hq;omega
  rw[hb,cond_false,l7 _ _ _ _ h]
  exact eD.refl _
theorem El.bZ (E:El α) (l:List α) {n:Nat} {ll:List (List C)} (hn:n=l.length) (h:ll=l.map E.cs):OLe (.row E.ty E.w n (hG ll)) (E.row l):=by
 subst hn h
 refine OLe.row rfl fun i j hi _=>?_
 unfold hG El.at
 have:(l.map E.cs).getD i []=E.cs (l.getD i E.d):=by
  simp [List.getD,aD hi]
 rw[this]
 exact eD.refl _
theorem El.aNf (E:El α) (x:α) {n:Nat} {z:List C} (h:z=E.cs x):OLe (.row E.ty E.w n fun _ j=>z.getD j .bot) (E.row (List.replicate n x)):=by
 subst h
 refine OLe.row (by simp) fun i j hi _=>?_
 unfold El.at
 have:(List.replicate n x).getD i E.d=x:=by simp [List.getD,hi]
 rw[this]
 exact eD.refl _
theorem El.aQF (E:El α) (l:List α) (x:α) {i j:Nat} {cl:List C} (hi:i<l.length) (hlen:∀ y,(E.cs y).length=E.w) (hj:j+cl.length≤E.w)
 (h:E.cs x=aFk (E.cs (l.getD i E.d)) j cl):OLe (.row E.ty E.w l.length (setRow (E.at l) i j cl)) (E.row (l.set i x)):=by
 refine OLe.row (by simp) fun i' j' hi' hj'=>?_
 unfold setRow El.at
 by_cases hii:i'=i
 ·subst hii
  have e:(l.set i' x).getD i' E.d=x:=by simp [List.getD,List.getElem?_set,hi]
  rw[e,h]
  have hb:Nat.beq i' i'=true:=Nat.beq_refl i'
  rw[hb,Bool.true_and]
  have hl0:=hlen (l.getD i' E.d)
  generalize E.cs (l.getD i' E.d)=cs at *
  unfold aFk
  cases hc:(Nat.ble j j' && Nat.blt j' (j+cl.length)) with
  | true =>
    rw[aC,aU] at hc
    have h1:=aT hc.1
    rw[cond_true,l7 _ _ _ _ (by simp;omega),oA _ _ _ _ (by simp;omega)]
    have:j' - (cs.take j).length=j' - j:=by simp;omega
    rw[this]
    exact eD.refl _
  | false =>
    rw[cond_false]
    rw[Bool.and_eq_false_iff] at hc
    rcases aY j' j with h1 | h1
    ·rw[oA _ _ _ _ (by simp;omega)]
     have:(cs.take j).getD j' C.bot=cs.getD j' .bot:=by simp [List.getD,List.getElem?_take,h1]
     rw[this];exact eD.refl _
    ·have h2:j+cl.length≤j':=by
      rcases hc with hc | hc
      ·have:=Nat.ble_eq_true_of_le h1;rw[this] at hc;cases hc
      ·rcases aY j' (j+cl.length) with h3 | h3
       ·rw[← aU] at h3;rw[h3] at hc;cases hc
       ·exact h3
     rw[l7 _ _ _ _ (by simp;omega),l7 _ _ _ _ (by simp;omega)]
     have:(cs.drop (j+cl.length)).getD (j' - (cs.take j).length - cl.length) C.bot=cs.getD j' .bot:=by
      simp only[List.getD,List.getElem?_drop,aR]
      congr 2
      omega
     rw[this];exact eD.refl _
 ·have hb:Nat.beq i' i=false:=by
   cases hq:Nat.beq i' i with
   | false=>rfl
   | true=>exact absurd (aF hq) hii
  rw[hb,Bool.false_and,cond_false]
  have:(l.set i x).getD i' E.d=l.getD i' E.d:=by simp [List.getD,List.getElem?_set_ne (Ne.symm hii)]
  rw[this]
  exact eD.refl _
theorem El.qN (E:El α) (xs:List α) {l h:Nat} (hh:h≤xs.length):eD (.tree E.w (h - l) fun i j=>E.at xs (l+i) j) (E.tree ((xs.drop l).take (h - l))):=by
 refine eD.tree (by simp;omega) fun i j hi _=>?_
 unfold El.at
 have:((xs.drop l).take (h - l)).getD i E.d=xs.getD (l+i) E.d:=by
  simp [List.getD,List.getElem?_take,hi,List.getElem?_drop]
 rw[this]
 exact eD.refl _
theorem El.cO (E:El α):eD .nil (E.tree []):=by
 intro S β v hv
 exact ⟨none,0,hv,aO _,Nat.zero_le _,.inl rfl⟩
def St.kL (st:St) (t:Nat) (d:D):St:=⟨(t,d)::gQ t st.tmps,st.cD,st.gd,st.h⟩
section
variable {P:Program} {n:Nat} {A T:Type} {go:T→St} {ab:A→Ex × St} {st:St} {m:Option (A ⊕ T)} {cs:List Code}
theorem aBJ (t:Nat) (d:D) (t':Nat):(st.kL t d).get t'=if t'=t then d else st.get t':=by
 unfold St.kL St.get
 simp only[dR]
 by_cases h:t'=t
 ·subst h
  rw[Nat.beq_refl,cond_true,aH rfl]
 ·have hb:Nat.beq t t'=false:=by
   cases hq:Nat.beq t t' with
   | false=>rfl
   | true=>exact absurd (aF hq).symm h
  rw[hb,cond_false,aG h,lM h]
theorem aIt (t:Nat) (d:D) (h:eG (st.get t) d) (hg:st.gd.isEmpty=true):aQA n st (st.kL t d):=by
 intro Γ S β a w hr
 have hgd:st.gd=[]:=by simpa using hg
 have hall:∀ t',St.oQ (st.kL t d) t'=[]:=by
  intro t';unfold St.oQ St.kL;rw[hgd];rfl
 have aVU:∀ t',st.oQ t'=[]:=by intro t';unfold St.oQ;rw[hgd];rfl
 refine ⟨hr.core,fun t' _=>?_,fun t' hn=>?_,hr.size,hr.defers,hr.hand⟩
 ·have hx:=hr.tm t' (by rw[aVU t'];intro q hq;cases hq)
  rw[aBJ]
  split
  ·rename_i e;subst e;exact h _ _ _ hx
  ·exact hx
 ·rw[hall t'] at hn
  exact absurd (fun q hq=>by cases hq) hn
end
end Go.Dl

namespace Go.Dl
variable [eC]
def Conv (n:Nat) (st cR:St):Prop:=∀ Γ S β a w,RR Γ S β a w n st→∃ S' β',RR Γ S' β' a w n cR
section
variable {P:Program} {n:Nat} {A T:Type} {go:T→St} {ab:A→Ex × St} {st cR aVV:St} {m:Option (A ⊕ T)} {cs:List Code}
theorem Conv.le (h:aQA n st cR):Conv n st cR:=fun Γ S β a w hr=>⟨S,β,h Γ S β a w hr⟩
theorem Conv.keep (l om:List Nat) (hk:st.keep l om=some cR):Conv n st cR:=fun Γ S β a w hr=>⟨S,gA β om,gK hr hk⟩
theorem Conv.freeze (o:Nat) (hf:st.freeze o=some cR):Conv n st cR:=fun Γ S β a w hr=>by
 obtain ⟨S',h,_⟩:=zZ hr hf
 exact ⟨S',β,h⟩
theorem Conv.obj (o:Nat) (x:Obj) (h:OLe (st.cD.getD o .dead) x) (hx:Nat.blt o st.cD.length=true):Conv n st (st.setObj o x):=Conv.le (aLB o x h hx)
theorem Conv.slot (t:Nat) (d:D) (h:eG (st.get t) d) (hg:st.gd.isEmpty=true):Conv n st (st.kL t d):=Conv.le (aIt t d h hg)
theorem Ref.conv (hc:Conv n st cR) (h:Ref P n cs cR m go ab):Ref P n cs st m go ab:=fun Γ S β a w hr x hx=>by
 obtain ⟨S',β',h'⟩:=hc Γ S β a w hr
 exact h Γ S' β' a w h' x hx
theorem cY.conv {ops:Array Oper} {l:List Oper} (hc:Conv n st cR) (h:cY P n ops l cs cR m go ab):cY P n ops l cs st m go ab:=fun Γ S β a w hr x hx=>by
 obtain ⟨S',β',h'⟩:=hc Γ S β a w hr
 exact h Γ S' β' a w h' x hx
theorem bQ.conv {ops:Array Oper} {W:Nat→Bool} {fuel:Nat} {listed:Array Bool} (hc:Conv n st cR) (h:bQ P n ops W fuel listed cs cR m go ab):bQ P n ops W fuel listed cs st m go ab:=fun Γ S β a w hr x hx=>by
 obtain ⟨S',β',h'⟩:=hc Γ S β a w hr
 exact h Γ S' β' a w h' x hx
theorem aEY {Γ:lI} {S:Mem} {β:dK} {w:World} {xs:List Obj} (h:Core Γ S β w xs) (e:TypeId) (wd:Nat) (get:Nat→Nat→C) :
 Core Γ S (hO β xs.length none) w (xs++[.row e wd 0 get])∧lX β (hO β xs.length none) :=
 h.push default (.row e wd 0 get) none (.inl ⟨rfl,rfl⟩) (.inl ⟨by unfold hO;simp,rfl⟩)
def St.aEZ (st:St) (t:Nat) (x:Obj):St:=⟨(t,.c (.own st.cD.length 0))::gQ t st.tmps,st.cD++[x],st.gd,st.h⟩
def aIu:D→Bool
 | .c .nil=>true
 | _=>false
theorem Conv.aEZ (t:Nat) (e:TypeId) (wd:Nat) (get:Nat→Nat→C) (hs:aIu (st.get t)=true) (hg:st.gd.isEmpty=true) (hh:Nat.ble st.h st.cD.length=true):Conv n st (st.aEZ t (.row e wd 0 get)):=by
 intro Γ S β a w hr
 have aB4:st.get t = .c .nil:=by
  generalize st.get t=d at hs
  cases d with
  | c x=>cases x <;> first | rfl | cases hs
  | _=>cases hs
 have hgd:st.gd=[]:=by simpa using hg
 obtain ⟨hc,hb⟩:=aEY hr.core e wd get
 have hle:aQA n ⟨st.tmps,st.cD++[.row e wd 0 get],st.gd,st.h⟩ ⟨st.tmps,st.cD++[.row e wd 0 get],st.gd,st.h⟩:=fun _ _ _ _ _ h=>h
 have aVW:∀ (l:List (Nat × D)) (xs:List Obj) (t':Nat),St.oQ ⟨l,xs,st.gd,st.h⟩ t'=[]:=by
  intro l xs t';unfold St.oQ;rw[hgd];rfl
 refine ⟨S,hO β st.cD.length none,hc,fun t' _=>?_,fun t' hn=>?_,hr.size,hr.defers,fun o k ho hB=>hb _ _ (hr.hand o k ho hB)⟩
 ·have hx:=hr.tm t' (by
   have:st.oQ t'=[]:=aVW st.tmps st.cD t'
   rw[this];intro q hq;cases hq)
  have aNg:(st.aEZ t (.row e wd 0 get)).get t'=if t'=t then .c (.own st.cD.length 0) else st.get t':=aBJ (st:=st) t (.c (.own st.cD.length 0)) t'
  rw[aNg]
  split
  ·rename_i e'
   subst e'
   rw[aB4] at hx
   have hv:a.tmps.getD t' undef = .slice none 0 0:=hx
   rw[hv]
   show cW S (hO β st.cD.length none) (.own st.cD.length 0) _
   have:hO β st.cD.length none st.cD.length=some none:=by unfold hO;simp
   simp only[cW,this]
   exact ⟨trivial,trivial⟩
  ·exact dU.up (kS.refl _) hb hx
 ·have:St.oQ (st.aEZ t (.row e wd 0 get)) t'=[]:=aVW _ _ t'
  rw[this] at hn
  exact absurd (fun q hq=>by cases hq) hn
theorem eM.set {S:Mem} {β:dK} {l:List C} {us:List Value} {j:Nat} {c:C} (h:eM S β l us) (hc:∀ u,us[j]? = some u→cW S β c u):eM S β (l.set j c) us:=by
 refine eM.tX (by rw[List.length_set];exact h.length) fun i x hx=>?_
 by_cases hi:i=j
 ·subst hi
  have hlt:i<l.length:=by
   rcases aY i l.length with h1 | h1
   ·exact h1
   ·rw[aW (by simpa using h1)] at hx;cases hx
  rw[List.getElem?_set_self hlt] at hx
  simp only[aA] at hx
  subst hx
  obtain ⟨u,hu,_⟩:=h.get i _ (aD hlt)
  exact ⟨u,hu,hc u hu⟩
 ·rw[List.getElem?_set_ne (Ne.symm hi)] at hx
  exact h.get i x hx
def St.nQ (st:St) (o j:Nat) (x:Obj):Option St :=
 match st.cD[o]? with
 | some (.cells l)=>(match l[j]? with
   | some .nil=>some ⟨st.tmps,st.cD.set o (.cells (l.set j (.own st.cD.length 0)))++[x],st.gd,st.h⟩
   | _=>none)
 | _=>none
theorem Conv.nQ (o j:Nat) (e:TypeId) (wd:Nat) (get:Nat→Nat→C) (hs:st.nQ o j (.row e wd 0 get)=some cR):Conv n st cR:=by
 intro Γ S β a w hr
 unfold St.nQ at hs
 split at hs
 ·rename_i l ho
  split at hs
  ·rename_i hj
   simp only[aA] at hs
   subst hs
   obtain ⟨hc,hb⟩:=aEY hr.core e wd get
   have hlt:o<st.cD.length:=by
    rcases aY o st.cD.length with h1 | h1
    ·exact h1
    ·rw[aW h1] at ho;cases ho
   have hn:hO β st.cD.length none st.cD.length=some none:=by unfold hO;simp
   have h1:RR Γ S (hO β st.cD.length none) a w n ⟨st.tmps,st.cD++[.row e wd 0 get],st.gd,st.h⟩ :=
    ⟨hc,fun t ht=>dU.up (kS.refl _) hb (hr.tm t ht),fun t ht=>hr.un t ht,hr.size,hr.defers,fun o k ho hB=>hb _ _ (hr.hand o k ho hB)⟩
   refine ⟨S,hO β st.cD.length none,?_⟩
   have aNh:st.cD.set o (.cells (l.set j (.own st.cD.length 0)))++[Obj.row e wd 0 get]=(st.cD++[Obj.row e wd 0 get]).set o (.cells (l.set j (.own st.cD.length 0))):=by
    rw[List.set_append_left _ _ hlt]
   rw[aNh]
   have h0:(st.cD++[Obj.row e wd 0 get])[o]? = some (.cells l):=by rw[List.getElem?_append_left hlt];exact ho
   have get':∀ (i:Nat) (y:Obj),((st.cD++[Obj.row e wd 0 get]).set o (.cells (l.set j (.own st.cD.length 0))))[i]? = some y →
    ∃ y':Obj,(st.cD++[Obj.row e wd 0 get])[i]? = some y'∧y.live=y'.live∧(tY S (hO β st.cD.length none) w i y'→tY S (hO β st.cD.length none) w i y):=by
    intro i y hy
    by_cases hi:i=o
    ·subst hi
     rw[List.getElem?_set_self (by simp;omega)] at hy
     simp only[aA] at hy
     subst hy
     refine ⟨_,h0,rfl,?_⟩
     rintro ⟨k,q1,q2,q3,q4,us,q5,q6,q7⟩
     refine ⟨k,q1,by rw[List.length_set];exact q2,q3,q4,us,q5,q6.set fun u hu=>?_,q7⟩
     obtain ⟨u',hu',hr'⟩:=q6.get j _ hj
     rw[hu] at hu'
     simp only[aA] at hu'
     subst hu'
     have hv:u = .slice none 0 0:=hr'
     subst hv
     simp only[cW,hn]
     exact ⟨trivial,trivial⟩
    ·rw[List.getElem?_set_ne (Ne.symm hi)] at hy
     exact ⟨y,hy,rfl,id⟩
   refine ⟨⟨h1.core.frame,h1.core.holds,?_,?_,?_,?_,?_⟩,h1.tm,h1.un,h1.size,h1.defers,h1.hand⟩
   ·intro i y hy
    obtain ⟨y',g1,_,g3⟩:=get' i y hy
    exact g3 (h1.core.cD i y' g1)
   ·intro i hi
    exact h1.core.out i (by simpa using hi)
   ·intro i i' k k' y y' hy hy' hl hl' hk hk' hne
    obtain ⟨z,g1,g2,_⟩:=get' i y hy
    obtain ⟨z',g1',g2',_⟩:=get' i' y' hy'
    exact h1.core.inj i i' k k' z z' g1 g1' (g2 ▸ hl) (g2' ▸ hl') hk hk' hne
   ·intro i k y hy hl hk
    obtain ⟨z,g1,g2,_⟩:=get' i y hy
    exact h1.core.sep i k z g1 (g2 ▸ hl) hk
   ·intro i k y hy hl hk
    obtain ⟨z,g1,g2,_⟩:=get' i y hy
    exact h1.core.mine i k z g1 (g2 ▸ hl) hk
  ·cases hs
 ·cases hs
end
end Go.Dl

namespace Go.Dl
variable [eC]
abbrev Bytes:=List UInt8
variable {α:Type}
def El.ep (E:El α) (x:α) (j:Nat):C:=.rI E.w (fun j=>(E.cs x).getD j .bot) j
section
variable {P:Program} {n:Nat} {A T:Type} {go:T→St} {ab:A→Ex × St} {st cR:St} {m:Option (A ⊕ T)} {cs:List Code}
theorem cY.ev0 (k j k':Nat) (keep om:List Nat) {ops:Array Oper} {l:List Oper} (hk:k'=k+j)
 (he:iR P n ops ((l.drop k).take j) st keep om=some ([],cR)) (h:cY P n ops (l.drop k') cs cR m go ab):cY P n ops (l.drop k) cs st m go ab:=by
 intro Γ S β a w hr x hx
 exact cY.evC (vs:=[]) k j k' keep om hk he h Γ S β a w hr x hx
theorem eG.c {c c':C} (h:eD c c'):eG (.c c) (.c c'):=fun S β v hv=>h S β v hv
theorem eM.le {S:Mem} {β:dK}:∀ {l l':List C} {us:List Value},hU eD l l'→eM S β l us→eM S β l' us
 | _,_,_,.nil,h=>h
 | _,_,_,.cons hc hr,⟨v,r,h1,h2,h3⟩=>⟨v,r,h1,hc _ _ _ h2,eM.le hr h3⟩
theorem eG.agg {l l':List C} (h:hU eD l l'):eG (.agg l) (.agg l'):=fun _ _ _ ⟨vs,h1,h2⟩=>⟨vs,h1,eM.le h h2⟩
theorem eD.own {o k k':Nat} (h:k=k'):eD (.own o k) (.own o k'):=h ▸ eD.refl _
end
end Go.Dl
