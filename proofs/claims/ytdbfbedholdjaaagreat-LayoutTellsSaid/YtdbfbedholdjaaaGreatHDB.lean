/- No conditions. -/
import Derived.Test.YtdbfbedholdjaaaGreatHDA
import Derived.LoopN
import Derived.Still
import Derived.KernelRfl
set_option linter.unusedVariables false
set_option linter.unusedSimpArgs false
set_option linter.unusedSectionVars false
namespace Go.Dl
variable [dO]
section
variable {P:Program} {Γ:j6} {S:Mem} {β:dG} {w:World} {n:Nat}
theorem jB:∀ {om:List Nat} {o i k:Nat},fU o om k=some i→k≤i∧om[i - k]? = some o
 | [],_,_,_,h=>by cases h
 | x::r,o,i,k,h=>by
   unfold fU at h
   cases hb:Nat.beq x o with
   | true =>
     rw[hb,cond_true] at h
     simp only[aA] at h
     subst h
     have:=aH hb
     subst this
     simp
   | false =>
     rw[hb,cond_false] at h
     obtain ⟨h1,h2⟩:=jB h
     refine ⟨by omega,?_⟩
     rw[show i - k=(i - (k+1))+1 by omega,List.getElem?_cons_succ]
     exact h2
def fQ (β:dG) (om:List Nat):dG:=fun i=>(om[i]?).bind β
theorem C.mL {om:List Nat}:∀ {c:C} {β:dG} {v:Value},cV S β c v→cV S (fQ β om) (c.jP om) v:=by
 intro c
 induction c with
 | own o m =>
   intro β v hv
   simp only[C.jP]
   cases hi:fU o om 0 with
   | none=>trivial
   | some i =>
     have hb:fQ β om i=β o:=by
      have:=(jB hi).2
      simp only[Nat.sub_zero] at this
      simp [fQ,this]
     simp only[Option.elim,cV,hb]
     exact hv
 | ptr o i j =>
   intro β v hv
   simp only[C.jP]
   cases hi:fU o om 0 with
   | none=>trivial
   | some q =>
     have hb:fQ β om q=β o:=by
      have:=(jB hi).2
      simp only[Nat.sub_zero] at this
      simp [fQ,this]
     simp only[Option.elim,cV,hb]
     exact hv
 | self t b o =>
   intro β v hv
   simp only[C.jP]
   cases hi:fU o om 0 with
   | none=>trivial
   | some q =>
     have hb:fQ β om q=β o:=by
      have:=(jB hi).2
      simp only[Nat.sub_zero] at this
      simp [fQ,this]
     simp only[Option.elim,cV,hb]
     exact hv
 | map o =>
   intro β v hv
   simp only[C.jP]
   cases hi:fU o om 0 with
   | none=>trivial
   | some q =>
     have hb:fQ β om q=β o:=by
      have:=(jB hi).2
      simp only[Nat.sub_zero] at this
      simp [fQ,this]
     simp only[Option.elim,cV,hb]
     exact hv
 | tail o lo n =>
   intro β v hv
   simp only[C.jP]
   cases hi:fU o om 0 with
   | none=>trivial
   | some q =>
     have hb:fQ β om q=β o:=by
      have:=(jB hi).2
      simp only[Nat.sub_zero] at this
      simp [fQ,this]
     simp only[Option.elim,cV,hb]
     exact hv
 | opt b c ih =>
   intro β v hv
   simp only[C.jP,cV] at hv ⊢
   split at hv
   ·rename_i h;rw[aE h];exact ih hv
   ·rename_i h;rw[aD h];exact hv
 | iface b t c ih =>
   intro β v hv
   simp only[C.jP,cV] at hv ⊢
   split at hv
   ·rename_i h;rw[aE h];obtain ⟨u,hu,hr⟩:=hv;exact ⟨u,hu,ih hr⟩
   ·rename_i h;rw[aD h];exact hv
 | func fn k cap ih =>
   rintro β v ⟨vs,h1,h2,h3⟩
   refine ⟨vs,h1,h2,fun i hi=>?_⟩
   have:(((List.range k).map fun i=>(cap i).jP om).getD i .bot)=(cap i).jP om:=by
    simp [List.getD,hi]
   show cV S (fQ β om) (((List.range k).map fun i=>(cap i).jP om).getD i .bot) _
   rw[this]
   exact ih i (h3 i hi)
 | cond b c ih =>
   intro β v hv hb
   exact ih (hv hb)
 | _=>intro β v hv;exact hv
theorem eM.map {β β':dG} {S S':Mem} (f:C→C) (hf:∀ c v,cV S β c v→cV S' β' (f c) v):∀ {l:List C} {us:List Value},eM S β l us→eM S' β' (l.map f) us
 | [],_,h=>h
 | _::_,_,⟨v,r,h1,h2,h3⟩=>⟨v,r,h1,hf _ _ h2,eM.map f hf h3⟩
theorem D1.mL {om:List Nat} {d:D1} {v:Value} (h:jT S β d v):jT S (fQ β om) (d.jP om) v:=by
 cases d with
 | c x=>exact C.mL h
 | agg l=>obtain ⟨vs,h1,h2⟩:=h;exact ⟨vs,h1,h2.map _ fun _ _ h=>C.mL h⟩
theorem rC.map {β β':dG} {S S':Mem} (f:D1→D1) (hf:∀ c v,jT S β c v→jT S' β' (f c) v):∀ {l:List D1} {us:List Value},rC S β l us→rC S' β' (l.map f) us
 | [],_,h=>h
 | _::_,_,⟨v,r,h1,h2,h3⟩=>⟨v,r,h1,hf _ _ h2,rC.map f hf h3⟩
theorem D.mL {om:List Nat} {d:D} {v:Value} (h:dR S β d v):dR S (fQ β om) (d.jP om) v:=by
 cases d with
 | c x=>exact C.mL h
 | agg l=>obtain ⟨vs,h1,h2⟩:=h;exact ⟨vs,h1,h2.map _ fun _ _ h=>C.mL h⟩
 | jW l=>obtain ⟨vs,h1,h2⟩:=h;exact ⟨vs,h1,h2.map _ fun _ _ h=>D1.mL h⟩
theorem vV:∀ {om:List Nat},mD om=true→∀ {i j o:Nat},om[i]? = some o→om[j]? = some o→i=j
 | [],_,i,j,o,h,_=>by simp at h
 | x::r,hn,i,j,o,hi,hj=>by
   simp only[mD,aC,aQ,List.any_eq_false] at hn
   obtain ⟨h1,h2⟩:=hn
   cases i with
   | zero =>
     cases j with
     | zero=>rfl
     | succ j =>
       simp only[List.getElem?_cons_zero,aA] at hi
       subst hi
       simp only[List.getElem?_cons_succ] at hj
       have:=h1 x (bL hj)
       simp at this
   | succ i =>
     cases j with
     | zero =>
       simp only[List.getElem?_cons_zero,aA] at hj
       subst hj
       simp only[List.getElem?_cons_succ] at hi
       have:=h1 x (bL hi)
       simp at this
     | succ j =>
       simp only[List.getElem?_cons_succ] at hi hj
       rw[vV h2 hi hj]
theorem aGC {x:Obj} {om:List Nat}:(x.jP om).live=x.live:=by cases x <;> rfl
theorem rE.jP {om:List Nat} {o i:Nat} {x:Obj} (h:rE S β w o x) (hi:om[i]? = some o):rE S (fQ β om) w i (x.jP om):=by
 have hb:fQ β om i=β o:=by simp [fQ,hi]
 cases x with
 | dead=>trivial
 | cells l =>
   obtain ⟨k,h1,h2,h3,h4,vs,h5,h6,h7⟩:=h
   exact ⟨k,by rw[hb];exact h1,by rw[h2];simp,h3,h4,vs,h5,h6.map _ fun _ _ h=>C.mL h,h7⟩
 | aA5 e bs =>
   obtain ⟨k,h1,h2⟩:=h
   exact ⟨k,by rw[hb];exact h1,h2⟩
 | map z has get =>
   obtain ⟨k,h1,h2⟩:=h
   exact ⟨k,by rw[hb];exact h1,h2⟩
 | row e wd m get =>
   rcases h with ⟨h1,h2⟩ | ⟨k,h1,h2⟩
   ·exact .inl ⟨by rw[hb];exact h1,h2⟩
   ·exact .inr ⟨k,by rw[hb];exact h1,h2⟩
theorem Core.jP {xs:List Obj} (h:Core Γ S β w xs) {om:List Nat} (hn:mD om=true) :
 Core Γ S (fQ β om) w (om.map fun o=>(xs.getD o .dead).jP om):=by
 have get:∀ i y,(om.map fun o=>(xs.getD o .dead).jP om)[i]? = some y→y.live=true→∃ o x,om[i]? = some o∧xs[o]? = some x∧x.live=true∧y=x.jP om∧fQ β om i=β o:=by
  intro i y hy hl
  rw[bG] at hy
  cases ho:om[i]? with
  | none=>simp [ho] at hy
  | some o =>
    simp only[ho,Option.map_some,aA] at hy
    subst hy
    rw[aGC] at hl
    cases hx:xs[o]? with
    | none=>simp [List.getD,hx,Obj.live] at hl
    | some x =>
      refine ⟨o,x,rfl,hx,?_,?_,by simp [fQ,ho]⟩
      ·simpa [List.getD,hx] using hl
      ·simp [List.getD,hx]
 refine ⟨h.frame,h.holds,?_,?_,?_,?_,?_⟩
 ·intro i y hy
  cases hl:y.live with
  | false=>cases y <;> first | trivial | cases hl
  | true =>
    obtain ⟨o,x,ho,hx,_,rfl,_⟩:=get i y hy hl
    exact (h.cC o x hx).jP ho
 ·intro i hi
  have:om[i]? = none:=bB (by simpa using hi)
  simp [fQ,this]
 ·intro i j k k' y y' hy hy' hl hl' hk hk' hne
  obtain ⟨o,x,ho,hx,hxl,_,hb⟩:=get i y hy hl
  obtain ⟨o',x',ho',hx',aIy,_,hb'⟩:=get j y' hy' hl'
  rw[hb] at hk;rw[hb'] at hk'
  refine h.inj o o' k k' x x' hx hx' hxl aIy hk hk' fun e=>hne ?_
  subst e
  exact vV hn ho ho'
 ·intro i k y hy hl hk
  obtain ⟨o,x,ho,hx,hxl,_,hb⟩:=get i y hy hl
  rw[hb] at hk
  exact h.sep o k x hx hxl hk
 ·intro i k y hy hl hk
  obtain ⟨o,x,ho,hx,hxl,_,hb⟩:=get i y hy hl
  rw[hb] at hk
  exact h.mine o k x hx hxl hk
theorem aB3 (f:Nat→D) (t:Nat):∀ (l:List Nat),dK (D.c .bot) (l.map fun t=>(t,f t)) t=bif l.any (Nat.beq t) then f t else .c .bot
 | []=>rfl
 | x::r=>by
   rw[List.map_cons,List.any_cons]
   simp only[dK]
   cases hb:Nat.beq x t with
   | true =>
     have:=aH hb
     subst this
     simp
   | false =>
     have:Nat.beq t x=false:=by
      cases hq:Nat.beq t x with
      | false=>rfl
      | true=>have:=aH hq;subst this;simp at hb
     rw[cond_false,this,Bool.false_or]
     exact aB3 f t r
theorem aNA {d:D} {om:List Nat} {b:Bool} (h:d.jP om = .c (.val (.bool b))):d = .c (.val (.bool b)):=by
 cases d with
 | c x =>
   simp only[D.jP,D.c.injEq] at h
   cases x with
   | val u=>simp only[C.jP] at h;rw[h]
   | own o m=>simp only[C.jP] at h;cases hi:fU o om 0 <;> simp [hi] at h
   | ptr o i j=>simp only[C.jP] at h;cases hi:fU o om 0 <;> simp [hi] at h
   | self t b o=>simp only[C.jP] at h;cases hi:fU o om 0 <;> simp [hi] at h
   | map o=>simp only[C.jP] at h;cases hi:fU o om 0 <;> simp [hi] at h
   | tail o lo n=>simp only[C.jP] at h;cases hi:fU o om 0 <;> simp [hi] at h
   | _=>simp only[C.jP] at h;cases h
 | agg l=>cases h
 | jW l=>cases h
theorem aAE:∀ {k i:Nat} {om:List Nat},aBx k i om=true→∀ {o:Nat},o<k→om[o]? = some (i+o)
 | 0,_,_,_,_,h=>by omega
 | k+1,i,[],h,_,_=>by cases h
 | k+1,i,x::r,h,o,ho=>by
   simp only[aBx,aC] at h
   have hx:=aH h.1
   subst hx
   cases o with
   | zero=>simp
   | succ o =>
     rw[List.getElem?_cons_succ,aAE h.2 (by omega)]
     congr 1
     omega
theorem gC {a:Act} {st dD:St} {l om:List Nat} (h:RR Γ S β a w n st) (hk:st.keep l om=some dD):RR Γ S (fQ β om) a w n dD:=by
 unfold St.keep at hk
 dsimp only at hk
 obtain ⟨hg,hk⟩:=bZ hk
 simp only[aA] at hk
 subst hk
 simp only[aC] at hg
 obtain ⟨hg,hn,hst⟩:=hg
 have get':∀ t,St.get ⟨l.map fun t=>(t,(st.get t).jP om),om.map fun o=>(st.cC.getD o .dead).jP om,st.gd.filter (fun p=>l.any (Nat.beq p.1)),st.h⟩ t=bif l.any (Nat.beq t) then (st.get t).jP om else .c .bot :=
  fun t=>aB3 (fun t=>(st.get t).jP om) t l
 have aSy:∀ t,St.nE ⟨l.map fun t=>(t,(st.get t).jP om),om.map fun o=>(st.cC.getD o .dead).jP om,st.gd.filter (fun p=>l.any (Nat.beq p.1)),st.h⟩ t=bif l.any (Nat.beq t) then st.nE t else []:=by
  intro t
  unfold St.nE
  simp only
  rw[jM (fun i=>l.any (Nat.beq i))]
 have hkeep:∀ t,l.any (Nat.beq t)=true→∀ q∈st.nE t,l.any (Nat.beq q.1)=true:=by
  intro t ht q hq
  -- the guard of t lies in what is kept
  have:∃ p∈st.gd.filter (fun p=>l.any (Nat.beq p.1)),q∈p.2:=by
   have hq':q∈St.nE ⟨l.map fun t=>(t,(st.get t).jP om),om.map fun o=>(st.cC.getD o .dead).jP om,st.gd.filter (fun p=>l.any (Nat.beq p.1)),st.h⟩ t:=by
    rw[aSy t,ht,cond_true];exact hq
   exact aJU hq'
  obtain ⟨p,hp,hqp⟩:=this
  rw[aN] at hg
  have:=hg p hp
  rw[aN] at this
  exact this q hqp
 have hold:∀ t,l.any (Nat.beq t)=true→(St.holds ⟨l.map fun t=>(t,(st.get t).jP om),om.map fun o=>(st.cC.getD o .dead).jP om,st.gd.filter (fun p=>l.any (Nat.beq p.1)),st.h⟩ (st.nE t)↔st.holds (st.nE t)):=by
  intro t ht
  unfold St.holds
  constructor
  ·intro hh q hq
   have:=hh q hq
   rw[get' q.1,hkeep t ht q hq,cond_true] at this
   exact aNA this
  ·intro hh q hq
   rw[get' q.1,hkeep t ht q hq,cond_true,hh q hq]
   rfl
 refine ⟨h.core.jP hn,fun t hh=>?_,fun t hh=>?_,h.size,h.defers,fun o k ho hB=>?_⟩
 ·rw[get' t]
  cases ht:l.any (Nat.beq t) with
  | false=>trivial
  | true =>
    rw[cond_true]
    rw[aSy t,ht,cond_true,hold t ht] at hh
    exact D.mL (h.tm t hh)
 ·cases ht:l.any (Nat.beq t) with
  | false =>
    rw[aSy t,ht,cond_false] at hh
    exact absurd (fun q hq=>by cases hq) hh
  | true =>
    rw[aSy t,ht,cond_true,hold t ht] at hh
    exact h.un t hh
 ·have:=aAE hst ho
  rw[Nat.zero_add] at this
  simp only[fQ,this,Option.bind_some]
  exact h.hand o k ho hB
end
def bY {α:Type}:List Bool→Option α→Option α
 | [],m=>m
 | v::vs,m=>if v=true then bY vs m else none
theorem fI {α:Type}:∀ {vs:List Bool} {m:Option α} {x:α},bY vs m=some x→(∀ b∈vs,b=true)∧m=some x
 | [],_,_,h=>⟨(fun b hb=>by cases hb),h⟩
 | v::vs,m,x,h=>by
   unfold bY at h
   split at h
   ·rename_i hv
    obtain ⟨h1,h2⟩:=fI h
    refine ⟨fun b hb=>?_,h2⟩
    rcases aY.1 hb with rfl | hb
    ·exact hv
    ·exact h1 b hb
   ·cases h
def bT {A T U:Type} (m:Option (A ⊕ T)) (f:T→Option (A ⊕ U)):Option (A ⊕ U) :=
 match m with
 | none=>none
 | some (.inl a)=>some (.inl a)
 | some (.inr t)=>f t
def bQ {A T:Type} (m:Option ((T ⊕ A) ⊕ T)):Option (A ⊕ T) :=
 match m with
 | none=>none
 | some (.inl (.inl t))=>some (.inr t)
 | some (.inl (.inr a))=>some (.inl a)
 | some (.inr t)=>some (.inr t)
def iter {A T:Type}:Nat→(T→Option (A ⊕ T))→T→Option A
 | 0,_,_=>none
 | k+1,f,t =>
   match f t with
   | none=>none
   | some (.inl a)=>some a
   | some (.inr t')=>iter k f t'
inductive Ex where
 | ret
 | exit (id:Nat)
def Ex.out:Ex→Exit
 | .ret=>.ret
 | .exit id=>.exit id
def Post (Γ:j6) (n:Nat) {A T:Type} (go:T→St) (ab:A→Ex × St) (x:A ⊕ T):Exit→Act→World→Prop:=fun e a w =>
 match x with
 | .inl t=>e=(ab t).1.out∧∃ S β,RR Γ S β a w n (ab t).2
 | .inr t=>e = .normal∧∃ S β,RR Γ S β a w n (go t)
def wpL (P:Program):List Code→(Exit→Act→World→Prop)→Act→World→Prop
 | [],Q,a,w=>Q .normal a w
 | c::cs,Q,a,w=>c.wp P (Exit.then (wpL P cs Q) Q) a w
def Ref (P:Program) (n:Nat) {A T:Type} (cs:List Code) (st:St) (m:Option (A ⊕ T)) (go:T→St) (ab:A→Ex × St):Prop :=
 ∀ Γ S β a w,RR Γ S β a w n st→∀ x,m=some x→wpL P cs (Post Γ n go ab x) a w
def eO (P:Program) (n:Nat) (ops:Array Oper) {A T:Type} (l:List Oper) (cs:List Code) (st:St) (m:Option (A ⊕ T)) (go:T→St) (ab:A→Ex × St):Prop :=
 ∀ Γ S β a w,RR Γ S β a w n st→∀ x,m=some x→wpList P ops (Exit.then (wpL P cs (Post Γ n go ab x)) (Post Γ n go ab x)) l a w
section
variable {P:Program} {n:Nat} {A T U:Type} {go:T→St} {ab:A→Ex × St} {st:St} {m:Option (A ⊕ T)} {cs:List Code}
theorem Ref.region {id:Nat} {ops:Array Oper} (h:eO P n ops ops.toList cs st m go ab):Ref P n (.region id ops false::cs) st m go ab :=
 fun Γ S β a w hr x hx=>wp_region_list (h Γ S β a w hr x hx)
theorem eO.nil {ops:Array Oper} (h:Ref P n cs st m go ab):eO P n ops [] cs st m go ab :=
 fun Γ S β a w hr x hx=>h Γ S β a w hr x hx
theorem Ref.nil {t:T} (h:go t=st):Ref P n [] st (some (.inr t)) go ab:=by
 intro Γ S β a w hr x hx
 simp only[aA] at hx
 subst hx
 exact ⟨rfl,S,β,by rw[h];exact hr⟩
theorem Ref.seq {x y:Code} (h:Ref P n (x::y::cs) st m go ab):Ref P n (.seq x y::cs) st m go ab:=by
 intro Γ S β a w hr q hq
 refine wp_seq (Code.wp_mono (fun e a w he=>?_) (h Γ S β a w hr q hq))
 cases e <;> exact he
theorem Ref.skip (h:Ref P n cs st m go ab):Ref P n (.skip::cs) st m go ab :=
 fun Γ S β a w hr x hx=>wp_skip (h Γ S β a w hr x hx)
theorem Ref.ret {t:A} (h:ab t=(.ret,st)):Ref P n (.ret::cs) st (some (.inl t)) go ab:=by
 intro Γ S β a w hr x hx
 simp only[aA] at hx
 subst hx
 refine wp_ret ?_
 show Post Γ n go ab (.inl t) .ret a w
 simp only[Post,h]
 exact ⟨rfl,S,β,hr⟩
theorem Ref.exit {id:Nat} {t:A} (h:ab t=(.exit id,st)):Ref P n (.exit id::cs) st (some (.inl t)) go ab:=by
 intro Γ S β a w hr x hx
 simp only[aA] at hx
 subst hx
 refine wp_exit ?_
 show Post Γ n go ab (.inl t) (.exit id) a w
 simp only[Post,h]
 exact ⟨rfl,S,β,hr⟩
theorem aBp {Γ:j6} {S:Mem} {β:dG} {a:Act} {w:World} (hr:RR Γ S β a w n st) {c:Operand} {b:Bool} (hg:st.gd=[]) (h:st.lv c = .c (.val (.bool b))):a.eval c = .bool b:=by
 have:=gN hr (g:=[]) (fun q hq=>by cases hq) c
 have hs:st.zN []=st:=by unfold St.zN;rw[hg];rfl
 rw[hs,h] at this
 exact this
theorem Ref.cond {c:Operand} {x y:Code} {b:Bool} {m1 m2:Option (A ⊕ T)} (hb:st.lv c = .c (.val (.bool b))) (hg:st.gd=[]) (h1:b=true→Ref P n (x::cs) st m1 go ab) (h2:b=false→Ref P n (y::cs) st m2 go ab) :
 Ref P n (.cond c x y::cs) st (if b=true then m1 else m2) go ab:=by
 intro Γ S β a w hr q hq
 have he:=aBp hr hg hb
 refine wp_cond he ?_
 cases b with
 | true =>
   rw[aE rfl] at hq
   exact h1 rfl Γ S β a w hr q hq
 | false =>
   rw[aD (by simp)] at hq
   exact h2 rfl Γ S β a w hr q hq
theorem Ref.bind {x:Code} {uI:U→St} {m1:Option (A ⊕ U)} {m2:U→Option (A ⊕ T)} (h1:Ref P n [x] st m1 uI ab) (h2:∀ t,Ref P n cs (uI t) (m2 t) go ab) :
 Ref P n (x::cs) st (bT m1 m2) go ab:=by
 intro Γ S β a w hr q hq
 cases hm:m1 with
 | none=>rw[hm] at hq;cases hq
 | some z =>
   rw[hm] at hq
   refine Code.wp_mono (fun e a' w' he=>?_) (h1 Γ S β a w hr z hm)
   cases z with
   | inl t =>
     simp only[bT,aA] at hq
     subst hq
     have he':Post Γ n uI ab (.inl t) e a' w':=by
      cases e <;> exact he
     cases e with
     | normal =>
       have:=he'.1
       cases hx:(ab t).1 <;> rw[hx] at this <;> cases this
     | _=>exact he'
   | inr u =>
     simp only[bT] at hq
     have he':Post Γ n uI ab (.inr u) e a' w':=by
      cases e <;> exact he
     obtain ⟨rfl,S',β',hr'⟩:=he'
     exact h2 u Γ S' β' a' w' hr' q hq
theorem Ref.block {id:Nat} {c:Code} {U:Type} {uI:U→St} {m1:Option ((U ⊕ A) ⊕ U)} {m2:U→Option (A ⊕ T)}
 (h1:Ref P n [c] st m1 uI (fun x=>match x with | .inl t=>(.exit id,uI t) | .inr a=>ab a)) (hid:∀ a,(ab a).1≠.exit id)
 (h2:∀ t,Ref P n cs (uI t) (m2 t) go ab):Ref P n (.block id c::cs) st (bT (bQ m1) m2) go ab:=by
 intro Γ S β a w hr q hq
 cases hm:m1 with
 | none=>rw[hm] at hq;cases hq
 | some z =>
   rw[hm] at hq
   refine wp_block (Code.wp_mono (fun e a' w' he=>?_) (h1 Γ S β a w hr z hm))
   have he':Post Γ n uI (fun x=>match x with | .inl t=>(.exit id,uI t) | .inr a=>ab a) z e a' w':=by
    cases e <;> exact he
   cases z with
   | inl t =>
     cases t with
     | inl u =>
       simp only[bQ,bT] at hq
       obtain ⟨rfl,S',β',hr'⟩:=he'
       show Exit.inBlock id _ (.exit id) a' w'
       simp only[Exit.inBlock,if_true]
       exact h2 u Γ S' β' a' w' hr' q hq
     | inr t =>
       simp only[bQ,bT,aA] at hq
       subst hq
       obtain ⟨vW,S',β',hr'⟩:=he'
       have vW:e=(ab t).1.out:=vW
       have qF:Post Γ n go ab (.inl t) e a' w':=⟨vW,S',β',hr'⟩
       cases hx:(ab t).1 with
       | ret =>
         rw[hx] at vW
         subst vW
         exact qF
       | exit id' =>
         rw[hx] at vW
         subst vW
         show Exit.inBlock id _ (.exit id') a' w'
         simp only[Exit.inBlock]
         rw[aD (fun e=>hid t (by rw[hx,e]))]
         exact qF
   | inr u =>
     simp only[bQ,bT] at hq
     obtain ⟨rfl,S',β',hr'⟩:=he'
     exact h2 u Γ S' β' a' w' hr' q hq
theorem aAF {body:Code} {hd:T→St} {f:T→Option (A ⊕ T)} {Γ:j6} {go:U→St} (hb:∀ t,Ref P n [body] (hd t) (f t) hd ab) :
 ∀ (k:Nat) (t:T) (x:A) (S:Mem) (β:dG) (a:Act) (w:World),RR Γ S β a w n (hd t)→iter k f t=some x→Code.rounds P body (Post Γ n go ab (.inl x)) k a w
 | 0,t,x,S,β,a,w,hr,h=>by cases h
 | k+1,t,x,S,β,a,w,hr,h=>by
   unfold iter at h
   rw[rounds_succ]
   cases hf:f t with
   | none=>rw[hf] at h;cases h
   | some z =>
     rw[hf] at h
     refine Code.wp_mono (fun e a' w' he=>?_) (hb t Γ S β a w hr z hf)
     have he':Post Γ n hd ab z e a' w':=by
      cases e <;> exact he
     cases z with
     | inl y =>
       simp only[aA] at h
       subst h
       obtain ⟨vW,S',β',hr'⟩:=he'
       have qF:Post Γ n go ab (.inl y) e a' w':=⟨vW,S',β',hr'⟩
       cases hx:(ab y).1 <;> (rw[hx] at vW;subst vW;exact qF)
     | inr t' =>
       obtain ⟨rfl,S',β',hr'⟩:=he'
       exact aAF hb k t' x S' β' a' w' hr' h
theorem Ref.loop {body:Code} {hd:U→St} {f:U→Option (A ⊕ U)} (k:Nat) (t0:U) (h0:hd t0=st) (hb:∀ t,Ref P n [body] (hd t) (f t) hd ab) :
 Ref P n (.loop body::cs) st ((iter k f t0).map .inl) go ab:=by
 intro Γ S β a w hr q hq
 cases hi:iter k f t0 with
 | none=>rw[hi] at hq;cases hq
 | some x =>
   rw[hi] at hq
   simp only[Option.map_some,aA] at hq
   subst hq
   subst h0
   refine Code.wp_mono (fun e a' w' he=>?_) (wp_loop_rounds k (aAF (go:=go) hb k t0 x S β a w hr hi))
   obtain ⟨vW,S',β',hr'⟩:=he
   have qF:Post Γ n go ab (.inl x) e a' w':=⟨vW,S',β',hr'⟩
   cases hx:(ab x).1 <;> (rw[hx] at vW;subst vW;exact qF)
end
end Go.Dl

namespace Go.Dl
variable [dO]
inductive gD {α β:Type} (R:α→β→Prop):List α→List β→Prop where
 | nil:gD R [] []
 | cons {a:α} {b:β} {l:List α} {l':List β}:R a b→gD R l l'→gD R (a::l) (b::l')
theorem gD.length_eq {α β:Type} {R:α→β→Prop}:∀ {l:List α} {l':List β},gD R l l'→l.length=l'.length
 | _,_,.nil=>rfl
 | _,_,.cons _ h=>by simp [h.length_eq]
def hG (c c':C):Prop:=∀ S β v,cV S β c v→cV S β c' v
def jS (d d':D):Prop:=∀ S β v,dR S β d v→dR S β d' v
def OLe (x x':Obj):Prop:=x.live=x'.live∧∀ S β w o,rE S β w o x→rE S β w o x'
def aSB (n:Nat) (st dD:St):Prop:=∀ Γ S β a w,RR Γ S β a w n st→RR Γ S β a w n dD
def Bd (n:Nat) (st:St) (N:Int):Prop:=∀ Γ S β a w,RR Γ S β a w n st→N≤9223372036854775807
section
variable {P:Program} {n:Nat} {A T U:Type} {go:T→St} {ab:A→Ex × St} {st dD:St} {m:Option (A ⊕ T)} {cs:List Code}
theorem Ref.keep (l om:List Nat) (hk:st.keep l om=some dD) (h:Ref P n cs dD m go ab):Ref P n cs st m go ab :=
 fun Γ S β a w hr x hx=>h Γ S _ a w (gC hr hk) x hx
theorem eO.keep {ops:Array Oper} {l:List Oper} (lt om:List Nat) (hk:st.keep lt om=some dD) (h:eO P n ops l cs dD m go ab):eO P n ops l cs st m go ab :=
 fun Γ S β a w hr x hx=>h Γ S _ a w (gC hr hk) x hx
theorem hG.refl (c:C):hG c c:=fun _ _ _ h=>h
theorem jS.refl (d:D):jS d d:=fun _ _ _ h=>h
theorem hG.tree {w m m':Nat} {g g':Nat→Nat→C} (hm:m=m') (h:∀ i j,i<m→j<w→hG (g i j) (g' i j)):hG (.tree w m g) (.tree w m' g'):=by
 subst hm
 rintro S β v ⟨a,cap,h1,h2,h3,h4⟩
 refine ⟨a,cap,h1,h2,h3,?_⟩
 rcases h4 with h4 | ⟨b,off,h5,h6⟩
 ·exact .inl h4
 ·refine .inr ⟨b,off,h5,fun i j hi hj=>?_⟩
  obtain ⟨u,hu,hr⟩:=h6 i j hi hj
  exact ⟨u,hu,h i j hi hj _ _ _ hr⟩
theorem OLe.row {e w m m':Nat} {g g':Nat→Nat→C} (hm:m=m') (h:∀ i j,i<m→j<w→hG (g i j) (g' i j)):OLe (.row e w m g) (.row e w m' g'):=by
 subst hm
 refine ⟨rfl,fun S β ww o ho=>?_⟩
 rcases ho with ho | ⟨k,h1,h2,h3,h4,h5,h6,cur,h7,h8,h9⟩
 ·exact .inl ho
 ·refine .inr ⟨k,h1,h2,h3,h4,h5,h6,cur,h7,h8,fun i j hi hj=>?_⟩
  obtain ⟨u,hu,ho1,hr⟩:=h9 i j hi hj
  exact ⟨u,hu,ho1,h i j hi hj _ _ _ hr⟩
theorem OLe.cells {l l':List C} (h:gD hG l l'):OLe (.cells l) (.cells l'):=by
 refine ⟨rfl,fun S β ww o ho=>?_⟩
 obtain ⟨k,h1,h2,h3,h4,us,h5,h6,h7⟩:=ho
 refine ⟨k,h1,by rw[h2,h.length_eq],h3,h4,us,h5,?_,h7⟩
 clear h2 h5 h7
 induction h generalizing us with
 | nil=>exact h6
 | cons hc _ ih =>
   obtain ⟨v,r,rfl,q1,q2⟩:=h6
   exact ⟨v,r,rfl,hc _ _ _ q1,ih r q2⟩
end
end Go.Dl

namespace Go.Dl
variable [dO]
def uG (β:dG) (xs:List Obj):Nat→Prop:=fun b=>∃ o k x,xs[o]? = some x∧x.live=true∧β o=some (some k)∧k.b=b
theorem Core.inv {Γ:j6} {S:Mem} {β:dG} {w:World} {xs:List Obj} (h:Core Γ S β w xs):dO.I w :=
 dO.keep _ _ h.frame.size (fun b hb=>h.frame.block b (bH hb (dO.size _ h.frame.inv)) fun hM=>absurd (h.frame.aDS b hM) (by omega)) h.frame.inv
theorem Core.aGD {Γ:j6} {S:Mem} {β:dG} {w:World} {xs:List Obj} (h:Core Γ S β w xs):∀ b,uG β xs b→dO.N≤b:=by
 rintro b ⟨o,k,x,hx,hl,hk,rfl⟩
 have hm:=(h.mine o k x hx hl hk).2
 have hz:=dO.size _ h.frame.inv
 rcases bE k.b Γ.w.heap.size with h1 | h1
 ·exact h.frame.aDS _ (hm h1)
 ·omega
def bV (P:Program) (f:FuncId) {R:Type} (args:List D) (xs:List Obj) (m:Option R) (res:R→D) (out:R→List Obj):Prop :=
 ∀ S β w vs,Core ⟨S,w,uG β xs,β⟩ S β w xs→fT S β args vs→∀ r,m=some r →
   Calls P f vs.toArray w fun e w'=>∃ v S' β',e = .returned v∧dR S' β' (res r) v∧(∀ o k,o<xs.length→β o=some k→β' o=some k)∧Core ⟨S,w,uG β xs,β⟩ S' β' w' (out r)
def bX {R:Type} (m:Option (R ⊕ R)):Option R :=
 match m with
 | none=>none
 | some (.inl r)=>some r
 | some (.inr r)=>some r
def aFa:List D→Nat→List (Nat × D)
 | [],_=>[]
 | d::ds,i=>(i,d)::aFa ds (i+1)
def tD (a:Act):ResultVar→Sem Value
 | .tmp t=>pure (a.tmps.getD t undef)
 | .cell q t=>do loadVar t (← asAddr (a.tmps.getD q undef))
def aLI (P:Program) (st:St):ResultVar→Option D
 | .tmp t=>some (st.get t)
 | .cell q t =>
   bif (P.underlying t).isSome then
    (match st.get q with
    | .c (.ptr o i j)=>(zS P t (.c (.ptr o i j)) st.cC).map fun r=>r.2.1
    | _=>none)
   else none
def aLJ (P:Program) (st:St):List ResultVar→Option (List D1)
 | []=>some []
 | v::r=>(match (aLI P st v).bind D1.ofD,aLJ P st r with
   | some d,some l=>some (d::l)
   | _,_=>none)
def aSC (P:Program) (st:St) (rs:List ResultVar):Option D :=
 match rs with
 | [v]=>aLI P st v
 | rs=>(aLJ P st rs).map .jW
section
variable {P:Program} {n:Nat}
theorem aB4:∀ (ds:List D) (i t:Nat),dK (D.c .bot) (aFa ds i) t=if i≤t∧t<i+ds.length then ds.getD (t - i) (.c .bot) else .c .bot
 | [],i,t=>by simp only[aFa,dK,List.length_nil];rw[aD (by omega)]
 | d::ds,i,t=>by
   simp only[aFa,dK,List.length_cons]
   cases hb:Nat.beq i t with
   | true =>
     have:=aH hb
     subst this
     rw[cond_true,aE (by omega)]
     simp
   | false =>
     have hne:i≠t:=by
      intro e
      subst e
      simp at hb
     rw[cond_false,aB4 ds (i+1) t]
     by_cases h:i+1≤t∧t<i+1+ds.length
     ·rw[aE h,aE (by omega),show t - i=(t - (i+1))+1 by omega,List.getD_cons_succ]
     ·rw[aD h,aD (by omega)]
theorem fT.get {S:Mem} {β:dG}:∀ {ds:List D} {vs:List Value},fT S β ds vs→vs.length=ds.length∧∀ (i:Nat) (d:D),ds[i]? = some d→∃ v,vs[i]? = some v∧dR S β d v
 | [],_,h=>by obtain rfl:=h;exact ⟨rfl,fun i d hd=>by simp at hd⟩
 | _::_,_,⟨v,r,h1,h2,h3⟩=>by
   subst h1
   obtain ⟨hl,hg⟩:=fT.get h3
   refine ⟨by simp [hl],fun i d hd=>?_⟩
   cases i with
   | zero=>simp only[List.getElem?_cons_zero,aA] at hd;subst hd;exact ⟨v,rfl,h2⟩
   | succ i=>simp only[List.getElem?_cons_succ] at hd ⊢;exact hg i d hd
theorem aB5 {Γ:j6} {S:Mem} {β:dG} {a:Act} {w:World} {st:St} (h:RR Γ S β a w n st) (hg:st.gd=[]) {v:ResultVar} {d:D} (hv:aLI P st v=some d) :
 ∃ u,(tD a v).run P w = .ok u w∧dR S β d u:=by
 have tm:∀ t,dR S β (st.get t) (a.tmps.getD t undef):=fun t=>h.tm t (by unfold St.nE;rw[hg];intro q hq;cases hq)
 cases v with
 | tmp t =>
   simp only[aLI,aA] at hv
   subst hv
   exact ⟨_,rfl,tm t⟩
 | cell q t =>
   simp only[aLI] at hv
   obtain ⟨hu,hv⟩:=bZ hv
   split at hv
   ·rename_i o i j hq
    cases he:zS P t (.c (.ptr o i j)) st.cC with
    | none=>rw[he] at hv;cases hv
    | some r =>
      rw[he] at hv
      simp only[Option.map_some,aA] at hv
      subst hv
      have hq':=tm q
      rw[hq] at hq'
      obtain ⟨u,hrun,hd,_⟩:=xL (vs:=r.1) (d':=r.2.1) (xs':=r.2.2) (bI.1 hu) h.core hq' he
      refine ⟨u,?_,hd⟩
      have hr:=hrun w (.inr (Up.refl w))
      obtain ⟨k,_,_,_,hp⟩:=hq'
      rw[hp] at hr
      simp only[tD,hp]
      exact hr
   ·cases hv
theorem aB6 {Γ:j6} {S:Mem} {β:dG} {a:Act} {w:World} {st:St} (h:RR Γ S β a w n st) (hg:st.gd=[]):∀ {rs:List ResultVar} {l:List D1},aLJ P st rs=some l →
 ∃ us,(rs.mapM (tD a)).run P w = .ok us w∧rC S β l us∧us.length=rs.length
 | [],l,hl=>by
   simp only[aLJ,aA] at hl
   subst hl
   exact ⟨[],rfl,rfl,rfl⟩
 | v::r,l,hl=>by
   unfold aLJ at hl
   split at hl
   ·rename_i d l' hd hr
    simp only[aA] at hl
    subst hl
    obtain ⟨us,h1,h2,h3⟩:=aB6 h hg hr
    cases hv:aLI P st v with
    | none=>rw[hv] at hd;cases hd
    | some dd =>
      rw[hv,Option.bind_some] at hd
      obtain ⟨u,hu,hdu⟩:=aB5 h hg hv
      refine ⟨u::us,?_,⟨_,_,rfl,?_,h2⟩,by simp [h3]⟩
      ·rw[List.mapM_cons,Sem.run_bind,hu,Result.andThen_ok,Sem.run_bind,h1]
       rfl
      ·cases dd with
       | c x=>simp only[D1.ofD,aA] at hd;subst hd;exact hdu
       | agg x=>simp only[D1.ofD,aA] at hd;subst hd;exact hdu
       | jW x=>cases hd
   ·cases hl
theorem aAH {fn:Func} {v:ResultVar} (hrs:fn.results = #[v]) (a:Act) (w:World) {u:Value} (hu:(tD a v).run P w = .ok u w):(results fn a.tmps).run P w = .ok u w:=by
 have hres:results fn a.tmps=(do
  let vs ← fn.results.mapM (tD a)
  pure (if h:vs.size=1 then vs[0] else .tuple vs)):=by
  unfold results
  congr 1
 rw[hres,hrs,Sem.run_bind,Array.mapM_eq_mapM_toList,Sem.run_map]
 show (((List.mapM (tD a) [v]).run P w).andThen _).andThen _=_
 rw[List.mapM_cons,Sem.run_bind,hu]
 rfl
theorem aIA {Γ:j6} {S:Mem} {β:dG} {a:Act} {w:World} {st:St} (h:RR Γ S β a w n st) (hg:st.gd=[]) {fn:Func} {d:D} (hr:aSC P st fn.results.toList=some d) :
 ∃ v,(results fn a.tmps).run P w = .ok v w∧dR S β d v:=by
 unfold aSC at hr
 split at hr
 ·rename_i t ht
  have hrs:fn.results = #[t]:=by apply Array.ext';simpa using ht
  obtain ⟨u,hu,hd⟩:=aB5 h hg hr
  exact ⟨u,aAH hrs a w hu,hd⟩
 ·rename_i rs hne
  cases hl:aLJ P st fn.results.toList with
  | none=>rw[hl] at hr;cases hr
  | some l =>
    rw[hl] at hr
    simp only[Option.map_some,aA] at hr
    subst hr
    obtain ⟨us,h1,h2,h3⟩:=aB6 (P:=P) h hg hl
    refine ⟨.tuple us.toArray,?_,us,rfl,h2⟩
    have hres:results fn a.tmps=(do
     let vs ← fn.results.mapM (tD a)
     pure (if h:vs.size=1 then vs[0] else .tuple vs)):=by
     unfold results
     congr 1
    rw[hres,Sem.run_bind]
    have:(fn.results.mapM (tD a)).run P w = .ok us.toArray w:=by
     rw[Array.mapM_eq_mapM_toList,Sem.run_map,h1]
     rfl
    rw[this,Result.andThen_ok]
    rw[dif_neg]
    ·rfl
    ·intro hone
     have hlen:fn.results.toList.length=1:=by rw[← h3];simpa using hone
     obtain ⟨x,hx⟩:=List.length_eq_one_iff.1 hlen
     exact hne x hx
theorem bV.intro {f:FuncId} {fn:Func} {c:Code} {R:Type} {args:List D} {xs:List Obj} {m:Option (R ⊕ R)} {rs:R→St} {res:R→D} {out:R→List Obj}
 (hf:P.funcs[f]? = some fn) (hb:fn.body=some c) (hn:Nat.ble args.length fn.ntmps=true)
 (aWD:Ref P fn.ntmps [c] ⟨aFa args 0,xs,[],xs.length⟩ m rs (fun r=>(.ret,rs r)))
 (hres:∀ r,aSC P (rs r) fn.results.toList=some (res r)) (hout:∀ r,(rs r).cC=out r) (hgd:∀ r,(rs r).gd=[]) (hh:∀ r,(rs r).h=xs.length) :
 bV P f args xs (bX m) res out:=by
 intro S β w vs hc hv r hr
 have hn:=aX hn
 obtain ⟨hvl,hvg⟩:=hv.get
 refine calls_of_wp hf hb ?_
 have hstart:RR ⟨S,w,uG β xs,β⟩ S β { tmps:=vs.toArray++Array.replicate (fn.ntmps - vs.toArray.size) undef,defers:=[] } w fn.ntmps ⟨aFa args 0,xs,[],xs.length⟩:=by
  refine ⟨hc,fun t _=>?_,fun t ht=>absurd (fun q hq=>by cases hq) ht,by simp;omega,rfl,fun o k _ h=>h⟩
  unfold St.get
  simp only
  rw[aB4]
  by_cases ht:t<args.length
  ·rw[aE (by omega)]
   obtain ⟨u,hu,hru⟩:=hvg t _ (aF ht)
   have e1:args.getD (t - 0) (.c .bot)=args[t]:=by simp [List.getD,aF ht]
   have e2:(vs.toArray++Array.replicate (fn.ntmps - vs.toArray.size) undef).getD t undef=u:=by
    rw[aO,Array.getElem?_append_left (by simp;omega)]
    simp [hu]
   rw[e1,e2];exact hru
  ·rw[aD (by omega)];trivial
 have key:∀ z,m=some z→(match z with | .inl r=>r | .inr r=>r)=r→c.wp P (bodyPost P fn fun e w'=>∃ v S' β',e = .returned v∧dR S' β' (res r) v∧(∀ o k,o<xs.length→β o=some k→β' o=some k)∧Core ⟨S,w,uG β xs,β⟩ S' β' w' (out r))
  { tmps:=vs.toArray++Array.replicate (fn.ntmps - vs.toArray.size) undef,defers:=[] } w:=by
  intro z hz hzr
  refine Code.wp_mono (fun e a' w' he=>?_) (aWD _ S β _ w hstart z hz)
  have he':Post ⟨S,w,uG β xs,β⟩ fn.ntmps rs (fun r=>(.ret,rs r)) z e a' w':=by
   cases e <;> exact he
  have fin:∀ r',r'=r→(∃ S' β',RR ⟨S,w,uG β xs,β⟩ S' β' a' w' fn.ntmps (rs r'))→a'.defers=[]∧∃ v,(results fn a'.tmps).run P w' = .ok v w' ∧
   ∃ v' S' β',Ending.returned v = .returned v'∧dR S' β' (res r) v'∧(∀ o k,o<xs.length→β o=some k→β' o=some k)∧Core ⟨S,w,uG β xs,β⟩ S' β' w' (out r):=by
   rintro r' rfl ⟨S',β',hr'⟩
   obtain ⟨v,hv1,hv2⟩:=aIA (P:=P) hr' (hgd r') (hres r')
   refine ⟨hr'.defers,v,hv1,v,S',β',rfl,hv2,fun o k ho hk=>hr'.hand o k (by rw[hh r'];exact ho) hk,?_⟩
   rw[← hout r'];exact hr'.core
  cases z with
  | inl r' =>
    obtain ⟨rfl,hex⟩:=he'
    exact fin r' hzr hex
  | inr r' =>
    obtain ⟨rfl,hex⟩:=he'
    exact fin r' hzr hex
 cases m with
 | none=>cases hr
 | some z =>
   cases z with
   | inl r'=>simp only[bX,aA] at hr;subst hr;exact key _ rfl rfl
   | inr r'=>simp only[bX,aA] at hr;subst hr;exact key _ rfl rfl
theorem bV.congr {f:FuncId} {R:Type} {args:List D} {xs:List Obj} {m m':Option R} {res:R→D} {out:R→List Obj} (h:bV P f args xs m res out) (he:m'=m):bV P f args xs m' res out:=he ▸ h
end
end Go.Dl

namespace Go.Dl
variable [dO]
def vX (om:List Nat) (base i:Nat):Nat:=(om[i]?).getD (base+(i - om.length))
def C.mU (om:List Nat) (base:Nat):C→C
 | .own o n=>.own (vX om base o) n
 | .ptr o i j=>.ptr (vX om base o) i j
 | .self t b o=>.self t b (vX om base o)
 | .map o=>.map (vX om base o)
 | .tail o lo n=>.tail (vX om base o) lo n
 | .opt b c=>.opt b (c.mU om base)
 | .iface b t c=>.iface b t (c.mU om base)
 | .cond b c=>.cond b (c.mU om base)
 | .func fn k cap =>
   let l:=(List.range k).map fun i=>(cap i).mU om base
   .func fn k fun i=>l.getD i .bot
 | c=>c
def D1.mU (om:List Nat) (base:Nat):D1→D1
 | .c x=>.c (x.mU om base)
 | .agg l=>.agg (l.map (C.mU om base))
def D.mU (om:List Nat) (base:Nat):D→D
 | .c x=>.c (x.mU om base)
 | .agg l=>.agg (l.map (C.mU om base))
 | .jW l=>.jW (l.map (D1.mU om base))
def Obj.mU (om:List Nat) (base:Nat):Obj→Obj
 | .cells l=>.cells (l.map (C.mU om base))
 | x=>x
def pU (om:List Nat) (base:Nat) (out:List Obj):List Obj→Nat→List Obj
 | [],_=>[]
 | x::r,o=>((fU o om 0).elim x fun i=>(out.getD i .dead).mU om base)::pU om base out r (o+1)
def lR (om:List Nat) (out:List Obj) (xs:List Obj):List Obj :=
 pU om xs.length out xs 0++(out.drop om.length).map (Obj.mU om xs.length)
def aJ0 (k:Nat) (cap:Nat→C):List D:=(List.range k).map fun i=>.c (cap i)
def xR (st:St) (x:Operand) (args:List Operand) (om:List Nat):Option (FuncId × List D) :=
 match (st.zN []).lv x with
 | .c (.func (.func f) k cap)=>some (f,(args.map (st.zN []).lv).map (D.jP om)++(aJ0 k cap).map (D.jP om))
 | _=>none
def gS (st:St) (om:List Nat):List Obj:=om.map fun o=>(st.cC.getD o .dead).jP om
def jX (P:Program) (f:FuncId):Bool :=
 match P.funcs[f]? with
 | some fn=>!(fn.name == "runtime.NumGoroutine") && fn.body.isSome
 | none=>false
section
variable {P:Program} {n:Nat} {A T R:Type} {go:T→St} {ab:A→Ex × St} {st:St} {cs:List Code}
theorem kA {f:FuncId} (h:jX P f=true) (vs:Array Value) (w:World):(callFunc f vs).run P w = .ok (.enter f vs) w:=by
 unfold jX at h
 unfold callFunc
 rw[Sem.run_bind,run_program,Result.andThen_ok]
 cases hf:P.funcs[f]? with
 | none=>rw[hf] at h;cases h
 | some fn =>
   rw[hf] at h
   simp only[aC,aQ] at h
   obtain ⟨h1,h2⟩:=h
   have h3:fn.body.isNone=false:=by cases hb:fn.body <;> simp_all
   simp only[h1,h3,aR,if_false]
   rfl
theorem fT.append {S:Mem} {β:dG}:∀ {l m:List D} {us vs:List Value},fT S β l us→fT S β m vs→fT S β (l++m) (us++vs)
 | [],_,_,_,h,k=>by obtain rfl:=h;exact k
 | _::_,_,_,_,⟨v,r,h1,h2,h3⟩,k=>by subst h1;exact ⟨v,r++_,rfl,h2,fT.append h3 k⟩
theorem fT.jP {S:Mem} {β:dG} {om:List Nat}:∀ {l:List D} {us:List Value},fT S β l us→fT S (fQ β om) (l.map (D.jP om)) us
 | [],_,h=>h
 | _::_,_,⟨v,r,h1,h2,h3⟩=>⟨v,r,h1,D.mL h2,fT.jP h3⟩
theorem qG {S:Mem} {β:dG} {fn:Fn} {k:Nat} {cap:Nat→C} {v:Value} (h:cV S β (.func fn k cap) v):∃ vs:Array Value,v = .func fn #[] vs∧fT S β (aJ0 k cap) vs.toList:=by
 obtain ⟨vs,h1,h2,h3⟩:=h
 refine ⟨vs,h1,?_⟩
 unfold aJ0
 have key:∀ (l:List Nat) (us:List Value),us.length=l.length→(∀ (i j:Nat),l[i]? = some j→∃ u,us[i]? = some u∧cV S β (cap j) u)→fT S β (l.map fun i=>D.c (cap i)) us:=by
  intro l
  induction l with
  | nil=>intro us hl _;simpa [fT] using hl
  | cons x r ih =>
    intro us hl hh
    cases us with
    | nil=>simp at hl
    | cons u us =>
      refine ⟨u,us,rfl,?_,ih us (by simpa using hl) fun i j hij=>?_⟩
      ·obtain ⟨u',hu',hr⟩:=hh 0 x rfl
       simp only[List.getElem?_cons_zero,aA] at hu'
       subst hu';exact hr
      ·obtain ⟨u',hu',hr⟩:=hh (i+1) j (by simpa using hij)
       exact ⟨u',by simpa using hu',hr⟩
 refine key _ _ (by simp [h2]) fun i j hij=>?_
 have hi:i<k:=by
  rcases bE i k with h | h
  ·exact h
  ·rw[bB (by simpa using h)] at hij;cases hij
 rw[List.getElem?_range hi] at hij
 simp only[aA] at hij
 subst hij
 have hlt:i<vs.size:=by omega
 refine ⟨vs[i],by simp [hlt],?_⟩
 have:=h3 i hi
 rwa [aO,Array.getElem?_eq_getElem hlt,Option.getD_some] at this
theorem fT.aFc {Γ:j6} {S:Mem} {β:dG} {a:Act} {w:World} (h:RR Γ S β a w n st):∀ (l:List Operand),fT S β (l.map (st.zN []).lv) (l.map a.eval)
 | []=>rfl
 | x::l=>⟨_,_,rfl,gN h (fun q hq=>by cases hq) x,fT.aFc h l⟩
def zT (β:dG) (om:List Nat) (base:Nat) (βc:dG):dG:=fun o =>
 match fU o om 0 with
 | some i=>βc i
 | none=>if o<base then β o else βc (om.length+(o - base))
theorem zU:∀ {om:List Nat} {i k o:Nat},mD om=true→om[i]? = some o→fU o om k=some (k+i)
 | [],i,k,o,_,h=>by simp at h
 | x::r,i,k,o,hn,h=>by
   unfold fU
   cases i with
   | zero =>
     simp only[List.getElem?_cons_zero,aA] at h
     subst h
     simp
   | succ i =>
     simp only[List.getElem?_cons_succ] at h
     have hne:Nat.beq x o=false:=by
      cases hb:Nat.beq x o with
      | false=>rfl
      | true =>
        have:=aH hb
        subst this
        have:=vV hn (i:=0) (j:=i+1) (o:=x) (by simp) (by simpa using h)
        omega
     simp only[mD,aC] at hn
     rw[hne,cond_false,zU hn.2 h]
     congr 1
     omega
theorem aAI {om:List Nat} {o:Nat} (hall:∀ x∈om,x≠o) (k:Nat):fU o om k=none:=by
 induction om generalizing k with
 | nil=>rfl
 | cons x r ih =>
   unfold fU
   have hne:Nat.beq x o=false:=by
    cases hb:Nat.beq x o with
    | false=>rfl
    | true=>exact absurd (aH hb) (hall x (by simp))
   rw[hne,cond_false]
   exact ih (fun y hy=>hall y (by simp [hy])) _
theorem xS {β:dG} {om:List Nat} {base:Nat} {βc:dG} (hn:mD om=true) (hlt:∀ x∈om,x<base) (i:Nat):zT β om base βc (vX om base i)=βc i:=by
 unfold zT vX
 cases ho:om[i]? with
 | some o =>
   simp only[Option.getD_some]
   rw[zU hn ho]
   simp
 | none =>
   simp only[Option.getD_none]
   have hge:om.length≤i:=by
    rcases bE i om.length with h | h
    ·rw[aF h] at ho;cases ho
    ·exact h
   rw[aAI (fun x hx=>by have:=hlt x hx;omega)]
   simp only
   rw[aD (by omega)]
   congr 1
   omega
theorem C.kW {S:Mem} {β βc:dG} {om:List Nat} {base:Nat} (hb:∀ i,β (vX om base i)=βc i):∀ {c:C} {v:Value},cV S βc c v→cV S β (c.mU om base) v:=by
 intro c
 induction c with
 | own o m=>intro v hv;simp only[C.mU,cV,hb] at hv ⊢;exact hv
 | ptr o i j=>intro v hv;simp only[C.mU,cV,hb] at hv ⊢;exact hv
 | self t b o=>intro v hv;simp only[C.mU,cV,hb] at hv ⊢;exact hv
 | map o=>intro v hv;simp only[C.mU,cV,hb] at hv ⊢;exact hv
 | tail o lo n=>intro v hv;simp only[C.mU,cV,hb] at hv ⊢;exact hv
 | opt b c ih =>
   intro v hv
   simp only[C.mU,cV] at hv ⊢
   split at hv
   ·rename_i h;rw[aE h];exact ih hv
   ·rename_i h;rw[aD h];exact hv
 | iface b t c ih =>
   intro v hv
   simp only[C.mU,cV] at hv ⊢
   split at hv
   ·rename_i h;rw[aE h];obtain ⟨u,hu,hr⟩:=hv;exact ⟨u,hu,ih hr⟩
   ·rename_i h;rw[aD h];exact hv
 | func fn k cap ih =>
   rintro v ⟨vs,h1,h2,h3⟩
   refine ⟨vs,h1,h2,fun i hi=>?_⟩
   have:(((List.range k).map fun i=>(cap i).mU om base).getD i .bot)=(cap i).mU om base:=by
    simp [List.getD,hi]
   show cV S β (((List.range k).map fun i=>(cap i).mU om base).getD i .bot) _
   rw[this]
   exact ih i (h3 i hi)
 | cond b c ih =>
   intro v hv hbb
   exact ih (hv hbb)
 | _=>intro v hv;exact hv
theorem D1.kW {S:Mem} {β βc:dG} {om:List Nat} {base:Nat} (hb:∀ i,β (vX om base i)=βc i) {d:D1} {v:Value} (h:jT S βc d v):jT S β (d.mU om base) v:=by
 cases d with
 | c x=>exact C.kW hb h
 | agg l=>obtain ⟨vs,h1,h2⟩:=h;exact ⟨vs,h1,h2.map _ fun _ _ h=>C.kW hb h⟩
theorem D.kW {S:Mem} {β βc:dG} {om:List Nat} {base:Nat} (hb:∀ i,β (vX om base i)=βc i) {d:D} {v:Value} (h:dR S βc d v):dR S β (d.mU om base) v:=by
 cases d with
 | c x=>exact C.kW hb h
 | agg l=>obtain ⟨vs,h1,h2⟩:=h;exact ⟨vs,h1,h2.map _ fun _ _ h=>C.kW hb h⟩
 | jW l=>obtain ⟨vs,h1,h2⟩:=h;exact ⟨vs,h1,h2.map _ fun _ _ h=>D1.kW hb h⟩
theorem aGF {x:Obj} {om:List Nat} {base:Nat}:(x.mU om base).live=x.live:=by cases x <;> rfl
theorem rE.mU {S:Mem} {β βc:dG} {w:World} {om:List Nat} {base i:Nat} (hb:∀ i,β (vX om base i)=βc i) {x:Obj} (h:rE S βc w i x):rE S β w (vX om base i) (x.mU om base):=by
 cases x with
 | dead=>trivial
 | cells l =>
   obtain ⟨k,h1,h2,h3,h4,vs,h5,h6,h7⟩:=h
   exact ⟨k,by rw[hb];exact h1,by rw[h2];simp,h3,h4,vs,h5,h6.map _ fun _ _ h=>C.kW hb h,h7⟩
 | aA5 e bs =>
   obtain ⟨k,h1,h2⟩:=h
   exact ⟨k,by rw[hb];exact h1,h2⟩
 | map z has get =>
   obtain ⟨k,h1,h2⟩:=h
   exact ⟨k,by rw[hb];exact h1,h2⟩
 | row e wd m get =>
   rcases h with ⟨h1,h2⟩ | ⟨k,h1,h2⟩
   ·exact .inl ⟨by rw[hb];exact h1,h2⟩
   ·exact .inr ⟨k,by rw[hb];exact h1,h2⟩
theorem kP {om:List Nat} {base:Nat} {out:List Obj}:∀ (xs:List Obj) (o:Nat),(pU om base out xs o).length=xs.length
 | [],_=>rfl
 | _::r,o=>by simp [pU,kP r (o+1)]
theorem aB7 {om:List Nat} {base:Nat} {out:List Obj}:∀ (xs:List Obj) (o q:Nat),(pU om base out xs o)[q]? = (xs[q]?).map fun x=>(fU (o+q) om 0).elim x fun i=>(out.getD i .dead).mU om base
 | [],_,_=>by simp [pU]
 | x::r,o,0=>by simp [pU]
 | x::r,o,q+1=>by
   simp only[pU,List.getElem?_cons_succ]
   rw[aB7 r (o+1) q,show o+1+q=o+(q+1) by omega]
theorem mE {om:List Nat} {out xs:List Obj} (hlt:∀ x∈om,x<xs.length) {q:Nat} {y:Obj} (h:(lR om out xs)[q]? = some y) (hl:y.live=true) :
 (∃ i x,out[i]? = some x∧q=vX om xs.length i∧y=x.mU om xs.length∧x.live=true∧(i<om.length∨om.length≤i))∨(fU q om 0=none∧xs[q]? = some y∧q<xs.length):=by
 unfold lR at h
 rcases bE q xs.length with hq | hq
 ·rw[List.getElem?_append_left (by rw[kP];exact hq),aB7,Nat.zero_add] at h
  cases hx:xs[q]? with
  | none=>rw[hx] at h;cases h
  | some x =>
    rw[hx] at h
    simp only[Option.map_some,aA] at h
    cases hi:fU q om 0 with
    | none =>
      rw[hi] at h
      simp only[Option.elim] at h
      subst h
      exact .inr ⟨rfl,rfl,hq⟩
    | some i =>
      rw[hi] at h
      simp only[Option.elim] at h
      subst h
      rw[aGF] at hl
      obtain ⟨_,hom⟩:=jB hi
      simp only[Nat.sub_zero] at hom
      cases ho:out[i]? with
      | none=>simp [List.getD,ho,Obj.live] at hl
      | some x' =>
        left
        have hgd:out.getD i .dead=x':=by simp [List.getD,ho]
        rw[hgd] at hl
        refine ⟨i,x',ho,by simp [vX,hom],by rw[hgd],hl,?_⟩
        rcases bE i om.length with h | h
        ·exact .inl h
        ·exact .inr h
 ·rw[List.getElem?_append_right (by rw[kP];exact hq),kP,bG,List.getElem?_drop] at h
  cases ho:out[om.length+(q - xs.length)]? with
  | none=>rw[ho] at h;cases h
  | some x =>
    rw[ho] at h
    simp only[Option.map_some,aA] at h
    subst h
    rw[aGF] at hl
    left
    refine ⟨om.length+(q - xs.length),x,ho,?_,rfl,hl,.inr (by omega)⟩
    have:om[om.length+(q - xs.length)]? = none:=bB (by omega)
    simp only[vX,this,Option.getD_none]
    omega
theorem Core.after {Γ:j6} {S S':Mem} {β βc:dG} {w w':World} {xs out:List Obj} {om:List Nat} (h:Core Γ S β w xs) (hn:mD om=true) (hlt:∀ x∈om,x<xs.length)
 (hc:Core ⟨S,w,uG (fQ β om) (om.map fun o=>(xs.getD o .dead).jP om),fQ β om⟩ S' βc w' out) (hB:∀ o k,o<om.length→fQ β om o=some k→βc o=some k) :
 Core Γ S' (zT β om xs.length βc) w' (lR om out xs)∧kK β (zT β om xs.length βc):=by
 have iT:=fun i=>xS (β:=β) (βc:=βc) hn hlt i
 -- the blocks that are handed over
 have hM:∀ b,uG (fQ β om) (om.map fun o=>(xs.getD o .dead).jP om) b→∃ o k x,o∈om∧xs[o]? = some x∧x.live=true∧β o=some (some k)∧k.b=b:=by
  rintro b ⟨i,k,y,hy,hl,hk,hb⟩
  rw[bG] at hy
  cases ho:om[i]? with
  | none=>rw[ho] at hy;cases hy
  | some o =>
    rw[ho] at hy
    simp only[Option.map_some,aA] at hy
    subst hy
    rw[aGC] at hl
    cases hx:xs[o]? with
    | none=>simp [List.getD,hx,Obj.live] at hl
    | some x =>
      refine ⟨o,k,x,bL ho,hx,by simpa [List.getD,hx] using hl,?_,hb⟩
      simpa [fQ,ho] using hk
 have hMΓ:∀ b,b<Γ.w.heap.size→¬ Γ.M b→¬ uG (fQ β om) (om.map fun o=>(xs.getD o .dead).jP om) b:=by
  intro b hb hnm hm
  obtain ⟨o,k,x,_,hx,hl,hk,rfl⟩:=hM b hm
  exact hnm ((h.mine o k x hx hl hk).2 hb)
 -- an object that is not handed over keeps its block
 have aFd:∀ o k x,fU o om 0=none→xs[o]? = some x→x.live=true→β o=some (some k)→¬ uG (fQ β om) (om.map fun o=>(xs.getD o .dead).jP om) k.b:=by
  intro o k x hi hx hl hk hm
  obtain ⟨o',k',x',ho',hx',hl',hk',hb⟩:=hM _ hm
  by_cases e:o'=o
  ·subst e
   obtain ⟨i,hi'⟩:=List.getElem?_of_mem ho'
   rw[zU hn hi'] at hi
   cases hi
  ·exact h.inj o' o k' k x' x hx' hx hl' hl hk' hk e hb
 have hle:kK β (zT β om xs.length βc):=by
  intro o k hk
  unfold zT
  cases hi:fU o om 0 with
  | some i =>
    obtain ⟨_,hom⟩:=jB hi
    simp only[Nat.sub_zero] at hom
    have hil:i<om.length:=by
     rcases bE i om.length with h | h
     ·exact h
     ·rw[bB h] at hom;cases hom
    exact hB i k hil (by simpa [fQ,hom] using hk)
  | none =>
    simp only
    rw[aE]
    ·exact hk
    ·rcases bE o xs.length with h1 | h1
     ·exact h1
     ·rw[h.out o h1] at hk;cases hk
 have hold:∀ o,fU o om 0=none→o<xs.length→zT β om xs.length βc o=β o:=by
  intro o hi ho
  unfold zT
  rw[hi]
  simp only
  rw[aE ho]
 have aWG:∀ i k x,out[i]? = some x→x.live=true→βc i=some (some k)→k.b<w.heap.size→uG (fQ β om) (om.map fun o=>(xs.getD o .dead).jP om) k.b:=fun i k x hx hl hk=>(hc.mine i k x hx hl hk).2
 refine ⟨⟨?_,hc.holds,?_,?_,?_,?_,?_⟩,hle⟩
 ·refine ⟨hc.frame.os.trans h.frame.os,hc.frame.tape.trans h.frame.tape,hc.frame.output.trans h.frame.output,aS h.frame.size hc.frame.size,fun b hb hnm=>?_,fun b i hb hnm=>?_,h.frame.le.trans hc.frame.le,h.frame.aDS,h.frame.inv⟩
  ·exact (hc.frame.block b (bH hb h.frame.size) (hMΓ b hb hnm)).trans (h.frame.block b hb hnm)
  ·exact (hc.frame.mem b i (bH hb h.frame.size) (hMΓ b hb hnm)).trans (h.frame.mem b i hb hnm)
 ·intro q y hy
  cases hl:y.live with
  | false=>cases y <;> first | trivial | cases hl
  | true =>
    rcases mE hlt hy hl with ⟨i,x,hx,rfl,rfl,hxl,_⟩ | ⟨hi,hx,hq⟩
    ·exact (hc.cC i x hx).mU iT
    ·exact (h.cC q y hx).keep hc.frame.le hle fun k hl hk=>hc.frame.block k.b (h.mine q k y hx hl hk).1 (aFd q k y hi hx hl hk)
 ·intro q hq
  have hlen:(lR om out xs).length=xs.length+(out.length - om.length):=by
   unfold lR
   rw[aG,kP,aU,bM]
  rw[hlen] at hq
  unfold zT
  rw[aAI (fun x hx=>by have:=hlt x hx;omega)]
  simp only
  rw[aD (by omega)]
  exact hc.out _ (by omega)
 ·intro q q' k k' y y' hy hy' hl hl' hk hk' hne
  rcases mE hlt hy hl with ⟨i,x,hx,rfl,rfl,hxl,_⟩ | ⟨hi,hx,hq⟩
  ·rw[iT] at hk
   rcases mE hlt hy' hl' with ⟨i',x',hx',rfl,rfl,aIy,_⟩ | ⟨hi',hx',hq'⟩
   ·rw[iT] at hk'
    exact hc.inj i i' k k' x x' hx hx' hxl aIy hk hk' fun e=>hne (by rw[e])
   ·rw[hold q' hi' hq'] at hk'
    intro e
    have hlt':=(h.mine q' k' y' hx' hl' hk').1
    exact aFd q' k' y' hi' hx' hl' hk' (e ▸ aWG i k x hx hxl hk (by omega))
  ·rw[hold q hi hq] at hk
   rcases mE hlt hy' hl' with ⟨i',x',hx',rfl,rfl,aIy,_⟩ | ⟨hi',hx',hq'⟩
   ·rw[iT] at hk'
    intro e
    have hlt':=(h.mine q k y hx hl hk).1
    exact aFd q k y hi hx hl hk (e ▸ aWG i' k' x' hx' aIy hk' (by omega))
   ·rw[hold q' hi' hq'] at hk'
    exact h.inj q q' k k' y y' hx hx' hl hl' hk hk' hne
 ·intro q k y hy hl hk j
  rcases mE hlt hy hl with ⟨i,x,hx,rfl,rfl,hxl,_⟩ | ⟨hi,hx,hq⟩
  ·rw[iT] at hk
   exact hc.sep i k x hx hxl hk j
  ·rw[hold q hi hq] at hk
   rw[hc.frame.mem k.b j (h.mine q k y hx hl hk).1 (aFd q k y hi hx hl hk)]
   exact h.sep q k y hx hl hk j
 ·intro q k y hy hl hk
  rcases mE hlt hy hl with ⟨i,x,hx,rfl,rfl,hxl,_⟩ | ⟨hi,hx,hq⟩
  ·rw[iT] at hk
   refine ⟨(hc.mine i k x hx hxl hk).1,fun hb=>?_⟩
   obtain ⟨o',k',x',_,hx',hl',hk',hb'⟩:=hM _ (aWG i k x hx hxl hk (bH hb h.frame.size))
   rw[← hb']
   exact (h.mine o' k' x' hx' hl' hk').2 (by rw[hb'];exact hb)
  ·rw[hold q hi hq] at hk
   have:=h.mine q k y hx hl hk
   exact ⟨bH this.1 hc.frame.size,this.2⟩
theorem eO.call {ops:Array Oper} {o:Oper} {rest:List Oper} {x:Operand} {args:Array Operand} {pS:Array TypeId} {t:Nat} {f:FuncId} {om:List Nat} {cR:List D} {cxs:List Obj}
 {mc:Option R} {res:R→D} {out:R→List Obj} {m:R→Option (A ⊕ T)}
 (lZ:bV P f cR cxs mc res out) (hgd:o.guard=none) (ho:o.op = .call ⟨.value x,args,pS⟩) (lY:o.dst=some t)
 (fX:xR st x args.toList om=some (f,cR)) (a5d:gS st om=cxs) (hf:jX P f=true)
 (hn:(mD om && (om.all (fun o=>Nat.blt o st.cC.length) && (Nat.blt t n && lQ st t)))=true)
 (h:∀ r,eO P n ops rest cs (st.put (some t) ((res r).mU om st.cC.length) (lR om (out r) st.cC) []) (m r) go ab) :
 eO P n ops (o::rest) cs st (mc.bind m) go ab:=by
 intro Γ S β a w hr q hq
 simp only[aC,aN,aW] at hn
 obtain ⟨hnd,hlt,htn,hfree⟩:=hn
 cases hm:mc with
 | none=>rw[hm] at hq;cases hq
 | some r =>
   rw[hm,Option.bind_some] at hq
   simp only[wpList,Region.wanted,hgd,if_true]
   left
   unfold xR at fX
   split at fX
   ·rename_i f' k cap hx
    simp only[aA,aI] at fX
    obtain ⟨rfl,oD⟩:=fX
    have hxr:=gN hr (g:=[]) (fun q hq=>by cases hq) x
    rw[hx] at hxr
    obtain ⟨vs,hxv,tE⟩:=qG hxr
    have hrun:(execOp a.eval o).run P w = .ok (.enter f' (args.map a.eval++vs)) w:=by
     unfold execOp
     rw[ho]
     simp only[resolve,hxv,Deferred.ofValue,pure_bind,invoke]
     rw[kA hf]
     simp
    simp only[Oper.wp,Oper.upon,hrun]
    have hargs:fT S (fQ β om) cR (args.map a.eval++vs).toList:=by
     rw[← oD]
     have e:(args.map a.eval++vs).toList=args.toList.map a.eval++vs.toList:=by simp
     rw[e]
     exact (fT.jP (fT.aFc hr args.toList)).append (fT.jP tE)
    have fL:=hr.core.jP hnd
    subst a5d
    have vY:Core ⟨S,w,uG (fQ β om) (gS st om),fQ β om⟩ S (fQ β om) w (gS st om):=by
     refine ⟨⟨rfl,rfl,rfl,aM _,fun _ _ _=>rfl,fun _ _ _ _=>rfl,jL.refl _,fL.aGD,fL.inv⟩,fL.holds,fL.cC,fL.out,fL.inj,fL.sep,fun o k y hy hl hk=>⟨(fL.mine o k y hy hl hk).1,fun _=>⟨o,k,y,hy,hl,hk,rfl⟩⟩⟩
    have:=lZ S (fQ β om) w (args.map a.eval++vs).toList vY hargs r hm
    have e2:(args.map a.eval++vs).toList.toArray=args.map a.eval++vs:=by simp
    rw[e2] at this
    refine this.mono fun e w' he=>?_
    obtain ⟨v,S',βc,rfl,hres,hB,nM⟩:=he
    obtain ⟨pP,hle⟩:=hr.core.after hnd hlt nM (fun o k ho hk=>hB o k (by simpa [gS] using ho) hk)
    have aB8:dR S' (zT β om st.cC.length βc) ((res r).mU om st.cC.length) v:=D.kW (fun i=>xS hnd hlt i) hres
    have hput:=hr.put pP nM.frame.le hle htn hfree (g:=[]) (fun q hq=>by cases hq) (fun _=>aB8) (fun hno=>absurd (fun q hq=>by cases hq) hno)
    rw[lY]
    exact h r Γ S' _ _ w' hput q hq
   ·cases fX
end
end Go.Dl

namespace Go.Dl
variable [dO]
def C.sub (f:C→C):C→C
 | .own o n=>f (.own o n)
 | .ptr o i j=>f (.ptr o i j)
 | .opt b c=>.opt b (c.sub f)
 | .iface b t c=>.iface b t (c.sub f)
 | .cond b c=>.cond b (c.sub f)
 | .func fn k cap =>
   let l:=(List.range k).map fun i=>(cap i).sub f
   .func fn k fun i=>l.getD i .bot
 | c=>c
def D1.sub (f:C→C):D1→D1
 | .c x=>.c (x.sub f)
 | .agg l=>.agg (l.map (C.sub f))
def D.sub (f:C→C):D→D
 | .c x=>.c (x.sub f)
 | .agg l=>.agg (l.map (C.sub f))
 | .jW l=>.jW (l.map (D1.sub f))
def Obj.sub (f:C→C):Obj→Obj
 | .cells l=>.cells (l.map (C.sub f))
 | x=>x
def nG (o w:Nat) (get:Nat→Nat→C):C→C
 | .own o' n=>bif Nat.beq o' o then .tree w n get else .own o' n
 | c=>c
def oE (o:Nat) (l:List C):C→C
 | .ptr o' i j=>bif Nat.beq o' o then .nP l.length (fun j=>l.getD j .bot) j else .ptr o' i j
 | c=>c
def St.freeze (st:St) (o:Nat):Option St :=
 match st.cC[o]? with
 | some (.row _ w _ get)=>some ⟨st.tmps.map fun p=>(p.1,p.2.sub (nG o w get)),(st.cC.set o .dead).map (Obj.sub (nG o w get)),st.gd,st.h⟩
 | some (.cells l)=>bif l.all C.shut then some ⟨st.tmps.map fun p=>(p.1,p.2.sub (oE o l)),(st.cC.set o .dead).map (Obj.sub (oE o l)),st.gd,st.h⟩ else none
 | _=>none
def C.flat:C→Bool
 | .val _ | .str _ | .nil | .bot=>true
 | .iface _ _ c=>c.flat
 | _=>false
def D1.flat:D1→Bool
 | .c x=>x.flat
 | .agg l=>l.all C.flat
def D.flat:D→Bool
 | .c x=>x.flat
 | .agg l=>l.all C.flat
 | .jW l=>l.all D1.flat
def D.shut:D→Bool
 | .c x=>x.shut
 | .agg l=>l.all C.shut
 | .jW _=>false
def St.mM (st:St):List Nat→Option St
 | []=>some st
 | o::r =>
   match st.freeze o with
   | some dD=>dD.mM r
   | none=>none
def jY (st:St) (g:List (Nat × Bool)) (x:Operand) (args:List Operand):Option (FuncId × List D) :=
 match (st.zN g).lv x with
 | .c (.func (.func f) k cap)=>some (f,args.map (st.zN g).lv++aJ0 k cap)
 | _=>none
section
variable {P:Program} {n:Nat} {A T R:Type} {go:T→St} {ab:A→Ex × St} {st dD:St} {cs:List Code} {m:Option (A ⊕ T)}
def aD3 (S:Mem) (w:World) (b k:Nat):Mem:=fun b' i=>if b'=b then (if i<k then w.cell? ⟨b,i,none⟩ else none) else S b' i
theorem aBy {S:Mem} {w:World} {b k:Nat} (h:∀ i,S b i=none):jL S (aD3 S w b k):=by
 intro b' i v hv
 unfold aD3
 split
 ·rename_i e;subst e;rw[h i] at hv;cases hv
 ·exact hv
theorem C.nR {S S':Mem} {β:dG} {f:C→C} (hs:jL S S') (h1:∀ o m v,cV S β (.own o m) v→cV S' β (f (.own o m)) v) (h2:∀ o i j v,cV S β (.ptr o i j) v→cV S' β (f (.ptr o i j)) v) :
 ∀ {c:C} {v:Value},cV S β c v→cV S' β (c.sub f) v:=by
 intro c
 induction c with
 | own o' m=>intro v hv;exact h1 _ _ _ hv
 | ptr o' i j=>intro v hv;exact h2 _ _ _ _ hv
 | opt b c ih =>
   intro v hv
   simp only[C.sub,cV] at hv ⊢
   split at hv
   ·rename_i h;rw[aE h];exact ih hv
   ·rename_i h;rw[aD h];exact hv
 | iface b t c ih =>
   intro v hv
   simp only[C.sub,cV] at hv ⊢
   split at hv
   ·rename_i h;rw[aE h];obtain ⟨u,hu,hr⟩:=hv;exact ⟨u,hu,ih hr⟩
   ·rename_i h;rw[aD h];exact hv
 | func fn k cap ih =>
   rintro v ⟨vs,q1,q2,q3⟩
   refine ⟨vs,q1,q2,fun i hi=>?_⟩
   have:(((List.range k).map fun i=>(cap i).sub f).getD i .bot)=(cap i).sub f:=by
    simp [List.getD,hi]
   show cV S' β (((List.range k).map fun i=>(cap i).sub f).getD i .bot) _
   rw[this]
   exact ih i (q3 i hi)
 | cond b c ih =>
   intro v hv hb
   exact ih (hv hb)
 | _=>intro v hv;exact cV.mono hs _ _ _ hv
theorem D1.nR {S S':Mem} {β:dG} {f:C→C} (hs:jL S S') (h1:∀ o m v,cV S β (.own o m) v→cV S' β (f (.own o m)) v) (h2:∀ o i j v,cV S β (.ptr o i j) v→cV S' β (f (.ptr o i j)) v)
 {d:D1} {v:Value} (h:jT S β d v):jT S' β (d.sub f) v:=by
 cases d with
 | c x=>exact C.nR hs h1 h2 h
 | agg l=>obtain ⟨vs,q1,q2⟩:=h;exact ⟨vs,q1,q2.map _ fun _ _ h=>C.nR hs h1 h2 h⟩
theorem D.nR {S S':Mem} {β:dG} {f:C→C} (hs:jL S S') (h1:∀ o m v,cV S β (.own o m) v→cV S' β (f (.own o m)) v) (h2:∀ o i j v,cV S β (.ptr o i j) v→cV S' β (f (.ptr o i j)) v)
 {d:D} {v:Value} (h:dR S β d v):dR S' β (d.sub f) v:=by
 cases d with
 | c x=>exact C.nR hs h1 h2 h
 | agg l=>obtain ⟨vs,q1,q2⟩:=h;exact ⟨vs,q1,q2.map _ fun _ _ h=>C.nR hs h1 h2 h⟩
 | jW l=>obtain ⟨vs,q1,q2⟩:=h;exact ⟨vs,q1,q2.map _ fun _ _ h=>D1.nR hs h1 h2 h⟩
theorem aB9 {Γ:j6} {S:Mem} {β:dG} {w:World} {xs:List Obj} (h:Core Γ S β w xs) {o:Nat} {e:TypeId} {wd m:Nat} {get:Nat→Nat→C} (hx:xs[o]? = some (.row e wd m get)) :
 ∃ S',jL S S'∧Holds S' w∧(∀ q v,cV S β (.own o q) v→cV S' β (.tree wd q get) v) ∧
   ((S'=S)∨∃ k,β o=some (some k)∧∀ b i,b≠k.b→S' b i=S b i):=by
 rcases h.cC o _ hx with ⟨hn,hm⟩ | ⟨k,hk,he,hw,hn,hcap,uJ,cur,hh,hsz,hcell⟩
 ·refine ⟨S,jL.refl _,h.holds,fun q v hv=>?_,.inl rfl⟩
  simp only[cV,hn] at hv
  obtain ⟨rfl,rfl⟩:=hv
  exact ⟨none,0,rfl,aM _,Nat.zero_le _,.inl rfl⟩
 ·have hsep:=h.sep o k _ hx rfl hk
  refine ⟨aD3 S w k.b (m * wd),aBy hsep,?_,fun q v hv=>?_,.inr ⟨k,hk,fun b i hb=>?_⟩⟩
  ·intro b i v hv
   unfold aD3 at hv
   split at hv
   ·rename_i e'
    subst e'
    split at hv
    ·rename_i hi
     refine ⟨hv,?_⟩
     have hwd:0<wd:=by
      rcases Nat.eq_zero_or_pos wd with hz | hz
      ·rw[hz] at hi;omega
      ·exact hz
     have h1:i / wd<m:=by rw[Nat.div_lt_iff_lt_mul hwd];exact hi
     obtain ⟨u,hu,ho1,_⟩:=hcell (i / wd) (i % wd) h1 (Nat.mod_lt _ hwd)
     rw[Nat.mul_comm,Nat.div_add_mod] at hu
     rw[cell_of_heap hh,hu] at hv
     simp only[aA] at hv
     rw[← hv];exact ho1
    ·cases hv
   ·exact h.holds b i v hv
  ·simp only[cV,hk] at hv
   obtain ⟨h1,h2,rfl⟩:=hv
   refine ⟨_,_,rfl,h2,uJ,?_⟩
   by_cases hq:q=0
   ·exact .inl hq
   ·refine .inr ⟨k.b,0,rfl,fun i j hi hj=>?_⟩
    obtain ⟨u,hu,_,hr⟩:=hcell i j (by omega) hj
    refine ⟨u,?_,cV.mono (aBy hsep) _ _ _ hr⟩
    unfold aD3
    rw[aE rfl,Nat.zero_add,aE,cell_of_heap hh,hu]
    have:(i+1) * wd≤m * wd:=aV _ (by omega)
    rw[Nat.add_mul] at this
    omega
  ·unfold aD3
   rw[aD hb]
theorem aFf {Γ:j6} {S:Mem} {β:dG} {w:World} {xs:List Obj} (h:Core Γ S β w xs) {o:Nat} {l:List C} (hx:xs[o]? = some (.cells l)) (hsh:l.all C.shut=true) :
 ∃ S',jL S S'∧Holds S' w∧(∀ i j v,cV S β (.ptr o i j) v→cV S' β (.nP l.length (fun j=>l.getD j .bot) j) v) ∧
   ((S'=S)∨∃ k,β o=some (some k)∧∀ b i,b≠k.b→S' b i=S b i):=by
 obtain ⟨k,hk,hw,hn,hcap,us,hh,hl,h1⟩:=h.cC o _ hx
 have hsep:=h.sep o k _ hx rfl hk
 refine ⟨aD3 S w k.b l.length,aBy hsep,?_,fun i j v hv=>?_,.inr ⟨k,hk,fun b i hb=>?_⟩⟩
 ·intro b i v hv
  unfold aD3 at hv
  split at hv
  ·rename_i e'
   subst e'
   split at hv
   ·rename_i hi
    refine ⟨hv,?_⟩
    rw[cell_of_heap hh] at hv
    have:us[i]? = some v:=by simpa using hv
    exact h1 v (bL this)
   ·cases hv
  ·exact h.holds b i v hv
 ·obtain ⟨k',hk',hi,hj,rfl⟩:=hv
  rw[hk] at hk';simp only[aA] at hk';subst hk'
  have hi0:i=0:=by omega
  subst hi0
  refine ⟨k.b,0,by simp,fun j' hj'=>?_⟩
  obtain ⟨u,hu,hr⟩:=hl.get j' _ (aF hj')
  refine ⟨u,?_,?_⟩
  ·unfold aD3
   rw[aE rfl,Nat.zero_add,aE hj',cell_of_heap hh]
   simpa using hu
  ·have hsj:(l[j']).shut=true:=by rw[aN] at hsh;exact hsh _ (List.getElem_mem hj')
   have e:l.getD j' .bot=l[j']:=by simp [List.getD,aF hj']
   show cV _ pQ (l.getD j' .bot) u
   rw[e]
   exact cV.mono (aBy hsep) _ _ _ (lN hsj hr)
 ·unfold aD3
  rw[aD hb]
theorem aNB {x:Obj} {f:C→C}:(x.sub f).live=x.live:=by cases x <;> rfl
theorem zV {Γ:j6} {S S':Mem} {β:dG} {a:Act} {w:World} {o:Nat} {ob:Obj} {f:C→C} (h:RR Γ S β a w n st) (hx:st.cC[o]? = some ob) (hol:ob.live=true) (hs:jL S S') (hh:Holds S' w)
 (h1:∀ o m v,cV S β (.own o m) v→cV S' β (f (.own o m)) v) (h2:∀ o i j v,cV S β (.ptr o i j) v→cV S' β (f (.ptr o i j)) v)
 (hf:∀ o m b,f (.own o m)≠.val (.bool b)) (hf2:∀ o i j b,f (.ptr o i j)≠.val (.bool b))
 (hch:(S'=S)∨∃ k,β o=some (some k)∧∀ b i,b≠k.b→S' b i=S b i) :
 RR Γ S' β a w n ⟨st.tmps.map fun p=>(p.1,p.2.sub f),(st.cC.set o .dead).map (Obj.sub f),st.gd,st.h⟩:=by
 have get':∀ t,St.get ⟨st.tmps.map fun p=>(p.1,p.2.sub f),(st.cC.set o .dead).map (Obj.sub f),st.gd,st.h⟩ t=(st.get t).sub f:=by
  intro t
  unfold St.get
  simp only
  generalize st.tmps=l
  induction l with
  | nil=>rfl
  | cons p r ih =>
    obtain ⟨i,d⟩:=p
    simp only[List.map_cons,dK]
    cases Nat.beq i t with
    | true=>rfl
    | false=>exact ih
 have oF:∀ {d:D} {b:Bool},d.sub f = .c (.val (.bool b))↔d = .c (.val (.bool b)):=by
  intro d b
  constructor
  ·intro hd
   cases d with
   | c x =>
     simp only[D.sub,D.c.injEq] at hd
     cases x with
     | val u=>simp only[C.sub] at hd;rw[hd]
     | own o' q=>exact absurd hd (hf _ _ _)
     | ptr o' i j=>exact absurd hd (hf2 _ _ _ _)
     | _=>simp only[C.sub] at hd;cases hd
   | agg l=>cases hd
   | jW l=>cases hd
  ·rintro rfl;rfl
 have hold:∀ g,St.holds ⟨st.tmps.map fun p=>(p.1,p.2.sub f),(st.cC.set o .dead).map (Obj.sub f),st.gd,st.h⟩ g↔st.holds g:=by
  intro g
  unfold St.holds
  constructor
  ·intro hh q hq
   have:=hh q hq
   rw[get',oF] at this
   exact this
  ·intro hh q hq
   rw[get',oF]
   exact hh q hq
 have aNC:∀ q y,((st.cC.set o .dead).map (Obj.sub f))[q]? = some y→y.live=true→∃ x,q≠o∧st.cC[q]? = some x∧x.live=true∧y=x.sub f:=by
  intro q y hy hl
  rw[bG] at hy
  cases hq:(st.cC.set o .dead)[q]? with
  | none=>rw[hq] at hy;cases hy
  | some x =>
    rw[hq] at hy
    simp only[Option.map_some,aA] at hy
    subst hy
    rw[aNB] at hl
    obtain ⟨h1,h2⟩:=aJR hq hl
    exact ⟨x,h1,h2,hl,rfl⟩
 have hne:∀ k,β o=some (some k)→∀ q x k',q≠o→st.cC[q]? = some x→x.live=true→β q=some (some k')→k'.b≠k.b :=
  fun k hk q x k' hq hxq hl hk'=>h.core.inj q o k' k x _ hxq hx hl hol hk' hk hq
 refine ⟨⟨?_,hh,?_,?_,?_,?_,?_⟩,fun t ht=>?_,fun t ht=>?_,h.size,h.defers,h.hand⟩
 ·refine ⟨h.core.frame.os,h.core.frame.tape,h.core.frame.output,h.core.frame.size,h.core.frame.block,fun b i hb hnm=>?_,h.core.frame.le.trans hs,h.core.frame.aDS,h.core.frame.inv⟩
  rcases hch with rfl | ⟨k,hk,hch⟩
  ·exact h.core.frame.mem b i hb hnm
  ·by_cases e:b=k.b
   ·subst e
    exact absurd ((h.core.mine o k _ hx hol hk).2 hb) hnm
   ·rw[hch b i e];exact h.core.frame.mem b i hb hnm
 ·intro q y hy
  cases hl:y.live with
  | false=>cases y <;> first | trivial | cases hl
  | true =>
    obtain ⟨x,hq,hxq,hxl,rfl⟩:=aNC q y hy hl
    have ho:=h.core.cC q x hxq
    cases x with
    | dead=>cases hxl
    | cells l =>
      obtain ⟨k,h1',h2',h3,h4,vs,h5,h6,h7⟩:=ho
      exact ⟨k,h1',by rw[h2'];simp,h3,h4,vs,h5,h6.map _ fun _ _ hc=>C.nR hs h1 h2 hc,h7⟩
    | row e2 wd2 m2 a7T=>exact ho.keep hs (kK.refl _) fun _ _ _=>rfl
    | aA5 e2 bs=>exact ho.keep hs (kK.refl _) fun _ _ _=>rfl
    | map z has get=>exact ho.keep hs (kK.refl _) fun _ _ _=>rfl
 ·intro q hq
  exact h.core.out q (by simpa using hq)
 ·intro q q' k k' y y' hy hy' hl hl'
  obtain ⟨x,_,hxq,hxl,_⟩:=aNC q y hy hl
  obtain ⟨x',_,a5f,aIy,_⟩:=aNC q' y' hy' hl'
  exact h.core.inj q q' k k' x x' hxq a5f hxl aIy
 ·intro q k y hy hl hk i
  obtain ⟨x,hq,hxq,hxl,_⟩:=aNC q y hy hl
  rcases hch with rfl | ⟨k0,hk0,hch⟩
  ·exact h.core.sep q k x hxq hxl hk i
  ·rw[hch k.b i (hne k0 hk0 q x k hq hxq hxl hk)]
   exact h.core.sep q k x hxq hxl hk i
 ·intro q k y hy hl hk
  obtain ⟨x,_,hxq,hxl,_⟩:=aNC q y hy hl
  exact h.core.mine q k x hxq hxl hk
 ·rw[get']
  have ht':st.holds (st.nE t):=(hold _).1 ht
  exact D.nR hs h1 h2 (h.tm t ht')
 ·exact h.un t fun hh=>ht ((hold _).2 hh)
theorem xT {Γ:j6} {S:Mem} {β:dG} {a:Act} {w:World} {o:Nat} (h:RR Γ S β a w n st) (hf:st.freeze o=some dD):∃ S',RR Γ S' β a w n dD∧∀ g,dD.holds g↔st.holds g:=by
 have aUS:∀ (f:C→C),(∀ o m b,f (.own o m)≠.val (.bool b))→(∀ o i j b,f (.ptr o i j)≠.val (.bool b))→∀ g,St.holds ⟨st.tmps.map fun p=>(p.1,p.2.sub f),(st.cC.set o .dead).map (Obj.sub f),st.gd,st.h⟩ g↔st.holds g:=by
  intro f hf1 hf2 g
  have get':∀ t,St.get ⟨st.tmps.map fun p=>(p.1,p.2.sub f),(st.cC.set o .dead).map (Obj.sub f),st.gd,st.h⟩ t=(st.get t).sub f:=by
   intro t
   unfold St.get
   simp only
   generalize st.tmps=l
   induction l with
   | nil=>rfl
   | cons p r ih =>
     obtain ⟨i,d⟩:=p
     simp only[List.map_cons,dK]
     cases Nat.beq i t with
     | true=>rfl
     | false=>exact ih
  have oF:∀ {d:D} {b:Bool},d.sub f = .c (.val (.bool b))↔d = .c (.val (.bool b)):=by
   intro d b
   constructor
   ·intro hd
    cases d with
    | c x =>
      simp only[D.sub,D.c.injEq] at hd
      cases x with
      | val u=>simp only[C.sub] at hd;rw[hd]
      | own o' q=>exact absurd hd (hf1 _ _ _)
      | ptr o' i j=>exact absurd hd (hf2 _ _ _ _)
      | _=>simp only[C.sub] at hd;cases hd
    | agg l=>cases hd
    | jW l=>cases hd
   ·rintro rfl;rfl
  unfold St.holds
  constructor
  ·intro hh q hq
   have:=hh q hq
   rw[get',oF] at this
   exact this
  ·intro hh q hq
   rw[get',oF]
   exact hh q hq
 unfold St.freeze at hf
 split at hf
 ·rename_i e wd m get hx
  simp only[aA] at hf
  subst hf
  obtain ⟨S',hs,hh,hown,hch⟩:=aB9 h.core hx
  have f1:∀ o' m' b,nG o wd get (.own o' m')≠.val (.bool b):=by
   intro o' m' b
   simp only[nG]
   cases Nat.beq o' o <;> simp
  have f2:∀ o' i j b,nG o wd get (.ptr o' i j)≠.val (.bool b):=by
   intro o' i j b
   simp [nG]
  refine ⟨S',zV h hx rfl hs hh (fun o' m' v hv=>?_) (fun o' i j v hv=>?_) f1 f2 hch,aUS _ f1 f2⟩
  ·simp only[nG]
   cases hb:Nat.beq o' o with
   | true =>
     have:=aH hb
     subst this
     exact hown m' v hv
   | false=>rw[cond_false];exact cV.mono hs _ _ _ hv
  ·exact cV.mono hs _ _ _ hv
 ·rename_i l hx
  obtain ⟨hsh,hf⟩:=bZ hf
  simp only[aA] at hf
  subst hf
  obtain ⟨S',hs,hh,a5h,hch⟩:=aFf h.core hx hsh
  have f1:∀ o' m' b,oE o l (.own o' m')≠.val (.bool b):=by
   intro o' m' b
   simp [oE]
  have f2:∀ o' i j b,oE o l (.ptr o' i j)≠.val (.bool b):=by
   intro o' i j b
   simp only[oE]
   cases Nat.beq o' o <;> simp
  refine ⟨S',zV h hx rfl hs hh (fun o' m' v hv=>?_) (fun o' i j v hv=>?_) f1 f2 hch,aUS _ f1 f2⟩
  ·exact cV.mono hs _ _ _ hv
  ·simp only[oE]
   cases hb:Nat.beq o' o with
   | true =>
     have:=aH hb
     subst this
     exact a5h i j v hv
   | false=>rw[cond_false];exact cV.mono hs _ _ _ hv
 ·cases hf
theorem aND {S S':Mem} {β β':dG} {c:C} {v:Value} (hf:c.flat=true) (h:cV S β c v):cV S' β' c v:=by
 induction c generalizing v with
 | iface b t c ih =>
   simp only[cV] at h ⊢
   split at h
   ·rename_i hb;rw[aE hb];obtain ⟨u,hu,hr⟩:=h;exact ⟨u,hu,ih hf hr⟩
   ·rename_i hb;rw[aD hb];exact h
 | _=>first | exact h | cases hf
theorem aNE {S S':Mem} {β β':dG}:∀ {l:List C} {vs:List Value},l.all C.flat=true→eM S β l vs→eM S' β' l vs
 | [],_,_,h=>h
 | _::_,_,hf,⟨v,r,h1,h2,h3⟩=>by
   simp only[List.all_cons,aC] at hf
   exact ⟨v,r,h1,aND hf.1 h2,aNE hf.2 h3⟩
theorem aWH {S S':Mem} {β β':dG} {d:D1} {v:Value} (hf:d.flat=true) (h:jT S β d v):jT S' β' d v:=by
 cases d with
 | c x=>exact aND hf h
 | agg l=>obtain ⟨vs,h1,h2⟩:=h;exact ⟨vs,h1,aNE hf h2⟩
theorem aUT {S S':Mem} {β β':dG}:∀ {l:List D1} {vs:List Value},l.all D1.flat=true→rC S β l vs→rC S' β' l vs
 | [],_,_,h=>h
 | _::_,_,hf,⟨v,r,h1,h2,h3⟩=>by
   simp only[List.all_cons,aC] at hf
   exact ⟨v,r,h1,aWH hf.1 h2,aUT hf.2 h3⟩
theorem aUU {S S':Mem} {β β':dG} {d:D} {v:Value} (hf:d.flat=true) (h:dR S β d v):dR S' β' d v:=by
 cases d with
 | c x=>exact aND hf h
 | agg l=>obtain ⟨vs,h1,h2⟩:=h;exact ⟨vs,h1,aNE hf h2⟩
 | jW l=>obtain ⟨vs,h1,h2⟩:=h;exact ⟨vs,h1,aUT hf h2⟩
theorem pV {Γ:j6} {β:dG} {a:Act} {w:World}:∀ {l:List Nat} {st dD:St} {S:Mem},RR Γ S β a w n st→st.mM l=some dD→∃ S',RR Γ S' β a w n dD∧∀ g,dD.holds g↔st.holds g
 | [],st,dD,S,h,hf=>by
   simp only[St.mM,aA] at hf
   subst hf
   exact ⟨S,h,fun _=>Iff.rfl⟩
 | o::r,st,dD,S,h,hf=>by
   unfold St.mM at hf
   cases h1:st.freeze o with
   | none=>rw[h1] at hf;cases hf
   | some st1 =>
     rw[h1] at hf
     obtain ⟨S1,hr1,hg1⟩:=xT h h1
     obtain ⟨S2,sZ,hg2⟩:=pV hr1 hf
     exact ⟨S2,sZ,fun g=>(hg2 g).trans (hg1 g)⟩
theorem nS {st:St}:∀ {g:List (Nat × Bool)},iW st g=some true→st.holds g
 | [],_=>fun q hq=>by cases hq
 | (t,want)::r,h=>by
   unfold iW at h
   cases ht:st.get t with
   | c x =>
     cases x with
     | val u =>
       cases u with
       | bool b =>
         cases hr:iW st r with
         | none=>rw[ht,hr] at h;cases h
         | some x =>
           rw[ht,hr] at h
           simp only at h
           have hb:(bif want then b else !b)=true∧x=true:=by
            split at h
            ·simp only[aA] at h
             simp only[iW,aA] at hr
             exact ⟨h,hr.symm⟩
            ·simp only[aA,aC] at h
             exact h
           obtain ⟨h1,rfl⟩:=hb
           have ih:=nS hr
           intro q hq
           rcases aY.1 hq with rfl | hq
           ·show st.get t=_
            rw[ht]
            cases want <;> cases b <;> simp_all
           ·exact ih q hq
       | _=>rw[ht] at h;cases h
     | _=>rw[ht] at h;cases h
   | _=>rw[ht] at h;cases h
theorem Core.aJ2 {Γ:j6} {S:Mem} {β:dG} {w w':World} {xs:List Obj} (h:Core Γ S β w xs) (ho:w'.os=w.os) (ht:w'.tape=w.tape) (hu:w'.output=w.output)
 (hz:w.heap.size≤w'.heap.size) (hb:∀ b,b<w.heap.size→w'.heap[b]? = w.heap[b]?):Core Γ S β w' xs :=
 ⟨h.frame.ext ho ht hu hz fun b hb1 _=>hb b (bH hb1 h.frame.size),h.holds.keep fun b ⟨_,hi⟩=>hb b (h.holds.lt hi),
  fun o x hx=>(h.cC o x hx).keep (jL.refl _) (kK.refl _) fun k hl hk=>hb k.b (h.mine o k x hx hl hk).1,h.out,h.inj,h.sep,
  fun o k x hx hl hk=>⟨bH (h.mine o k x hx hl hk).1 hz,(h.mine o k x hx hl hk).2⟩⟩
theorem eM.shut {S:Mem} {β:dG}:∀ {l:List C} {vs:List Value},l.all C.shut=true→eM S β l vs→eM S pQ l vs
 | [],_,_,h=>h
 | _::_,_,hf,⟨v,r,h1,h2,h3⟩=>by
   simp only[List.all_cons,aC] at hf
   exact ⟨v,r,h1,lN hf.1 h2,eM.shut hf.2 h3⟩
theorem fT.shut {S:Mem} {β:dG}:∀ {l:List D} {vs:List Value},l.all D.shut=true→fT S β l vs→fT S pQ l vs
 | [],_,_,h=>h
 | d::_,_,hf,⟨v,r,h1,h2,h3⟩=>by
   simp only[List.all_cons,aC] at hf
   refine ⟨v,r,h1,?_,fT.shut hf.2 h3⟩
   cases d with
   | c x=>exact lN hf.1 h2
   | agg l=>obtain ⟨us,q1,q2⟩:=h2;exact ⟨us,q1,eM.shut hf.1 q2⟩
   | jW l=>cases hf.1
def cE {R:Type} (b:Bool) (mc:Option R) (r0:R):Option R:=if b=true then mc else some r0
theorem eO.look {ops:Array Oper} {o:Oper} {rest:List Oper} {x:Operand} {args:Array Operand} {pS:Array TypeId} {t:Nat} {f:FuncId} {cR:List D} {g:List (Nat × Bool)} {b:Bool}
 {mc:Option R} {res:R→D} {m:R→Option (A ⊕ T)} {oZ:St} (bo:List Nat) (r0:R)
 (lZ:bV P f cR [] mc res (fun _=>[])) (hg:guardOf ops o st=some g) (hb:iW st g=some b) (ho:o.op = .call ⟨.value x,args,pS⟩) (lY:o.dst=some t)
 (hfr:st.mM bo=some oZ) (fX:jY oZ g x args.toList=some (f,cR)) (hf:jX P f=true)
 (hn:(Nat.blt t n && (lQ st t && g.all fun q=>!Nat.beq q.1 t))=true) (aAJ:∀ r,(res r).flat=true) (jA:cR.all D.shut=true)
 (h:∀ r,eO P n ops rest cs (st.put (some t) (res r) st.cC g) (m r) go ab) :
 eO P n ops (o::rest) cs st ((cE b mc r0).bind m) go ab:=by
 intro Γ S β a w hr q hq
 simp only[aC,aN,aW] at hn
 obtain ⟨htn,hfree,hgt⟩:=hn
 have xU:∀ q∈g,q.1≠t:=fun q hq e=>by
  have:=hgt q hq
  rw[e] at this
  simp at this
 by_cases hh:st.holds g
 ·have hbt:=mS hb hh
  subst hbt
  simp only[cE,if_true] at hq
  have xV:Region.wanted o (yielded ops a.tmps)=true:=by
   unfold guardOf at hg
   cases hgd:o.guard with
   | none=>simp [Region.wanted,hgd]
   | some jw =>
     obtain ⟨j,want⟩:=jw
     rw[hgd] at hg
     dsimp only at hg
     cases tC:(ops[j]?).bind (·.dst) with
     | none=>rw[tC] at hg;cases hg
     | some tj =>
       rw[tC] at hg
       simp only[aA] at hg
       subst hg
       have hrel:=hr.tm tj (fun q hq=>hh q (aT _ hq))
       have hxw:=hh (tj,want) (by simp)
       simp only at hxw
       rw[hxw] at hrel
       have hval:a.tmps.getD tj undef = .bool want:=hrel
       have hsome:a.tmps[tj]? = some (.bool want):=by
        rw[aO] at hval
        cases hq:a.tmps[tj]? with
        | none=>rw[hq] at hval;cases hval
        | some u=>rw[hq] at hval;simp only[Option.getD_some] at hval;rw[hval]
       have gX:yielded ops a.tmps j=some want:=by
        unfold yielded
        rw[tC]
        show (match a.tmps[tj]? with | some (.bool b)=>some b | _=>none)=some want
        rw[hsome]
       simp only[Region.wanted,hgd,gX]
       simp
  cases hm:mc with
  | none=>rw[hm] at hq;cases hq
  | some r =>
    rw[hm,Option.bind_some] at hq
    obtain ⟨S2,sZ,aWI⟩:=pV hr hfr
    simp only[wpList,xV,if_true]
    left
    unfold jY at fX
    split at fX
    ·rename_i f' k cap hx
     simp only[aA,aI] at fX
     obtain ⟨rfl,oD⟩:=fX
     have hh2:oZ.holds g:=(aWI g).2 hh
     have hxr:=gN sZ hh2 x
     rw[hx] at hxr
     obtain ⟨vs,hxv,tE⟩:=qG hxr
     have hrun:(execOp a.eval o).run P w = .ok (.enter f' (args.map a.eval++vs)) w:=by
      unfold execOp
      rw[ho]
      simp only[resolve,hxv,Deferred.ofValue,pure_bind,invoke]
      rw[kA hf]
      simp
     simp only[Oper.wp,Oper.upon,hrun]
     have hvm:∀ (l:List Operand),fT S2 β (l.map (oZ.zN g).lv) (l.map a.eval):=by
      intro l
      induction l with
      | nil=>rfl
      | cons x l ih=>exact ⟨_,_,rfl,gN sZ hh2 x,ih⟩
     have hargs:fT S2 β cR (args.map a.eval++vs).toList:=by
      rw[← oD]
      have e:(args.map a.eval++vs).toList=args.toList.map a.eval++vs.toList:=by simp
      rw[e]
      exact (hvm args.toList).append tE
     have hclosed:fT S2 pQ cR (args.map a.eval++vs).toList:=fT.shut jA hargs
     have nM:Core ⟨S2,w,uG pQ [],pQ⟩ S2 pQ w [] :=
      ⟨⟨rfl,rfl,rfl,aM _,fun _ _ _=>rfl,fun _ _ _ _=>rfl,jL.refl _,fun b hb=>by obtain ⟨o,k,x,hx,_⟩:=hb;simp at hx,sZ.core.inv⟩,sZ.core.holds,fun o x hx=>by simp at hx,fun _ _=>rfl,
       fun o o' k k' x x' hx=>by simp at hx,fun o k x hx=>by simp at hx,fun o k x hx=>by simp at hx⟩
     have:=lZ S2 pQ w (args.map a.eval++vs).toList nM hclosed r hm
     have e2:(args.map a.eval++vs).toList.toArray=args.map a.eval++vs:=by simp
     rw[e2] at this
     refine this.mono fun e w' he=>?_
     obtain ⟨v,S',βc,rfl,hres,_,aCa⟩:=he
     have hnm:∀ b,¬ uG pQ [] b:=by
      rintro b ⟨o,k,x,hx,_⟩
      simp at hx
     have pP:=hr.core.aJ2 aCa.frame.os aCa.frame.tape aCa.frame.output aCa.frame.size fun b hb=>aCa.frame.block b hb (hnm b)
     have hput:=hr.put pP (jL.refl _) (kK.refl _) htn hfree xU (fun _=>aUU (aAJ r) hres) (fun hno=>absurd hh hno)
     rw[lY]
     exact h r Γ S _ _ w' hput q hq
    ·cases fX
 ·have hb0:b=false:=by
   cases b with
   | false=>rfl
   | true=>exact absurd (nS hb) hh
  subst hb0
  simp only[cE,aR,if_false,Option.bind_some] at hq
  have hwt:Region.wanted o (yielded ops a.tmps)=false:=by
   unfold guardOf at hg
   cases hgd:o.guard with
   | none =>
     rw[hgd] at hg
     simp only[aA] at hg
     subst hg
     exact absurd (fun q hq=>by cases hq) hh
   | some jw =>
     obtain ⟨j,want⟩:=jw
     rw[hgd] at hg
     dsimp only at hg
     cases tC:(ops[j]?).bind (·.dst) with
     | none=>rw[tC] at hg;cases hg
     | some tj =>
       rw[tC] at hg
       simp only[aA] at hg
       subst hg
       obtain ⟨x0,hx0⟩:=mT hb
       have oC:∀ (yl:Option Bool),yielded ops a.tmps j=yl→Region.wanted o (yielded ops a.tmps)=(yl == some want):=by
        intro yl hy
        simp only[Region.wanted,hgd,hy]
       have gX:yielded ops a.tmps j=match a.tmps[tj]? with | some (.bool b)=>some b | _=>none:=by
        unfold yielded
        rw[tC]
        rfl
       by_cases nF:st.holds (st.nE tj)
       ·have hrel:=hr.tm tj nF
        rw[hx0] at hrel
        have hval:a.tmps.getD tj undef = .bool x0:=hrel
        have hsome:a.tmps[tj]? = some (.bool x0):=by
         rw[aO] at hval
         cases hq:a.tmps[tj]? with
         | none=>rw[hq] at hval;cases hval
         | some u=>rw[hq] at hval;simp only[Option.getD_some] at hval;rw[hval]
        rw[oC (some x0) (by rw[gX,hsome])]
        have hne:x0≠want:=by
         intro e
         subst e
         refine hh fun q hq=>?_
         rcases aY.1 hq with rfl | hq
         ·exact hx0
         ·exact nF q hq
        simpa using hne
       ·have hun:=hr.un tj nF
        have hnone:yielded ops a.tmps j=none:=by
         rw[gX]
         rw[aO] at hun
         cases hq:a.tmps[tj]? with
         | none=>rfl
         | some u =>
           rw[hq] at hun
           simp only[Option.getD_some] at hun
           rw[hun];rfl
        rw[oC none hnone]
        rfl
  simp only[wpList,hwt,aR,if_false]
  have hput:=hr.put (d:=res r0) (v:=undef) hr.core (jL.refl _) (kK.refl _) htn hfree xU (fun hy=>absurd hy hh) (fun _=>rfl)
  rw[lY]
  exact h r0 Γ S _ _ w hput q hq
end
end Go.Dl

namespace Go.Dl
variable [dO]
open Go.RowKit
section
variable {P:Program} {ops:Array Oper} {md:Region.Mode} {W:Nat→Bool}
def tF (P:Program) (k:Value→World→Prop):Result Next→Prop
 | .ok (.value v) w'=>k v w'
 | .ok .skip w'=>k undef w'
 | .ok (.enter f args) w'=>Calls P f args w' fun e w''=>∃ v,e = .returned v∧k v w''
 | _=>False
def xop (P:Program) (o:Oper) (a:Act) (w:World) (k:Value→World→Prop):Prop:=tF P k ((execOp a.eval o).run P w)
theorem xW {o:Oper} {a:Act} {w:World} {k k':Value→World→Prop} (h:∀ v w',k v w'→k' v w') (hx:xop P o a w k):xop P o a w k':=by
 unfold xop at *
 generalize (execOp a.eval o).run P w=r at *
 cases r with
 | ok n w' =>
   cases n <;> simp only[tF] at hx ⊢ <;> first
    | exact h _ _ hx
    | exact Calls.mono hx (fun e w'' ⟨v,he,hk⟩=>⟨v,he,h _ _ hk⟩)
 | halt x w'=>simp only[tF] at hx
def aBa (P:Program) (ops:Array Oper) (i:Nat) (K:Act→World→Prop) (a:Act) (w:World):Prop :=
 match ops[i]? with
 | none=>∀ w',Up w w'→K a w'
 | some o=>if Region.wanted o (yielded ops a.tmps) then xop P o a w fun v w'=>Up w w'∧∀ w'',Up w' w''→K (a.put o.dst v) w''
  else ∀ w',Up w w'→K (a.put o.dst undef) w'
def xOp (P:Program) (ops:Array Oper) (W:Nat→Bool) (Q':Exit→Act→World→Prop) (i:Nat) (K:Act→World→Prop) (a:Act) (w:World):Prop :=
 bif W i then wpOp P ops Q' i K a w else aBa P ops i K a w
def vB (P:Program) (md:Region.Mode) (ops:Array Oper) (W:Nat→Bool) (Q':Exit→Act→World→Prop):Nat→Array Bool→Act→World→Prop
 | 0,listed,a,w=>Region.ready md ops listed=[]∧Q' .normal a w
 | fuel+1,listed,a,w =>
   (Region.ready md ops listed=[]→Q' .normal a w) ∧
   ∀ i∈Region.ready md ops listed,xOp P ops W Q' i (vB P md ops W Q' fuel (listed.setIfInBounds i true)) a w
theorem aIC {Q':Exit→Act→World→Prop} {i:Nat} {K K':Act→World→Prop} {a:Act} {w:World} (h:∀ a w,K a w→K' a w) (hx:aBa P ops i K a w):wpOp P ops Q' i K' a w:=by
 unfold aBa at hx
 unfold wpOp
 split
 ·rename_i ho;simp only[ho] at hx;exact h _ _ (hx w (Up.refl w))
 ·rename_i o ho
  simp only[ho] at hx
  split
  ·rename_i hw
   simp only[hw,if_true] at hx
   left
   unfold xop at hx
   unfold Oper.wp
   generalize (execOp a.eval o).run P w=r at *
   cases r with
   | ok n w' =>
     cases n <;> simp only[tF] at hx <;> simp only[Oper.upon]
     case value v=>exact h _ _ (hx.2 w' (Up.refl _))
     case skip=>exact h _ _ (hx.2 w' (Up.refl _))
     case enter f args =>
      refine hx.mono fun e w'' ⟨v,he,hk⟩=>?_
      subst he
      exact h _ _ (hk.2 w'' (Up.refl _))
   | halt x w'=>simp only[tF] at hx
  ·rename_i hw;simp only[hw] at hx;exact h _ _ (hx w (Up.refl w))
theorem aLN {Q':Exit→Act→World→Prop} {i:Nat} {K K':Act→World→Prop} {a:Act} {w:World} (h:∀ a w,K a w→K' a w) (hx:xOp P ops W Q' i K a w):wpOp P ops Q' i K' a w:=by
 unfold xOp at hx
 cases hW:W i with
 | true=>rw[hW,cond_true] at hx;exact wpOp_mono h hx
 | false=>rw[hW,cond_false] at hx;exact aIC h hx
theorem aCc {Q':Exit→Act→World→Prop}:∀ (fuel:Nat) (listed:Array Bool) (a:Act) (w:World),
 vB P md ops W Q' fuel listed a w→wpAny P md ops Q' fuel listed a w
 | 0,_,_,_,h=>⟨h.1,h.2⟩
 | fuel+1,_,_,_,h=>⟨fun h0=>h.1 h0,fun i hi=>aLN (fun a' w' h'=>aCc fuel _ a' w' h') (h.2 i hi)⟩
def YQ (P:Program) (ops:Array Oper) (o:Oper) (v:Value) (a:Act) (w:World):Prop :=
 (Region.wanted o (yielded ops a.tmps)=true∧∀ w2,Up w w2→xop P o a w2 fun u w3=>u=v∧Up w2 w3) ∨
 (Region.wanted o (yielded ops a.tmps)=false∧v=undef)
theorem YQ.up {o:Oper} {v:Value} {a:Act} {w w':World} (h:YQ P ops o v a w) (hw:Up w w'):YQ P ops o v a w':=by
 rcases h with ⟨h1,h2⟩ | h
 ·exact .inl ⟨h1,fun w2 h=>h2 w2 (hw.trans h)⟩
 ·exact .inr h
theorem YQ.of_same {o:Oper} {v:Value} {a a':Act} {w:World} (hy:YQ P ops o v a w) (he:execOp a'.eval o=execOp a.eval o)
 (hw:Region.wanted o (yielded ops a'.tmps)=Region.wanted o (yielded ops a.tmps)):YQ P ops o v a' w:=by
 unfold YQ xop at *
 rw[he,hw]
 exact hy
theorem aSD {j:Nat} {oi oj:Oper} {v:Value} (hj:ops[j]? = some oj) (hap:oi.apart ops oj=true)
 (hsj:∀ cs b,oj.op≠.select cs b) {K:Act→World→Prop} {a:Act} {w:World}
 (h:aBa P ops j K (a.put oi.dst v) w):aBa P ops j (fun a' w'=>Up w w'∧(∃ u,a'=a.put oj.dst u)∧K (a'.put oi.dst v) w') a w:=by
 obtain ⟨h1,h2,_⟩:=Oper.apart_spec hap
 unfold aBa at *
 simp only[hj] at *
 rw[wanted_put oj a oi.dst v h1] at h
 split
 ·rename_i hw
  simp only[hw,if_true] at h
  unfold xop at *
  rw[execOp_put oj hsj a oi.dst v h1] at h
  generalize (execOp a.eval oj).run P w=r at *
  have hh:∀ u w',(Up w w'∧∀ w'',Up w' w''→K ((a.put oi.dst v).put oj.dst u) w'') →
   Up w w'∧∀ w'',Up w' w''→Up w w''∧(∃ u',a.put oj.dst u=a.put oj.dst u')∧K ((a.put oj.dst u).put oi.dst v) w'':=by
   intro u w' ⟨g1,g2⟩
   exact ⟨g1,fun w'' zW=>⟨g1.trans zW,⟨u,rfl⟩,by rw[← Act.put_comm a v u h2];exact g2 w'' zW⟩⟩
  cases r with
  | ok n w' =>
    cases n <;> simp only[tF] at h ⊢
    case value u=>exact hh u w' h
    case skip=>exact hh undef w' h
    case enter f args=>exact h.mono fun e w'' ⟨u,he,hk⟩=>⟨u,he,hh u w'' hk⟩
  | halt x w'=>simp only[tF] at h
 ·rename_i hw
  simp only[hw] at h
  exact fun w' j8=>⟨j8,⟨undef,rfl⟩,by rw[← Act.put_comm a v undef h2];exact h w' j8⟩
structure aWK (md:Region.Mode) (ops:Array Oper) (W:Nat→Bool) (listed:Array Bool) (i:Nat) (oi:Oper) (D:Nat→Bool):Prop where
 close:∀ k ok,ops[k]? = some ok→D k=true→∃ e∈ok.after,Region.binds md e=true∧(e.on=i∨D e.on=true)
 open_:∀ k,D k=true→listed.getD k true=false
 rest:∀ j oj,ops[j]? = some oj→j≠i→listed.getD j true=false→D j=false→oi.apart ops oj=true∧W j=false
theorem v7 {Q:Exit→Act→World→Prop} {i:Nat} {oi:Oper} {v:Value} (hi:ops[i]? = some oi) (hsel:∀ (j:Nat) (o:Oper) cs b,ops[j]? = some o→o.op≠.select cs b) (hWi:W i=false) :
 ∀ (fuel:Nat) (listed:Array Bool) (a:Act) (w:World),
   (∃ D,aWK md ops W listed i oi D) →
   i∈Region.ready md ops listed→YQ P ops oi v a w →
   (∀ w',Up w w'→vB P md ops W Q fuel (listed.setIfInBounds i true) (a.put oi.dst v) w')→vB P md ops W Q (fuel+1) listed a w:=by
 intro fuel
 have self:∀ (fuel:Nat) (listed:Array Bool) (a:Act) (w:World),YQ P ops oi v a w→(∀ w',Up w w'→vB P md ops W Q fuel (listed.setIfInBounds i true) (a.put oi.dst v) w') →
  xOp P ops W Q i (vB P md ops W Q fuel (listed.setIfInBounds i true)) a w:=by
  intro fuel listed a w hy H
  unfold xOp
  rw[hWi,cond_false]
  unfold aBa
  simp only[hi]
  rcases hy with ⟨hw,hv⟩ | ⟨hw,rfl⟩
  ·simp only[hw,if_true]
   refine xW (fun u w' ⟨e,hu⟩=>?_) (hv w (Up.refl w))
   subst e
   exact ⟨hu,fun w'' zW=>H w'' (hu.trans zW)⟩
  ·simp only[hw,aR,if_false]
   exact H
 induction fuel with
 | zero =>
   intro listed a w _ hr hy H
   refine ⟨fun h=>(by rw[h] at hr;cases hr),fun j hj=>?_⟩
   by_cases hji:j=i
   ·subst hji;exact self _ _ _ _ hy H
   ·have:=ready_mono hj hji
    rw[(H w (Up.refl w)).1] at this
    cases this
 | succ fuel ih =>
   intro listed a w hfree hr hy H
   refine ⟨fun h=>(by rw[h] at hr;cases hr),fun j hj=>?_⟩
   by_cases hji:j=i
   ·subst hji;exact self _ _ _ _ hy H
   ·have h1:=(H w (Up.refl w)).2 j (ready_mono hj hji)
    obtain ⟨aZ8,oj,hoj,hall⟩:=mem_ready.1 hj
    obtain ⟨D,hF⟩:=hfree
    have aUX:∀ k,listed.getD k true=false→listed.getD k false=true→False:=fun k h0 h1=>by
     rcases bE k listed.size with h' | h'
     ·simp [h'] at h0 h1;rw[h0] at h1;cases h1
     ·simp [Array.getElem?_eq_none h'] at h1
    have hDj:D j=false:=by
     cases hd:D j with
     | false=>rfl
     | true =>
       exfalso
       obtain ⟨e,he,hb,heq⟩:=hF.close j oj hoj hd
       have h1:=hall e he hb
       rcases heq with heq | heq
       ·rw[heq] at h1;exact aUX i (mem_ready.1 hr).1 h1
       ·exact aUX _ (hF.open_ _ heq) h1
    obtain ⟨hap,hWj⟩:=hF.rest j oj hoj hji aZ8 hDj
    unfold xOp at h1 ⊢
    rw[hWj,cond_false] at h1 ⊢
    have h2:=aSD hoj hap (fun cs b=>hsel j oj cs b hoj) h1
    have aWL:∃ D,aWK md ops W (listed.setIfInBounds j true) i oi D:=by
     refine ⟨D,hF.close,fun k hk=>?_,fun k ok hk hki hun hd=>?_⟩
     ·have hjk:j≠k:=fun e=>by rw[e,hk] at hDj;cases hDj
      rw[getD_set_ne true hjk]
      exact hF.open_ k hk
     ·refine hF.rest k ok hk hki ?_ hd
      by_cases hjk:j=k
      ·subst hjk;exact aZ8
      ·rw[getD_set_ne true hjk] at hun;exact hun
    obtain ⟨_,_,h3⟩:=Oper.apart_spec hap
    -- after j,in each world with more blocks
    have h4:aBa P ops j (vB P md ops W Q (fuel+1) (listed.setIfInBounds j true)) a w:=by
     unfold aBa at h2 ⊢
     simp only[hoj] at h2 ⊢
     have step:∀ u w',(∀ w'',Up w' w''→Up w w''∧(∃ u',a.put oj.dst u=a.put oj.dst u')∧vB P md ops W Q fuel ((listed.setIfInBounds i true).setIfInBounds j true) ((a.put oj.dst u).put oi.dst v) w'') →
      ∀ w'',Up w' w''→vB P md ops W Q (fuel+1) (listed.setIfInBounds j true) (a.put oj.dst u) w'':=by
      intro u w' hk w'' zW
      refine ih (listed.setIfInBounds j true) _ w'' aWL (ready_mono hr (Ne.symm hji)) ?_ ?_
      ·exact (hy.up (hk w'' zW).1).of_same (execOp_put oi (fun cs b=>hsel i oi cs b hi) a oj.dst u h3) (wanted_put oi a oj.dst u h3)
      ·intro w3 hw3
       rw[Array.setIfInBounds_comm _ _ (Ne.symm (Ne.symm hji))]
       exact (hk w3 (zW.trans hw3)).2.2
     split
     ·rename_i hw
      simp only[hw,if_true] at h2
      exact xW (fun u w' ⟨g1,g2⟩=>⟨g1,step u w' g2⟩) h2
     ·rename_i hw
      simp only[hw] at h2
      exact step undef w h2
    exact h4
end
end Go.Dl

namespace Go.Dl
variable [dO]
open Go.RowKit
def inW (l:List Nat) (i:Nat):Bool:=l.any (Nat.beq i)
def zX (md:Region.Mode) (ops:Array Oper) (listed:Array Bool) (i:Nat):List Nat→List Nat→List Nat
 | [],d=>d
 | j::r,d=>zX md ops listed i r (bif !listed.getD j true && (ops[j]?).elim false fun oj=>oj.after.any fun e=>Region.binds md e && (e.on == i || d.any (Nat.beq e.on)) then j::d else d)
def aJ6 (md:Region.Mode) (ops:Array Oper) (W:Nat→Bool) (listed:Array Bool) (i:Nat):Bool :=
 match ops[i]? with
 | none=>false
 | some oi =>
   let d:=zX md ops listed i (List.range ops.size) []
   (List.range ops.size).all fun j=>j == i || listed.getD j true || d.any (Nat.beq j) || match ops[j]? with
    | some oj=>oi.apart ops oj && !W j
    | none=>true
def kL (md:Region.Mode) (ops:Array Oper) (W:Nat→Bool):Array Bool→List Nat→Option (Array Bool)
 | listed,[]=>some listed
 | listed,i::r =>
   bif (Region.ready md ops listed).contains i && (aJ6 md ops W listed i && (!W i && (ops[i]?).elim false fun o=>gH o.op)) then kL md ops W (listed.setIfInBounds i true) r else none
def xX (md:Region.Mode) (ops:Array Oper):Array Bool→List Nat→Bool
 | listed,[]=>(Region.ready md ops listed).isEmpty
 | listed,j::r=>decide (Region.ready md ops listed=[j]) && xX md ops (listed.setIfInBounds j true) r
def opsOf (ops:Array Oper) (l:List Nat):List Oper:=l.filterMap fun i=>ops[i]?
def cX (P:Program) (n:Nat) (ops:Array Oper) (W:Nat→Bool) {A T:Type} (fuel:Nat) (listed:Array Bool) (cs:List Code) (st:St) (m:Option (A ⊕ T)) (go:T→St) (ab:A→Ex × St):Prop :=
 ∀ Γ S β a w,RR Γ S β a w n st→∀ x,m=some x→vB P .any ops W (Exit.then (wpL P cs (Post Γ n go ab x)) (Post Γ n go ab x)) fuel listed a w
section
variable {P:Program} {n:Nat} {ops:Array Oper} {W:Nat→Bool} {md:Region.Mode}
theorem aAL {i:Nat} {listed:Array Bool}:∀ (l d:List Nat),
 (∀ k∈d,listed.getD k true=false∧∀ ok,ops[k]? = some ok→∃ e∈ok.after,Region.binds md e=true∧(e.on=i∨e.on∈d)) →
 ∀ k∈zX md ops listed i l d,listed.getD k true=false∧∀ ok,ops[k]? = some ok→∃ e∈ok.after,Region.binds md e=true∧(e.on=i∨e.on∈zX md ops listed i l d)
 | [],d,h=>h
 | j::r,d,h=>by
   unfold zX
   refine aAL r _ ?_
   intro k hk
   cases hc:(!listed.getD j true && (ops[j]?).elim false fun oj=>oj.after.any fun e=>Region.binds md e && (e.on == i || d.any (Nat.beq e.on))) with
   | false =>
     rw[hc,cond_false] at hk
     rw[cond_false]
     exact h k hk
   | true =>
     rw[hc,cond_true] at hk
     rw[cond_true]
     rcases aY.1 hk with rfl | hk
     ·simp only[aC,aQ] at hc
      refine ⟨hc.1,fun ok hok=>?_⟩
      have h2:=hc.2
      rw[hok] at h2
      simp only[Option.elim] at h2
      obtain ⟨e,he,hb⟩:=Array.any_eq_true'.1 h2
      simp only[aC,aL,beq_iff_eq,List.any_eq_true] at hb
      refine ⟨e,he,hb.1,?_⟩
      rcases hb.2 with h3 | ⟨x,hx,h3⟩
      ·exact .inl h3
      ·right
       have:=aH h3
       rw[this]
       exact aT _ hx
     ·obtain ⟨h1,h2⟩:=h k hk
      refine ⟨h1,fun ok hok=>?_⟩
      obtain ⟨e,he,hb,h3⟩:=h2 ok hok
      exact ⟨e,he,hb,h3.imp id (aT _)⟩
theorem v8 {i:Nat} {oi:Oper} {listed:Array Bool} (hi:ops[i]? = some oi) (h:aJ6 md ops W listed i=true):∃ D,aWK md ops W listed i oi D:=by
 have hs:=aAL (md:=md) (ops:=ops) (i:=i) (listed:=listed) (List.range ops.size) [] (fun k hk=>by cases hk)
 simp only[aJ6,hi,aN,List.mem_range] at h
 generalize zX md ops listed i (List.range ops.size) []=d at *
 have hmem:∀ k,d.any (Nat.beq k)=true↔k∈d:=fun k=>by
  rw[List.any_eq_true]
  constructor
  ·rintro ⟨x,hx,hb⟩
   rw[aH hb];exact hx
  ·intro hk;exact ⟨k,hk,by simp⟩
 refine ⟨fun k=>d.any (Nat.beq k),fun k ok hok hk=>?_,fun k hk=>(hs k ((hmem k).1 hk)).1,fun j oj hj hne hun hd=>?_⟩
 ·obtain ⟨e,he,hb,h3⟩:=(hs k ((hmem k).1 hk)).2 ok hok
  exact ⟨e,he,hb,h3.imp id fun h=>(hmem _).2 h⟩
 ·have h1:=h j (Array.getElem?_eq_some_iff.1 hj).1
  rw[hd] at h1
  simp only[hj,aL,beq_iff_eq,hne,false_or,hun,aR] at h1
  simpa using h1
theorem RR.up {Γ:j6} {S:Mem} {β:dG} {a:Act} {w w':World} {st:St} (h:RR Γ S β a w n st) (hu:Up w w'):RR Γ S β a w' n st :=
 ⟨h.core.aJ2 hu.os hu.tape hu.output hu.size hu.block,h.tm,h.un,h.size,h.defers,h.hand⟩
theorem aGJ {Q:Exit→Act→World→Prop} {Γ:j6} {S:Mem} {β:dG} {fuel:Nat} {kB:Array Bool} {oZ:St} (hsel:Region.noSelect ops=true):∀ {is:List Nat} {listed:Array Bool} {st:St} {vs:List Bool} {a:Act} {w:World},
 RR Γ S β a w n st→kL md ops W listed is=some kB→iG P n ops (opsOf ops is) st=some (vs,oZ)→(∀ b∈vs,b=true) →
 (∀ a' w',RR Γ S β a' w' n oZ→vB P md ops W Q fuel kB a' w')→vB P md ops W Q (is.length+fuel) listed a w
 | [],listed,st,vs,a,w,hr,hf,he,hvs,hk=>by
   simp only[kL,aA] at hf
   subst hf
   simp only[opsOf,List.filterMap_nil,iG,aA,aI] at he
   obtain ⟨_,rfl⟩:=he
   rw[List.length_nil,Nat.zero_add]
   exact hk a w hr
 | i::r,listed,st,vs,a,w,hr,hf,he,hvs,hk=>by
   unfold kL at hf
   obtain ⟨hc,hf⟩:=bZ hf
   simp only[aC,aQ] at hc
   obtain ⟨hrd,hfree,hWi,hq⟩:=hc
   cases ho:ops[i]? with
   | none=>rw[ho] at hq;cases hq
   | some o =>
     rw[ho] at hq
     simp only[Option.elim] at hq
     have zY:opsOf ops (i::r)=o::opsOf ops r:=by simp [opsOf,ho]
     rw[zY] at he
     unfold iG at he
     split at he
     ·rename_i v st1 h1
      split at he
      ·rename_i vs2 st3 h2
       simp only[aA,aI] at he
       obtain ⟨rfl,rfl⟩:=he
       have hv1:∀ b∈v,b=true:=fun b hb=>hvs b (List.mem_append_left _ hb)
       have hv2:∀ b∈vs2,b=true:=fun b hb=>hvs b (List.mem_append_right _ hb)
       rw[List.length_cons,show r.length+1+fuel=(r.length+fuel)+1 by omega]
       have key:∀ u,YQ P ops o u a w→RR Γ S β (a.put o.dst u) w n st1→vB P md ops W Q (r.length+fuel+1) listed a w:=by
        intro u hy nF
        exact v7 ho (Region.noSelect_spec hsel) hWi _ listed a w (v8 ho hfree) (by simpa using hrd) hy
         fun w' j8=>aGJ hsel (nF.up j8) hf h2 hv2 hk
       rcases jF hr h1 hv1 with ⟨hw,u,w',S',β',_,nF,hqq⟩ | ⟨hw,nF⟩
       ·obtain ⟨rfl,rfl,rfl,hrun⟩:=hqq hq
        refine key u (.inl ⟨hw,fun w2 hw2=>?_⟩) nF
        unfold xop
        rw[hrun w2 (.inr hw2)]
        exact ⟨rfl,Up.refl _⟩
       ·exact key undef (.inr ⟨hw,rfl⟩) nF
      ·cases he
     ·cases he
theorem aAM {Q':Exit→Act→World→Prop}:∀ (js:List Nat) (listed:Array Bool) (a:Act) (w:World),xX md ops listed js=true→(js.all fun j=>W j && (ops[j]?).isSome)=true →
 wpList P ops Q' (opsOf ops js) a w→vB P md ops W Q' js.length listed a w
 | [],listed,a,w,hs,_,h=>⟨by simpa [xX] using hs,h⟩
 | j::r,listed,a,w,hs,hW,h=>by
   simp only[xX,aC,aB] at hs
   simp only[List.all_cons,aC] at hW
   refine ⟨fun h1=>(by rw[hs.1] at h1;cases h1),fun i hi=>?_⟩
   rw[hs.1] at hi
   have hik:i=j:=by simpa using hi
   subst hik
   obtain ⟨o,ho⟩:=bI.1 hW.1.2
   have zY:opsOf ops (i::r)=o::opsOf ops r:=by simp [opsOf,ho]
   rw[zY] at h
   unfold xOp
   rw[hW.1.1,cond_true]
   have hw:wpOp P ops Q' i (wpList P ops Q' (opsOf ops r)) a w:=by unfold wpOp;simp only[ho];exact h
   exact wpOp_mono (fun a' w' h'=>aAM r _ a' w' hs.2 (by rw[aN];simpa using hW.2) h') hw
variable {A T:Type} {go:T→St} {ab:A→Ex × St} {st:St} {m:Option (A ⊕ T)} {cs:List Code}
theorem cX.ev (is keep om:List Nat) {fuel fuel':Nat} {listed kB:Array Bool} {vs:List Bool} {dD:St} (sH:fuel=is.length+fuel')
 (hf:(bif Region.noSelect ops then kL .any ops W listed is else none)=some kB) (he:iN P n ops (opsOf ops is) st keep om=some (vs,dD))
 (h:cX P n ops W fuel' kB cs dD m go ab):cX P n ops W fuel listed cs st (bY vs m) go ab:=by
 intro Γ S β a w hr x hx
 obtain ⟨hvs,hm⟩:=fI hx
 obtain ⟨hsel,hf⟩:=bZ hf
 subst sH
 unfold iN at he
 split at he
 ·rename_i vs2 oZ h2
  cases hk:oZ.keep keep om with
  | none=>rw[hk] at he;cases he
  | some st3 =>
    rw[hk] at he
    simp only[Option.map_some,aA,aI] at he
    obtain ⟨rfl,rfl⟩:=he
    exact aGJ hsel hr hf h2 hvs fun a' w' h'=>h Γ S (fQ β om) a' w' (gC h' hk) x hm
 ·cases he
theorem cX.tail (js:List Nat) {fuel:Nat} {listed:Array Bool} (sH:fuel=js.length) (hs:(xX .any ops listed js && js.all fun j=>W j && (ops[j]?).isSome)=true)
 (h:eO P n ops (opsOf ops js) cs st m go ab):cX P n ops W fuel listed cs st m go ab:=by
 intro Γ S β a w hr x hx
 rw[aC] at hs
 subst sH
 exact aAM js listed a w hs.1 hs.2 (h Γ S β a w hr x hx)
theorem cX.done {listed:Array Bool} (hs:(Region.ready .any ops listed).isEmpty=true) (h:Ref P n cs st m go ab):cX P n ops W 0 listed cs st m go ab :=
 fun Γ S β a w hr x hx=>⟨by simpa using hs,h Γ S β a w hr x hx⟩
end
end Go.Dl

namespace Go.Dl
variable [dO]
open Go.RowKit
def C.exact:C→Option Value
 | .val v=>some v
 | .str l=>some (.string ⟨l.toArray⟩)
 | .nil=>some (.slice none 0 0)
 | .iface b t c=>match c.exact with
   | some u=>some (if b=true then .iface t u else .nilIface)
   | none=>none
 | _=>none
def tG:List C→Option (List Value)
 | []=>some []
 | c::r=>match c.exact,tG r with
   | some u,some us=>some (u::us)
   | _,_=>none
def D1.exact:D1→Option Value
 | .c x=>x.exact
 | .agg l=>match tG l with
   | some us=>some (.agg us.toArray)
   | none=>none
def zZ:List D1→Option (List Value)
 | []=>some []
 | c::r=>match c.exact,zZ r with
   | some u,some us=>some (u::us)
   | _,_=>none
def D.exact:D→Option Value
 | .c x=>x.exact
 | .agg l=>match tG l with
   | some us=>some (.agg us.toArray)
   | none=>none
 | .jW l=>match zZ l with
   | some us=>some (.tuple us.toArray)
   | none=>none
theorem C.lS:∀ {c:C} {u v:Value} {S:Mem} {β:dG},c.exact=some u→cV S β c v→v=u
 | .val _,_,_,_,_,h,hr=>by simp only[C.exact,aA] at h;subst h;exact hr
 | .str _,_,_,_,_,h,hr=>by simp only[C.exact,aA] at h;subst h;exact hr.1
 | .nil,_,_,_,_,h,hr=>by simp only[C.exact,aA] at h;subst h;exact hr
 | .iface b t c,u,v,S,β,h,hr=>by
   unfold C.exact at h
   split at h
   ·rename_i z hz
    simp only[aA] at h
    subst h
    simp only[cV] at hr
    cases b with
    | true =>
      simp only[if_true] at hr ⊢
      obtain ⟨z',rfl,hz'⟩:=hr
      rw[C.lS hz hz']
    | false =>
      simp only[aR,if_false] at hr ⊢
      exact hr
   ·cases h
theorem z6 {S:Mem} {β:dG}:∀ {l:List C} {us vs:List Value},tG l=some us→eM S β l vs→vs=us
 | [],_,_,h,hr=>by simp only[tG,aA] at h;subst h;exact hr
 | c::l,us,vs,h,hr=>by
   unfold tG at h
   split at h
   ·rename_i u us' hu hus
    simp only[aA] at h
    subst h
    obtain ⟨v,r,rfl,h1,h2⟩:=hr
    rw[C.lS hu h1,z6 hus h2]
   ·cases h
theorem D1.lS {S:Mem} {β:dG} {d:D1} {u v:Value} (h:d.exact=some u) (hr:jT S β d v):v=u:=by
 cases d with
 | c x=>exact C.lS h hr
 | agg l =>
   simp only[D1.exact] at h
   cases hus:tG l with
   | none=>rw[hus] at h;cases h
   | some us =>
     rw[hus] at h
     simp only[aA] at h
     subst h
     obtain ⟨vs,rfl,h2⟩:=hr
     rw[z6 hus h2]
theorem aEy {S:Mem} {β:dG}:∀ {l:List D1} {us vs:List Value},zZ l=some us→rC S β l vs→vs=us
 | [],_,_,h,hr=>by simp only[zZ,aA] at h;subst h;exact hr
 | c::l,us,vs,h,hr=>by
   unfold zZ at h
   split at h
   ·rename_i u us' hu hus
    simp only[aA] at h
    subst h
    obtain ⟨v,r,rfl,h1,h2⟩:=hr
    rw[D1.lS hu h1,aEy hus h2]
   ·cases h
theorem D.lS {S:Mem} {β:dG} {d:D} {u v:Value} (h:d.exact=some u) (hr:dR S β d v):v=u:=by
 cases d with
 | c x=>exact C.lS h hr
 | agg l =>
   simp only[D.exact] at h
   cases hus:tG l with
   | none=>rw[hus] at h;cases h
   | some us =>
     rw[hus] at h
     simp only[aA] at h
     subst h
     obtain ⟨vs,rfl,h2⟩:=hr
     rw[z6 hus h2]
 | jW l =>
   simp only[D.exact] at h
   cases hus:zZ l with
   | none=>rw[hus] at h;cases h
   | some us =>
     rw[hus] at h
     simp only[aA] at h
     subst h
     obtain ⟨vs,rfl,h2⟩:=hr
     rw[aEy hus h2]
section
variable {P:Program} {n:Nat} {ops:Array Oper} {W:Nat→Bool} {A T R:Type} {go:T→St} {ab:A→Ex × St} {st:St} {cs:List Code}
theorem aAN {Γ:j6} {S:Mem} {β:dG} {a:Act} {w:World} {o:Oper} {g:List (Nat × Bool)} {b:Bool} (hr:RR Γ S β a w n st) (hg:guardOf ops o st=some g) (hb:iW st g=some b) :
 (b=true∧st.holds g∧Region.wanted o (yielded ops a.tmps)=true)∨(b=false∧¬ st.holds g∧Region.wanted o (yielded ops a.tmps)=false):=by
 by_cases hh:st.holds g
 ·left
  have hbt:=mS hb hh
  subst hbt
  have xV:Region.wanted o (yielded ops a.tmps)=true:=by
   unfold guardOf at hg
   cases hgd:o.guard with
   | none=>simp [Region.wanted,hgd]
   | some jw =>
     obtain ⟨j,want⟩:=jw
     rw[hgd] at hg
     dsimp only at hg
     cases tC:(ops[j]?).bind (·.dst) with
     | none=>rw[tC] at hg;cases hg
     | some tj =>
       rw[tC] at hg
       simp only[aA] at hg
       subst hg
       have hrel:=hr.tm tj (fun q hq=>hh q (aT _ hq))
       have hxw:=hh (tj,want) (by simp)
       simp only at hxw
       rw[hxw] at hrel
       have hval:a.tmps.getD tj undef = .bool want:=hrel
       have hsome:a.tmps[tj]? = some (.bool want):=by
        rw[aO] at hval
        cases hq:a.tmps[tj]? with
        | none=>rw[hq] at hval;cases hval
        | some u=>rw[hq] at hval;simp only[Option.getD_some] at hval;rw[hval]
       have gX:yielded ops a.tmps j=some want:=by
        unfold yielded
        rw[tC]
        show (match a.tmps[tj]? with | some (.bool b)=>some b | _=>none)=some want
        rw[hsome]
       simp only[Region.wanted,hgd,gX]
       simp
  exact ⟨rfl,hh,xV⟩
 ·right
  have hb0:b=false:=by
   cases b with
   | false=>rfl
   | true=>exact absurd (nS hb) hh
  subst hb0
  have hwt:Region.wanted o (yielded ops a.tmps)=false:=by
   unfold guardOf at hg
   cases hgd:o.guard with
   | none =>
     rw[hgd] at hg
     simp only[aA] at hg
     subst hg
     exact absurd (fun q hq=>by cases hq) hh
   | some jw =>
     obtain ⟨j,want⟩:=jw
     rw[hgd] at hg
     dsimp only at hg
     cases tC:(ops[j]?).bind (·.dst) with
     | none=>rw[tC] at hg;cases hg
     | some tj =>
       rw[tC] at hg
       simp only[aA] at hg
       subst hg
       obtain ⟨x0,hx0⟩:=mT hb
       have oC:∀ (yl:Option Bool),yielded ops a.tmps j=yl→Region.wanted o (yielded ops a.tmps)=(yl == some want):=by
        intro yl hy
        simp only[Region.wanted,hgd,hy]
       have gX:yielded ops a.tmps j=match a.tmps[tj]? with | some (.bool b)=>some b | _=>none:=by
        unfold yielded
        rw[tC]
        rfl
       by_cases nF:st.holds (st.nE tj)
       ·have hrel:=hr.tm tj nF
        rw[hx0] at hrel
        have hval:a.tmps.getD tj undef = .bool x0:=hrel
        have hsome:a.tmps[tj]? = some (.bool x0):=by
         rw[aO] at hval
         cases hq:a.tmps[tj]? with
         | none=>rw[hq] at hval;cases hval
         | some u=>rw[hq] at hval;simp only[Option.getD_some] at hval;rw[hval]
        rw[oC (some x0) (by rw[gX,hsome])]
        have hne:x0≠want:=by
         intro e
         subst e
         refine hh fun q hq=>?_
         rcases aY.1 hq with rfl | hq
         ·exact hx0
         ·exact nF q hq
        simpa using hne
       ·have hun:=hr.un tj nF
        have hnone:yielded ops a.tmps j=none:=by
         rw[gX]
         rw[aO] at hun
         cases hq:a.tmps[tj]? with
         | none=>rfl
         | some u =>
           rw[hq] at hun
           simp only[Option.getD_some] at hun
           rw[hun];rfl
        rw[oC none hnone]
        rfl
  exact ⟨rfl,hh,hwt⟩
theorem aSF {o:Oper} {a:Act} {w:World} {k:Value→World→Prop} (h:xop P o a w k):∃ v w',k v w':=by
 unfold xop at h
 generalize (execOp a.eval o).run P w=r at *
 cases r with
 | ok n w' =>
   cases n <;> simp only[tF] at h
   case value v=>exact ⟨v,w',h⟩
   case skip=>exact ⟨undef,w',h⟩
   case enter f args =>
    obtain ⟨e,w',fr,⟨v,_,hk⟩,_⟩:=h []
    exact ⟨v,w',hk⟩
 | halt x w'=>simp only[tF] at h
theorem aGK {Γ:j6} {S:Mem} {β:dG} {a:Act} {w:World} {o:Oper} {x:Operand} {args:Array Operand} {pS:Array TypeId} {f:FuncId} {cR:List D} {g:List (Nat × Bool)}
 {mc:Option R} {res:R→D} {oZ:St} {bo:List Nat} {r:R} (hr:RR Γ S β a w n st)
 (lZ:bV P f cR [] mc res (fun _=>[])) (hh:st.holds g) (ho:o.op = .call ⟨.value x,args,pS⟩)
 (hfr:st.mM bo=some oZ) (fX:jY oZ g x args.toList=some (f,cR)) (hf:jX P f=true)
 (jA:cR.all D.shut=true) (hm:mc=some r):xop P o a w fun v w'=>(∃ S' β',dR S' β' (res r) v)∧Up w w':=by
 obtain ⟨S2,sZ,aWI⟩:=pV hr hfr
 unfold jY at fX
 split at fX
 ·rename_i f' k cap hx
  simp only[aA,aI] at fX
  obtain ⟨rfl,oD⟩:=fX
  have hh2:oZ.holds g:=(aWI g).2 hh
  have hxr:=gN sZ hh2 x
  rw[hx] at hxr
  obtain ⟨vs,hxv,tE⟩:=qG hxr
  have hrun:(execOp a.eval o).run P w = .ok (.enter f' (args.map a.eval++vs)) w:=by
   unfold execOp
   rw[ho]
   simp only[resolve,hxv,Deferred.ofValue,pure_bind,invoke]
   rw[kA hf]
   simp
  unfold xop
  simp only[hrun,tF]
  have hvm:∀ (l:List Operand),fT S2 β (l.map (oZ.zN g).lv) (l.map a.eval):=by
   intro l
   induction l with
   | nil=>rfl
   | cons x l ih=>exact ⟨_,_,rfl,gN sZ hh2 x,ih⟩
  have hargs:fT S2 β cR (args.map a.eval++vs).toList:=by
   rw[← oD]
   have e:(args.map a.eval++vs).toList=args.toList.map a.eval++vs.toList:=by simp
   rw[e]
   exact (hvm args.toList).append tE
  have hclosed:fT S2 pQ cR (args.map a.eval++vs).toList:=fT.shut jA hargs
  have nM:Core ⟨S2,w,uG pQ [],pQ⟩ S2 pQ w [] :=
   ⟨⟨rfl,rfl,rfl,aM _,fun _ _ _=>rfl,fun _ _ _ _=>rfl,jL.refl _,fun b hb=>by obtain ⟨o,k,x,hx,_⟩:=hb;simp at hx,sZ.core.inv⟩,sZ.core.holds,fun o x hx=>by simp at hx,fun _ _=>rfl,
    fun o o' k k' x x' hx=>by simp at hx,fun o k x hx=>by simp at hx,fun o k x hx=>by simp at hx⟩
  have:=lZ S2 pQ w (args.map a.eval++vs).toList nM hclosed r hm
  have e2:(args.map a.eval++vs).toList.toArray=args.map a.eval++vs:=by simp
  rw[e2] at this
  refine this.mono fun e w' he=>?_
  obtain ⟨v,S',βc,rfl,hres,_,aCa⟩:=he
  have hnm:∀ b,¬ uG pQ [] b:=by
   rintro b ⟨o,k,x,hx,_⟩
   simp at hx
  exact ⟨v,rfl,⟨S',βc,hres⟩,⟨aCa.frame.os,aCa.frame.tape,aCa.frame.output,aCa.frame.size,fun b hb=>aCa.frame.block b hb (hnm b)⟩⟩
 ·cases fX
def aCd (ops:Array Oper) (W:Nat→Bool) (listed:Array Bool) (i:Nat):Bool :=
 Region.noSelect ops && ((Region.ready .any ops listed).contains i && (aJ6 .any ops W listed i && !W i))
theorem cX.look {o:Oper} {x:Operand} {args:Array Operand} {pS:Array TypeId} {t:Nat} {f:FuncId} {cR:List D} {g:List (Nat × Bool)} {b:Bool}
 {mc:Option R} {res:R→D} {m:R→Option (A ⊕ T)} {oZ:St} {fuel:Nat} {listed:Array Bool} (i:Nat) (bo:List Nat) (r0:R)
 (lZ:bV P f cR [] mc res (fun _=>[])) (hi:ops[i]? = some o) (z7:aCd ops W listed i=true)
 (hg:guardOf ops o st=some g) (hb:iW st g=some b) (ho:o.op = .call ⟨.value x,args,pS⟩) (lY:o.dst=some t)
 (hfr:st.mM bo=some oZ) (fX:jY oZ g x args.toList=some (f,cR)) (hf:jX P f=true)
 (hn:(Nat.blt t n && (lQ st t && g.all fun q=>!Nat.beq q.1 t))=true) (hex:∀ r,(res r).exact.isSome=true) (aAJ:∀ r,(res r).flat=true) (jA:cR.all D.shut=true)
 (h:∀ r,cX P n ops W fuel (listed.setIfInBounds i true) cs (st.put (some t) (res r) st.cC g) (m r) go ab) :
 cX P n ops W (fuel+1) listed cs st ((cE b mc r0).bind m) go ab:=by
 intro Γ S β a w hr q hq
 simp only[aC,aN,aW] at hn
 obtain ⟨htn,hfree,hgt⟩:=hn
 have xU:∀ q∈g,q.1≠t:=fun q hq e=>by
  have:=hgt q hq
  rw[e] at this
  simp at this
 simp only[aCd,aC,aQ] at z7
 obtain ⟨hsel,hrd,hfw,hWi⟩:=z7
 rcases aAN hr hg hb with ⟨rfl,hh,hw⟩ | ⟨rfl,hh,hw⟩
 ·simp only[cE,if_true] at hq
  cases hm:mc with
  | none=>rw[hm] at hq;cases hq
  | some r =>
    rw[hm,Option.bind_some] at hq
    obtain ⟨u,hu⟩:=bI.1 (hex r)
    have hy:YQ P ops o u a w:=by
     refine .inl ⟨hw,fun w2 hw2=>?_⟩
     exact xW (fun v w' ⟨⟨S',β',hv⟩,hup⟩=>⟨D.lS hu hv,hup⟩) (aGK (hr.up hw2) lZ hh ho hfr fX hf jA hm)
    have hrel:dR S β (res r) u:=by
     obtain ⟨v,w',⟨S',β',hv⟩,_⟩:=aSF (aGK hr lZ hh ho hfr fX hf jA hm)
     have:=D.lS hu hv
     subst this
     exact aUU (aAJ r) hv
    refine v7 hi (Region.noSelect_spec hsel) hWi _ listed a w (v8 hi hfw) (by simpa using hrd) hy fun w' j8=>?_
    have hput:=(hr.up j8).put (hr.up j8).core (jL.refl _) (kK.refl _) htn hfree xU (fun _=>hrel) (fun hno=>absurd hh hno)
    rw[lY]
    exact h r Γ S β _ w' hput q hq
 ·simp only[cE,aR,if_false,Option.bind_some] at hq
  refine v7 hi (Region.noSelect_spec hsel) hWi _ listed a w (v8 hi hfw) (by simpa using hrd) (.inr ⟨hw,rfl⟩) fun w' j8=>?_
  have hput:=(hr.up j8).put (d:=res r0) (v:=undef) (hr.up j8).core (jL.refl _) (kK.refl _) htn hfree xU (fun hy=>absurd hy hh) (fun _=>rfl)
  rw[lY]
  exact h r0 Γ S β _ w' hput q hq
end
end Go.Dl

namespace Go.Dl
variable [dO]
def cd:Code→List Nat→Code
 | c,[]=>c
 | .seq a b,i::p=>bif Nat.beq i 0 then cd a p else cd b p
 | .cond _ a b,i::p=>bif Nat.beq i 0 then cd a p else cd b p
 | .block _ c,_::p=>cd c p
 | .loop c,_::p=>cd c p
 | c,_::_=>c
def bd (f:Func):Code:=f.body.getD .skip
def rg:Code→Array Oper
 | .region _ ops _=>ops
 | _=>#[]
def aWM:Oper:=⟨none,.move (.func 0),0,"",#[],none⟩
def jQ (l:List Oper) (k:Nat):Oper:=l.getD k aWM
def lT (P:Program) (n:Nat) (o:Oper) (st:St) (om:List Nat):Option (FuncId × List D × Nat) :=
 match o.guard,o.op,o.dst with
 | none,.call ⟨.value x,args,_⟩,some t =>
   (match xR st x args.toList om with
   | some (f,cR)=>bif jX P f && (mD om && (om.all (fun o=>Nat.blt o st.cC.length) && (Nat.blt t n && lQ st t))) then some (f,cR,t) else none
   | none=>none)
 | _,_,_=>none
structure tH where
 f:FuncId
 cR:List D
 t:Nat
 g:List (Nat × Bool)
 b:Bool
def jZ (P:Program) (n:Nat) (ops:Array Oper) (o:Oper) (st:St) (bo:List Nat):Option tH :=
 match o.op,o.dst,guardOf ops o st,st.mM bo with
 | .call ⟨.value x,args,_⟩,some t,some g,some oZ =>
   (match iW st g,jY oZ g x args.toList with
   | some b,some (f,cR)=>bif jX P f && (cR.all D.shut && (Nat.blt t n && (lQ st t && g.all fun q=>!Nat.beq q.1 t))) then some ⟨f,cR,t,g,b⟩ else none
   | _,_=>none)
 | _,_,_,_=>none
section
variable {P:Program} {n:Nat} {A T U R:Type} {go:T→St} {ab:A→Ex × St} {st dD:St} {m:Option (A ⊕ T)} {cs:List Code} {c:Code}
theorem nZ {l:List Oper} {k:Nat} (hk:Nat.blt k l.length=true):l.drop k=jQ l k::l.drop (k+1):=by
 have hk:k<l.length:=by simpa [aW] using hk
 rw[List.drop_eq_getElem_cons hk]
 simp [jQ,List.getD,aF hk]
theorem eO.c8 (k k':Nat) (om:List Nat) {ops:Array Oper} {l:List Oper} {f:FuncId} {cR:List D} {t:Nat} {mc:Option R} {res:R→D} {out:R→List Obj} {m:R→Option (A ⊕ T)}
 (hk:(Nat.blt k l.length && Nat.beq k' (k+1))=true) (hi:lT P n (jQ l k) st om=some (f,cR,t)) (lZ:bV P f cR (gS st om) mc res out)
 (h:∀ r,eO P n ops (l.drop k') cs (st.put (some t) ((res r).mU om st.cC.length) (lR om (out r) st.cC) []) (m r) go ab):eO P n ops (l.drop k) cs st (mc.bind m) go ab:=by
 rw[aC] at hk
 obtain ⟨hk,hk'⟩:=hk
 have hk':=aH hk'
 subst hk'
 rw[nZ hk]
 unfold lT at hi
 split at hi
 ·rename_i x args pS t' hg hop hd
  split at hi
  ·rename_i f' oG hca
   obtain ⟨hc,hi⟩:=bZ hi
   simp only[aA,aI] at hi
   obtain ⟨rfl,rfl,rfl⟩:=hi
   rw[aC] at hc
   exact eO.call lZ hg hop hd hca rfl hc.1 hc.2 h
  ·cases hi
 ·cases hi
theorem eO.aJ7 (k k':Nat) (bo:List Nat) {ops:Array Oper} {l:List Oper} {f:FuncId} {cR:List D} {t:Nat} {g:List (Nat × Bool)} {b:Bool} {mc:Option R} {res:R→D} {m:R→Option (A ⊕ T)} (r0:R)
 (hk:(Nat.blt k l.length && Nat.beq k' (k+1))=true) (hi:jZ P n ops (jQ l k) st bo=some ⟨f,cR,t,g,b⟩) (lZ:bV P f cR [] mc res (fun _=>[])) (aAJ:∀ r,(res r).flat=true)
 (h:∀ r,eO P n ops (l.drop k') cs (st.put (some t) (res r) st.cC g) (m r) go ab):eO P n ops (l.drop k) cs st ((cE b mc r0).bind m) go ab:=by
 rw[aC] at hk
 obtain ⟨hk,hk'⟩:=hk
 have hk':=aH hk'
 subst hk'
 rw[nZ hk]
 unfold jZ at hi
 split at hi
 ·rename_i x args pS t' g' oZ hop hd hg hfr
  split at hi
  ·rename_i b' f' oG hb hca
   obtain ⟨hc,hi⟩:=bZ hi
   simp only[aA,tH.mk.injEq] at hi
   obtain ⟨rfl,rfl,rfl,rfl,rfl⟩:=hi
   simp only[aC] at hc
   exact eO.look bo r0 lZ hg hb hop hd hfr hca hc.1 (by simp only[aC];exact hc.2.2) aAJ hc.2.1 h
  ·cases hi
 ·cases hi
theorem cX.aJ7 (i:Nat) (bo:List Nat) {ops:Array Oper} {W:Nat→Bool} {fuel fuel':Nat} {listed:Array Bool} {f:FuncId} {cR:List D} {t:Nat} {g:List (Nat × Bool)} {b:Bool} {mc:Option R} {res:R→D} {m:R→Option (A ⊕ T)} (r0:R)
 (sH:fuel=fuel'+1) (z7:(aCd ops W listed i && Nat.blt i ops.size)=true) (hi:jZ P n ops (jQ ops.toList i) st bo=some ⟨f,cR,t,g,b⟩) (lZ:bV P f cR [] mc res (fun _=>[]))
 (aAJ:∀ r,((res r).flat && (res r).exact.isSome)=true)
 (h:∀ r,cX P n ops W fuel' (listed.setIfInBounds i true) cs (st.put (some t) (res r) st.cC g) (m r) go ab):cX P n ops W fuel listed cs st ((cE b mc r0).bind m) go ab:=by
 rw[aC] at z7
 subst sH
 unfold jZ at hi
 split at hi
 ·rename_i x args pS t' g' oZ hop hd hg hfr
  split at hi
  ·rename_i b' f' oG hb hca
   obtain ⟨hc,hi⟩:=bZ hi
   simp only[aA,tH.mk.injEq] at hi
   obtain ⟨rfl,rfl,rfl,rfl,rfl⟩:=hi
   simp only[aC] at hc
   have hlt:i<ops.size:=by simpa [aW] using z7.2
   have iT:ops[i]? = some (jQ ops.toList i):=by
    simp [jQ,List.getD,hlt]
   exact cX.look i bo r0 lZ iT z7.1 hg hb hop hd hfr hca hc.1 (by simp only[aC];exact hc.2.2)
    (fun r=>by have:=aAJ r;rw[aC] at this;exact this.2) (fun r=>by have:=aAJ r;rw[aC] at this;exact this.1) hc.2.1 h
  ·cases hi
 ·cases hi
theorem cX.a0a (js:List Nat) {ops:Array Oper} {W:Nat→Bool} {fuel:Nat} {listed:Array Bool} (sH:fuel=js.length) (hs:(xX .any ops listed js && js.all fun j=>W j && (ops[j]?).isSome)=true)
 (h:eO P n ops ((opsOf ops js).drop 0) cs st m go ab):cX P n ops W fuel listed cs st m go ab:=cX.tail js sH hs h
def St.setObj (st:St) (o:Nat) (x:Obj):St:=⟨st.tmps,st.cC.set o x,st.gd,st.h⟩
theorem aLO (o:Nat) (x:Obj) (h:OLe (st.cC.getD o .dead) x) (hx:Nat.blt o st.cC.length=true):aSB n st (st.setObj o x):=by
 intro Γ S β a w hr
 have hlt:o<st.cC.length:=by simpa [aW] using hx
 have h0:st.cC[o]? = some (st.cC.getD o .dead):=by simp [List.getD,aF hlt]
 have get:∀ (i:Nat) (y:Obj),(st.cC.set o x)[i]? = some y→∃ y':Obj,st.cC[i]? = some y'∧y.live=y'.live∧∀ S β w o',rE S β w o' y'→rE S β w o' y:=by
  intro i y hy
  by_cases hi:i=o
  ·subst hi
   rw[List.getElem?_set_self hlt] at hy
   simp only[aA] at hy
   subst hy
   exact ⟨_,h0,h.1.symm,h.2⟩
  ·rw[List.getElem?_set_ne (Ne.symm hi)] at hy
   exact ⟨y,hy,rfl,fun _ _ _ _ h=>h⟩
 refine ⟨⟨hr.core.frame,hr.core.holds,?_,?_,?_,?_,?_⟩,hr.tm,hr.un,hr.size,hr.defers,hr.hand⟩
 ·intro i y hy
  obtain ⟨y',h1,_,h3⟩:=get i y hy
  exact h3 _ _ _ _ (hr.core.cC i y' h1)
 ·intro i hi
  exact hr.core.out i (by simpa [St.setObj] using hi)
 ·intro i i' k k' y y' hy hy' hl hl' hk hk' hne
  obtain ⟨z,h1,h2,_⟩:=get i y hy
  obtain ⟨z',h1',h2',_⟩:=get i' y' hy'
  exact hr.core.inj i i' k k' z z' h1 h1' (h2 ▸ hl) (h2' ▸ hl') hk hk' hne
 ·intro i k y hy hl hk
  obtain ⟨z,h1,h2,_⟩:=get i y hy
  exact hr.core.sep i k z h1 (h2 ▸ hl) hk
 ·intro i k y hy hl hk
  obtain ⟨z,h1,h2,_⟩:=get i y hy
  exact hr.core.mine i k z h1 (h2 ▸ hl) hk
end
end Go.Dl

namespace Go.Dl
variable [dO]
structure El (α:Type) where
 ty:TypeId
 w:Nat
 cs:α→List C
 d:α
variable {α:Type}
def El.at (E:El α) (l:List α) (i j:Nat):C:=(E.cs (l.getD i E.d)).getD j .bot
def El.tree (E:El α) (l:List α):C:=.tree E.w l.length (E.at l)
def El.row (E:El α) (l:List α):Obj:=.row E.ty E.w l.length (E.at l)
theorem getD_lt {β:Type} {l:List β} {i:Nat} (d d':β) (h:i<l.length):l.getD i d=l.getD i d':=by
 simp [List.getD,aF h]
theorem mN {β:Type} (l m:List β) (d:β) (i:Nat) (h:i<l.length):(l++m).getD i d=l.getD i d:=by
 simp [List.getD,List.getElem?_append_left h]
theorem kQ {β:Type} (l m:List β) (d:β) (i:Nat) (h:l.length≤i):(l++m).getD i d=m.getD (i - l.length) d:=by
 simp [List.getD,List.getElem?_append_right h]
theorem El.jE (E:El α) (xs ys:List α) {n m:Nat} (hn:n=xs.length) (hm:m=ys.length) :
 OLe (.row E.ty E.w (n+m) fun i j=>bif Nat.blt i n then E.at xs i j else E.at ys (i - n) j) (E.row (xs++ys)):=by
 subst hn hm
 refine OLe.row (by simp) fun i j hi hj=>?_
 unfold El.at
 rcases bE i xs.length with h | h
 ·have hb:Nat.blt i xs.length=true:=by simpa [aW] using h
  rw[hb,cond_true,mN _ _ _ _ h]
  exact hG.refl _
 ·have hb:Nat.blt i xs.length=false:=by
   cases hq:Nat.blt i xs.length with
   | false=>rfl
   | true=>rw[aW] at hq;omega
  rw[hb,cond_false,kQ _ _ _ _ h]
  exact hG.refl _
theorem El.b9 (E:El α) (l:List α) {n:Nat} {ll:List (List C)} (hn:n=l.length) (h:ll=l.map E.cs):OLe (.row E.ty E.w n (xE ll)) (E.row l):=by
 subst hn h
 refine OLe.row rfl fun i j hi _=>?_
 unfold xE El.at
 have:(l.map E.cs).getD i []=E.cs (l.getD i E.d):=by
  simp [List.getD,aF hi]
 rw[this]
 exact hG.refl _
theorem El.aNF (E:El α) (x:α) {n:Nat} {z:List C} (h:z=E.cs x):OLe (.row E.ty E.w n fun _ j=>z.getD j .bot) (E.row (List.replicate n x)):=by
 subst h
 refine OLe.row (by simp) fun i j hi _=>?_
 unfold El.at
 have:(List.replicate n x).getD i E.d=x:=by simp [List.getD,hi]
 rw[this]
 exact hG.refl _
theorem El.aSG (E:El α) (l:List α) (x:α) {i j:Nat} {cl:List C} (hi:i<l.length) (hlen:∀ y,(E.cs y).length=E.w) (hj:j+cl.length≤E.w)
 (h:E.cs x=aEX (E.cs (l.getD i E.d)) j cl):OLe (.row E.ty E.w l.length (setRow (E.at l) i j cl)) (E.row (l.set i x)):=by
 refine OLe.row (by simp) fun i' j' hi' hj'=>?_
 unfold setRow El.at
 by_cases hii:i'=i
 ·subst hii
  have e:(l.set i' x).getD i' E.d=x:=by simp [List.getD,List.getElem?_set,hi]
  rw[e,h]
  have hb:Nat.beq i' i'=true:=Nat.beq_refl i'
  rw[hb,Bool.true_and]
  have hl0:=hlen (l.getD i' E.d)
  generalize E.cs (l.getD i' E.d)=cs at *
  unfold aEX
  cases hc:(Nat.ble j j' && Nat.blt j' (j+cl.length)) with
  | true =>
    rw[aC,aW] at hc
    have h1:=aX hc.1
    rw[cond_true,kQ _ _ _ _ (by simp;omega),mN _ _ _ _ (by simp;omega)]
    have:j' - (cs.take j).length=j' - j:=by simp;omega
    rw[this]
    exact hG.refl _
  | false =>
    rw[cond_false]
    rw[Bool.and_eq_false_iff] at hc
    rcases bE j' j with h1 | h1
    ·rw[mN _ _ _ _ (by simp;omega)]
     have:(cs.take j).getD j' C.bot=cs.getD j' .bot:=by simp [List.getD,List.getElem?_take,h1]
     rw[this];exact hG.refl _
    ·have h2:j+cl.length≤j':=by
      rcases hc with hc | hc
      ·have:=Nat.ble_eq_true_of_le h1;rw[this] at hc;cases hc
      ·rcases bE j' (j+cl.length) with h3 | h3
       ·rw[← aW] at h3;rw[h3] at hc;cases hc
       ·exact h3
     rw[kQ _ _ _ _ (by simp;omega),kQ _ _ _ _ (by simp;omega)]
     have:(cs.drop (j+cl.length)).getD (j' - (cs.take j).length - cl.length) C.bot=cs.getD j' .bot:=by
      simp only[List.getD,List.getElem?_drop,aK]
      congr 2
      omega
     rw[this];exact hG.refl _
 ·have hb:Nat.beq i' i=false:=by
   cases hq:Nat.beq i' i with
   | false=>rfl
   | true=>exact absurd (aH hq) hii
  rw[hb,Bool.false_and,cond_false]
  have:(l.set i x).getD i' E.d=l.getD i' E.d:=by simp [List.getD,List.getElem?_set_ne (Ne.symm hii)]
  rw[this]
  exact hG.refl _
theorem El.oH (E:El α) (xs:List α) {l h:Nat} (hh:h≤xs.length):hG (.tree E.w (h - l) fun i j=>E.at xs (l+i) j) (E.tree ((xs.drop l).take (h - l))):=by
 refine hG.tree (by simp;omega) fun i j hi _=>?_
 unfold El.at
 have:((xs.drop l).take (h - l)).getD i E.d=xs.getD (l+i) E.d:=by
  simp [List.getD,List.getElem?_take,hi,List.getElem?_drop]
 rw[this]
 exact hG.refl _
theorem El.cJ (E:El α):hG .nil (E.tree []):=by
 intro S β v hv
 exact ⟨none,0,hv,aM _,Nat.zero_le _,.inl rfl⟩
def St.iH (st:St) (t:Nat) (d:D):St:=⟨(t,d)::gA t st.tmps,st.cC,st.gd,st.h⟩
section
variable {P:Program} {n:Nat} {A T:Type} {go:T→St} {ab:A→Ex × St} {st:St} {m:Option (A ⊕ T)} {cs:List Code}
theorem aAO (t:Nat) (d:D) (t':Nat):(st.iH t d).get t'=if t'=t then d else st.get t':=by
 unfold St.iH St.get
 simp only[dK]
 by_cases h:t'=t
 ·subst h
  rw[Nat.beq_refl,cond_true,aE rfl]
 ·have hb:Nat.beq t t'=false:=by
   cases hq:Nat.beq t t' with
   | false=>rfl
   | true=>exact absurd (aH hq).symm h
  rw[hb,cond_false,aD h,j9 h]
theorem aIE (t:Nat) (d:D) (h:jS (st.get t) d) (hg:st.gd.isEmpty=true):aSB n st (st.iH t d):=by
 intro Γ S β a w hr
 have hgd:st.gd=[]:=by simpa using hg
 have hall:∀ t',St.nE (st.iH t d) t'=[]:=by
  intro t';unfold St.nE St.iH;rw[hgd];rfl
 have a0b:∀ t',st.nE t'=[]:=by intro t';unfold St.nE;rw[hgd];rfl
 refine ⟨hr.core,fun t' _=>?_,fun t' hn=>?_,hr.size,hr.defers,hr.hand⟩
 ·have hx:=hr.tm t' (by rw[a0b t'];intro q hq;cases hq)
  rw[aAO]
  split
  ·rename_i e;subst e;exact h _ _ _ hx
  ·exact hx
 ·rw[hall t'] at hn
  exact absurd (fun q hq=>by cases hq) hn
end
end Go.Dl

namespace Go.Dl
variable [dO]
def Conv (n:Nat) (st dD:St):Prop:=∀ Γ S β a w,RR Γ S β a w n st→∃ S' β',RR Γ S' β' a w n dD
section
variable {P:Program} {n:Nat} {A T:Type} {go:T→St} {ab:A→Ex × St} {st dD aSH:St} {m:Option (A ⊕ T)} {cs:List Code}
theorem Conv.trans (h:Conv n st dD) (k:Conv n dD aSH):Conv n st aSH:=fun Γ S β a w hr=>by
 obtain ⟨S',β',h'⟩:=h Γ S β a w hr
 exact k Γ S' β' a w h'
theorem Conv.le (h:aSB n st dD):Conv n st dD:=fun Γ S β a w hr=>⟨S,β,h Γ S β a w hr⟩
theorem Conv.keep (l om:List Nat) (hk:st.keep l om=some dD):Conv n st dD:=fun Γ S β a w hr=>⟨S,fQ β om,gC hr hk⟩
theorem Conv.freeze (o:Nat) (hf:st.freeze o=some dD):Conv n st dD:=fun Γ S β a w hr=>by
 obtain ⟨S',h,_⟩:=xT hr hf
 exact ⟨S',β,h⟩
theorem Conv.obj (o:Nat) (x:Obj) (h:OLe (st.cC.getD o .dead) x) (hx:Nat.blt o st.cC.length=true):Conv n st (st.setObj o x):=Conv.le (aLO o x h hx)
theorem Conv.slot (t:Nat) (d:D) (h:jS (st.get t) d) (hg:st.gd.isEmpty=true):Conv n st (st.iH t d):=Conv.le (aIE t d h hg)
theorem Ref.conv (hc:Conv n st dD) (h:Ref P n cs dD m go ab):Ref P n cs st m go ab:=fun Γ S β a w hr x hx=>by
 obtain ⟨S',β',h'⟩:=hc Γ S β a w hr
 exact h Γ S' β' a w h' x hx
theorem eO.conv {ops:Array Oper} {l:List Oper} (hc:Conv n st dD) (h:eO P n ops l cs dD m go ab):eO P n ops l cs st m go ab:=fun Γ S β a w hr x hx=>by
 obtain ⟨S',β',h'⟩:=hc Γ S β a w hr
 exact h Γ S' β' a w h' x hx
theorem cX.conv {ops:Array Oper} {W:Nat→Bool} {fuel:Nat} {listed:Array Bool} (hc:Conv n st dD) (h:cX P n ops W fuel listed cs dD m go ab):cX P n ops W fuel listed cs st m go ab:=fun Γ S β a w hr x hx=>by
 obtain ⟨S',β',h'⟩:=hc Γ S β a w hr
 exact h Γ S' β' a w h' x hx
theorem aEz {Γ:j6} {S:Mem} {β:dG} {w:World} {xs:List Obj} (h:Core Γ S β w xs) (e:TypeId) (wd:Nat) (get:Nat→Nat→C) :
 Core Γ S (gG β xs.length none) w (xs++[.row e wd 0 get])∧kK β (gG β xs.length none) :=
 h.push default (.row e wd 0 get) none (.inl ⟨rfl,rfl⟩) (.inl ⟨by unfold gG;simp,rfl⟩)
def St.aEA (st:St) (t:Nat) (x:Obj):St:=⟨(t,.c (.own st.cC.length 0))::gA t st.tmps,st.cC++[x],st.gd,st.h⟩
def aIF:D→Bool
 | .c .nil=>true
 | _=>false
theorem Conv.aEA (t:Nat) (e:TypeId) (wd:Nat) (get:Nat→Nat→C) (hs:aIF (st.get t)=true) (hg:st.gd.isEmpty=true) (hh:Nat.ble st.h st.cC.length=true):Conv n st (st.aEA t (.row e wd 0 get)):=by
 intro Γ S β a w hr
 have aA6:st.get t = .c .nil:=by
  generalize st.get t=d at hs
  cases d with
  | c x=>cases x <;> first | rfl | cases hs
  | _=>cases hs
 have hgd:st.gd=[]:=by simpa using hg
 obtain ⟨hc,hb⟩:=aEz hr.core e wd get
 have hle:aSB n ⟨st.tmps,st.cC++[.row e wd 0 get],st.gd,st.h⟩ ⟨st.tmps,st.cC++[.row e wd 0 get],st.gd,st.h⟩:=fun _ _ _ _ _ h=>h
 have a0c:∀ (l:List (Nat × D)) (xs:List Obj) (t':Nat),St.nE ⟨l,xs,st.gd,st.h⟩ t'=[]:=by
  intro l xs t';unfold St.nE;rw[hgd];rfl
 refine ⟨S,gG β st.cC.length none,hc,fun t' _=>?_,fun t' hn=>?_,hr.size,hr.defers,fun o k ho hB=>hb _ _ (hr.hand o k ho hB)⟩
 ·have hx:=hr.tm t' (by
   have:st.nE t'=[]:=a0c st.tmps st.cC t'
   rw[this];intro q hq;cases hq)
  have aNG:(st.aEA t (.row e wd 0 get)).get t'=if t'=t then .c (.own st.cC.length 0) else st.get t':=aAO (st:=st) t (.c (.own st.cC.length 0)) t'
  rw[aNG]
  split
  ·rename_i e'
   subst e'
   rw[aA6] at hx
   have hv:a.tmps.getD t' undef = .slice none 0 0:=hx
   rw[hv]
   show cV S (gG β st.cC.length none) (.own st.cC.length 0) _
   have:gG β st.cC.length none st.cC.length=some none:=by unfold gG;simp
   simp only[cV,this]
   exact ⟨trivial,trivial⟩
  ·exact dR.up (jL.refl _) hb hx
 ·have:St.nE (st.aEA t (.row e wd 0 get)) t'=[]:=a0c _ _ t'
  rw[this] at hn
  exact absurd (fun q hq=>by cases hq) hn
theorem eM.set {S:Mem} {β:dG} {l:List C} {us:List Value} {j:Nat} {c:C} (h:eM S β l us) (hc:∀ u,us[j]? = some u→cV S β c u):eM S β (l.set j c) us:=by
 refine eM.rD (by rw[List.length_set];exact h.length) fun i x hx=>?_
 by_cases hi:i=j
 ·subst hi
  have hlt:i<l.length:=by
   rcases bE i l.length with h1 | h1
   ·exact h1
   ·rw[bB (by simpa using h1)] at hx;cases hx
  rw[List.getElem?_set_self hlt] at hx
  simp only[aA] at hx
  subst hx
  obtain ⟨u,hu,_⟩:=h.get i _ (aF hlt)
  exact ⟨u,hu,hc u hu⟩
 ·rw[List.getElem?_set_ne (Ne.symm hi)] at hx
  exact h.get i x hx
def St.mB (st:St) (o j:Nat) (x:Obj):Option St :=
 match st.cC[o]? with
 | some (.cells l)=>(match l[j]? with
   | some .nil=>some ⟨st.tmps,st.cC.set o (.cells (l.set j (.own st.cC.length 0)))++[x],st.gd,st.h⟩
   | _=>none)
 | _=>none
theorem Conv.mB (o j:Nat) (e:TypeId) (wd:Nat) (get:Nat→Nat→C) (hs:st.mB o j (.row e wd 0 get)=some dD):Conv n st dD:=by
 intro Γ S β a w hr
 unfold St.mB at hs
 split at hs
 ·rename_i l ho
  split at hs
  ·rename_i hj
   simp only[aA] at hs
   subst hs
   obtain ⟨hc,hb⟩:=aEz hr.core e wd get
   have hlt:o<st.cC.length:=by
    rcases bE o st.cC.length with h1 | h1
    ·exact h1
    ·rw[bB h1] at ho;cases ho
   have hn:gG β st.cC.length none st.cC.length=some none:=by unfold gG;simp
   have h1:RR Γ S (gG β st.cC.length none) a w n ⟨st.tmps,st.cC++[.row e wd 0 get],st.gd,st.h⟩ :=
    ⟨hc,fun t ht=>dR.up (jL.refl _) hb (hr.tm t ht),fun t ht=>hr.un t ht,hr.size,hr.defers,fun o k ho hB=>hb _ _ (hr.hand o k ho hB)⟩
   refine ⟨S,gG β st.cC.length none,?_⟩
   have aNH:st.cC.set o (.cells (l.set j (.own st.cC.length 0)))++[Obj.row e wd 0 get]=(st.cC++[Obj.row e wd 0 get]).set o (.cells (l.set j (.own st.cC.length 0))):=by
    rw[List.set_append_left _ _ hlt]
   rw[aNH]
   have h0:(st.cC++[Obj.row e wd 0 get])[o]? = some (.cells l):=by rw[List.getElem?_append_left hlt];exact ho
   have get':∀ (i:Nat) (y:Obj),((st.cC++[Obj.row e wd 0 get]).set o (.cells (l.set j (.own st.cC.length 0))))[i]? = some y →
    ∃ y':Obj,(st.cC++[Obj.row e wd 0 get])[i]? = some y'∧y.live=y'.live∧(rE S (gG β st.cC.length none) w i y'→rE S (gG β st.cC.length none) w i y):=by
    intro i y hy
    by_cases hi:i=o
    ·subst hi
     rw[List.getElem?_set_self (by simp;omega)] at hy
     simp only[aA] at hy
     subst hy
     refine ⟨_,h0,rfl,?_⟩
     rintro ⟨k,q1,q2,q3,q4,us,q5,q6,q7⟩
     refine ⟨k,q1,by rw[List.length_set];exact q2,q3,q4,us,q5,q6.set fun u hu=>?_,q7⟩
     obtain ⟨u',hu',hr'⟩:=q6.get j _ hj
     rw[hu] at hu'
     simp only[aA] at hu'
     subst hu'
     have hv:u = .slice none 0 0:=hr'
     subst hv
     simp only[cV,hn]
     exact ⟨trivial,trivial⟩
    ·rw[List.getElem?_set_ne (Ne.symm hi)] at hy
     exact ⟨y,hy,rfl,id⟩
   refine ⟨⟨h1.core.frame,h1.core.holds,?_,?_,?_,?_,?_⟩,h1.tm,h1.un,h1.size,h1.defers,h1.hand⟩
   ·intro i y hy
    obtain ⟨y',g1,_,g3⟩:=get' i y hy
    exact g3 (h1.core.cC i y' g1)
   ·intro i hi
    exact h1.core.out i (by simpa using hi)
   ·intro i i' k k' y y' hy hy' hl hl' hk hk' hne
    obtain ⟨z,g1,g2,_⟩:=get' i y hy
    obtain ⟨z',g1',g2',_⟩:=get' i' y' hy'
    exact h1.core.inj i i' k k' z z' g1 g1' (g2 ▸ hl) (g2' ▸ hl') hk hk' hne
   ·intro i k y hy hl hk
    obtain ⟨z,g1,g2,_⟩:=get' i y hy
    exact h1.core.sep i k z g1 (g2 ▸ hl) hk
   ·intro i k y hy hl hk
    obtain ⟨z,g1,g2,_⟩:=get' i y hy
    exact h1.core.mine i k z g1 (g2 ▸ hl) hk
  ·cases hs
 ·cases hs
end
end Go.Dl

namespace Go.Dl
variable [dO]
abbrev Bytes:=List UInt8
variable {α:Type}
def El.ep (E:El α) (x:α) (j:Nat):C:=.nP E.w (fun j=>(E.cs x).getD j .bot) j
section
variable {P:Program} {n:Nat} {A T:Type} {go:T→St} {ab:A→Ex × St} {st dD:St} {m:Option (A ⊕ T)} {cs:List Code}
theorem jS.c {c c':C} (h:hG c c'):jS (.c c) (.c c'):=fun S β v hv=>h S β v hv
theorem eM.le {S:Mem} {β:dG}:∀ {l l':List C} {us:List Value},gD hG l l'→eM S β l us→eM S β l' us
 | _,_,_,.nil,h=>h
 | _,_,_,.cons hc hr,⟨v,r,h1,h2,h3⟩=>⟨v,r,h1,hc _ _ _ h2,eM.le hr h3⟩
theorem jS.agg {l l':List C} (h:gD hG l l'):jS (.agg l) (.agg l'):=fun _ _ _ ⟨vs,h1,h2⟩=>⟨vs,h1,eM.le h h2⟩
theorem hG.own {o k k':Nat} (h:k=k'):hG (.own o k) (.own o k'):=h ▸ hG.refl _
end
end Go.Dl
