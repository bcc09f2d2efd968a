/- No conditions. -/
import Derived.Test.YtidjangjfekfjaaGreatDoorDA
import Derived.LoopN
import Derived.Still
import Derived.KernelRfl
set_option linter.unusedVariables false
set_option linter.unusedSimpArgs false
set_option linter.unusedSectionVars false
namespace Go.Dl
variable [fT]
section
variable {P:Program} {Γ:nG} {S:Mem} {β:eB} {w:World} {n:Nat}
theorem l7:∀ {om:List Nat} {o i k:Nat},iS o om k=some i→k≤i∧om[i - k]? = some o
 | [],_,_,_,h=>by cases h
 | x::r,o,i,k,h=>by
   unfold iS at h
   cases hb:Nat.beq x o with
   | true =>
     rw[hb,cond_true] at h
     simp only[aF] at h
     subst h
     have:=aP hb
     subst this
     simp
   | false =>
     rw[hb,cond_false] at h
     obtain ⟨h1,h2⟩:=l7 h
     refine ⟨by omega,?_⟩
     rw[show i - k=(i - (k+1))+1 by omega,List.getElem?_cons_succ]
     exact h2
def iT (β:eB) (om:List Nat):eB:=fun i=>(om[i]?).bind β
theorem C.nP {om:List Nat}:∀ {c:C} {β:eB} {v:Value},dN S β c v→dN S (iT β om) (c.lE om) v:=by
 intro c
 induction c with
 | own o m =>
   intro β v hv
   simp only[C.lE]
   cases hi:iS o om 0 with
   | none=>trivial
   | some i =>
     have hb:iT β om i=β o:=by
      have:=(l7 hi).2
      simp only[Nat.sub_zero] at this
      simp [iT,this]
     simp only[Option.elim,dN,hb]
     exact hv
 | ptr o i j =>
   intro β v hv
   simp only[C.lE]
   cases hi:iS o om 0 with
   | none=>trivial
   | some q =>
     have hb:iT β om q=β o:=by
      have:=(l7 hi).2
      simp only[Nat.sub_zero] at this
      simp [iT,this]
     simp only[Option.elim,dN,hb]
     exact hv
 | self t b o =>
   intro β v hv
   simp only[C.lE]
   cases hi:iS o om 0 with
   | none=>trivial
   | some q =>
     have hb:iT β om q=β o:=by
      have:=(l7 hi).2
      simp only[Nat.sub_zero] at this
      simp [iT,this]
     simp only[Option.elim,dN,hb]
     exact hv
 | opt b c ih =>
   intro β v hv
   simp only[C.lE,dN] at hv ⊢
   split at hv
   ·rename_i h;rw[aJ h];exact ih hv
   ·rename_i h;rw[aG h];exact hv
 | iface b t c ih =>
   intro β v hv
   simp only[C.lE,dN] at hv ⊢
   split at hv
   ·rename_i h;rw[aJ h];obtain ⟨u,hu,hr⟩:=hv;exact ⟨u,hu,ih hr⟩
   ·rename_i h;rw[aG h];exact hv
 | func fn k cap ih =>
   rintro β v ⟨vs,h1,h2,h3⟩
   refine ⟨vs,h1,h2,fun i hi=>?_⟩
   have:(((List.range k).map fun i=>(cap i).lE om).getD i .bot)=(cap i).lE om:=by
    simp [List.getD,hi]
   show dN S (iT β om) (((List.range k).map fun i=>(cap i).lE om).getD i .bot) _
   rw[this]
   exact ih i (h3 i hi)
 | cond b c ih =>
   intro β v hv hb
   exact ih (hv hb)
 | _=>intro β v hv;exact hv
theorem eT.map {β β':eB} {S S':Mem} (f:C→C) (hf:∀ c v,dN S β c v→dN S' β' (f c) v):∀ {l:List C} {us:List Value},eT S β l us→eT S' β' (l.map f) us
 | [],_,h=>h
 | _::_,_,⟨v,r,h1,h2,h3⟩=>⟨v,r,h1,hf _ _ h2,eT.map f hf h3⟩
theorem D1.nP {om:List Nat} {d:D1} {v:Value} (h:lO S β d v):lO S (iT β om) (d.lE om) v:=by
 cases d with
 | c x=>exact C.nP h
 | agg l=>obtain ⟨vs,h1,h2⟩:=h;exact ⟨vs,h1,h2.map _ fun _ _ h=>C.nP h⟩
theorem tB.map {β β':eB} {S S':Mem} (f:D1→D1) (hf:∀ c v,lO S β c v→lO S' β' (f c) v):∀ {l:List D1} {us:List Value},tB S β l us→tB S' β' (l.map f) us
 | [],_,h=>h
 | _::_,_,⟨v,r,h1,h2,h3⟩=>⟨v,r,h1,hf _ _ h2,tB.map f hf h3⟩
theorem D.nP {om:List Nat} {d:D} {v:Value} (h:eI S β d v):eI S (iT β om) (d.lE om) v:=by
 cases d with
 | c x=>exact C.nP h
 | agg l=>obtain ⟨vs,h1,h2⟩:=h;exact ⟨vs,h1,h2.map _ fun _ _ h=>C.nP h⟩
 | lG l=>obtain ⟨vs,h1,h2⟩:=h;exact ⟨vs,h1,h2.map _ fun _ _ h=>D1.nP h⟩
theorem xQ:∀ {om:List Nat},pO om=true→∀ {i j o:Nat},om[i]? = some o→om[j]? = some o→i=j
 | [],_,i,j,o,h,_=>by simp at h
 | x::r,hn,i,j,o,hi,hj=>by
   simp only[pO,aK,Bool.not_eq_true',List.any_eq_false] at hn
   obtain ⟨h1,h2⟩:=hn
   cases i with
   | zero =>
     cases j with
     | zero=>rfl
     | succ j =>
       simp only[List.getElem?_cons_zero,aF] at hi
       subst hi
       simp only[List.getElem?_cons_succ] at hj
       have:=h1 x (List.mem_of_getElem? hj)
       simp at this
   | succ i =>
     cases j with
     | zero =>
       simp only[List.getElem?_cons_zero,aF] at hj
       subst hj
       simp only[List.getElem?_cons_succ] at hi
       have:=h1 x (List.mem_of_getElem? hi)
       simp at this
     | succ j =>
       simp only[List.getElem?_cons_succ] at hi hj
       rw[xQ h2 hi hj]
theorem aGp {x:Obj} {om:List Nat}:(x.lE om).live=x.live:=by cases x <;> rfl
theorem tC.lE {om:List Nat} {o i:Nat} {x:Obj} (h:tC S β w o x) (hi:om[i]? = some o):tC S (iT β om) w i (x.lE om):=by
 have hb:iT β om i=β o:=by simp [iT,hi]
 cases x with
 | dead=>trivial
 | cells l =>
   obtain ⟨k,h1,h2,h3,h4,vs,h5,h6,h7⟩:=h
   exact ⟨k,by rw[hb];exact h1,by rw[h2];simp,h3,h4,vs,h5,h6.map _ fun _ _ h=>C.nP h,h7⟩
 | aEM e bs =>
   obtain ⟨k,h1,h2⟩:=h
   exact ⟨k,by rw[hb];exact h1,h2⟩
 | row e wd m get =>
   rcases h with ⟨h1,h2⟩ | ⟨k,h1,h2⟩
   ·exact .inl ⟨by rw[hb];exact h1,h2⟩
   ·exact .inr ⟨k,by rw[hb];exact h1,h2⟩
theorem Core.lE {xs:List Obj} (h:Core Γ S β w xs) {om:List Nat} (hn:pO om=true) :
 Core Γ S (iT β om) w (om.map fun o=>(xs.getD o .dead).lE om):=by
 have get:∀ i y,(om.map fun o=>(xs.getD o .dead).lE om)[i]? = some y→y.live=true→∃ o x,om[i]? = some o∧xs[o]? = some x∧x.live=true∧y=x.lE om∧iT β om i=β o:=by
  intro i y hy hl
  rw[bD] at hy
  cases ho:om[i]? with
  | none=>simp [ho] at hy
  | some o =>
    simp only[ho,aQ,aF] at hy
    subst hy
    rw[aGp] at hl
    cases hx:xs[o]? with
    | none=>simp [List.getD,hx,Obj.live] at hl
    | some x =>
      refine ⟨o,x,rfl,hx,?_,?_,by simp [iT,ho]⟩
      ·simpa [List.getD,hx] using hl
      ·simp [List.getD,hx]
 refine ⟨h.frame,h.holds,?_,?_,?_,?_,?_⟩
 ·intro i y hy
  cases hl:y.live with
  | false=>cases y <;> first | trivial | cases hl
  | true =>
    obtain ⟨o,x,ho,hx,_,rfl,_⟩:=get i y hy hl
    exact (h.cZ o x hx).lE ho
 ·intro i hi
  have:om[i]? = none:=aZ (by simpa using hi)
  simp [iT,this]
 ·intro i j k k' y y' hy hy' hl hl' hk hk' hne
  obtain ⟨o,x,ho,hx,hxl,_,hb⟩:=get i y hy hl
  obtain ⟨o',x',ho',hx',aIu,_,hb'⟩:=get j y' hy' hl'
  rw[hb] at hk;rw[hb'] at hk'
  refine h.inj o o' k k' x x' hx hx' hxl aIu hk hk' fun e=>hne ?_
  subst e
  exact xQ hn ho ho'
 ·intro i k y hy hl hk
  obtain ⟨o,x,ho,hx,hxl,_,hb⟩:=get i y hy hl
  rw[hb] at hk
  exact h.sep o k x hx hxl hk
 ·intro i k y hy hl hk
  obtain ⟨o,x,ho,hx,hxl,_,hb⟩:=get i y hy hl
  rw[hb] at hk
  exact h.mine o k x hx hxl hk
theorem aB3 (f:Nat→D) (t:Nat):∀ (l:List Nat),eC (D.c .bot) (l.map fun t=>(t,f t)) t=bif l.any (Nat.beq t) then f t else .c .bot
 | []=>rfl
 | x::r=>by
   rw[bS,List.any_cons]
   simp only[eC]
   cases hb:Nat.beq x t with
   | true =>
     have:=aP hb
     subst this
     simp
   | false =>
     have:Nat.beq t x=false:=by
      cases hq:Nat.beq t x with
      | false=>rfl
      | true=>have:=aP hq;subst this;simp at hb
     rw[cond_false,this,bT]
     exact aB3 f t r
theorem aMD {d:D} {om:List Nat} {b:Bool} (h:d.lE om = .c (.val (.bool b))):d = .c (.val (.bool b)):=by
 cases d with
 | c x =>
   simp only[D.lE,D.c.injEq] at h
   cases x with
   | val u=>simp only[C.lE] at h;rw[h]
   | own o m=>simp only[C.lE] at h;cases hi:iS o om 0 <;> simp [hi] at h
   | ptr o i j=>simp only[C.lE] at h;cases hi:iS o om 0 <;> simp [hi] at h
   | self t b o=>simp only[C.lE] at h;cases hi:iS o om 0 <;> simp [hi] at h
   | _=>simp only[C.lE] at h;cases h
 | agg l=>cases h
 | lG l=>cases h
theorem aA3:∀ {k i:Nat} {om:List Nat},aBF k i om=true→∀ {o:Nat},o<k→om[o]? = some (i+o)
 | 0,_,_,_,_,h=>by omega
 | k+1,i,[],h,_,_=>by cases h
 | k+1,i,x::r,h,o,ho=>by
   simp only[aBF,aK] at h
   have hx:=aP h.1
   subst hx
   cases o with
   | zero=>simp
   | succ o =>
     rw[List.getElem?_cons_succ,aA3 h.2 (by omega)]
     congr 1
     omega
theorem jU {a:Act} {st cR:St} {l om:List Nat} (h:RR Γ S β a w n st) (hk:st.keep l om=some cR):RR Γ S (iT β om) a w n cR:=by
 unfold St.keep at hk
 dsimp only at hk
 obtain ⟨hg,hk⟩:=cK hk
 simp only[aF] at hk
 subst hk
 simp only[aK] at hg
 obtain ⟨hg,hn,hst⟩:=hg
 have get':∀ t,St.get ⟨l.map fun t=>(t,(st.get t).lE om),om.map fun o=>(st.cZ.getD o .dead).lE om,st.gd.filter (fun p=>l.any (Nat.beq p.1)),st.h⟩ t=bif l.any (Nat.beq t) then (st.get t).lE om else .c .bot :=
  fun t=>aB3 (fun t=>(st.get t).lE om) t l
 have aQk:∀ t,St.oU ⟨l.map fun t=>(t,(st.get t).lE om),om.map fun o=>(st.cZ.getD o .dead).lE om,st.gd.filter (fun p=>l.any (Nat.beq p.1)),st.h⟩ t=bif l.any (Nat.beq t) then st.oU t else []:=by
  intro t
  unfold St.oU
  simp only
  rw[kU (fun i=>l.any (Nat.beq i))]
 have hkeep:∀ t,l.any (Nat.beq t)=true→∀ q∈st.oU t,l.any (Nat.beq q.1)=true:=by
  intro t ht q hq
  -- the guard of t lies in what is kept
  have:∃ p∈st.gd.filter (fun p=>l.any (Nat.beq p.1)),q∈p.2:=by
   have hq':q∈St.oU ⟨l.map fun t=>(t,(st.get t).lE om),om.map fun o=>(st.cZ.getD o .dead).lE om,st.gd.filter (fun p=>l.any (Nat.beq p.1)),st.h⟩ t:=by
    rw[aQk t,ht,cond_true];exact hq
   exact aKa hq'
  obtain ⟨p,hp,hqp⟩:=this
  rw[aW] at hg
  have:=hg p hp
  rw[aW] at this
  exact this q hqp
 have hold:∀ t,l.any (Nat.beq t)=true→(St.holds ⟨l.map fun t=>(t,(st.get t).lE om),om.map fun o=>(st.cZ.getD o .dead).lE om,st.gd.filter (fun p=>l.any (Nat.beq p.1)),st.h⟩ (st.oU t)↔st.holds (st.oU t)):=by
  intro t ht
  unfold St.holds
  constructor
  ·intro hh q hq
   have:=hh q hq
   rw[get' q.1,hkeep t ht q hq,cond_true] at this
   exact aMD this
  ·intro hh q hq
   rw[get' q.1,hkeep t ht q hq,cond_true,hh q hq]
   rfl
 refine ⟨h.core.lE hn,fun t hh=>?_,fun t hh=>?_,h.size,h.defers,fun o k ho hB=>?_⟩
 ·rw[get' t]
  cases ht:l.any (Nat.beq t) with
  | false=>trivial
  | true =>
    rw[cond_true]
    rw[aQk t,ht,cond_true,hold t ht] at hh
    exact D.nP (h.tm t hh)
 ·cases ht:l.any (Nat.beq t) with
  | false =>
    rw[aQk t,ht,cond_false] at hh
    exact absurd (fun q hq=>by cases hq) hh
  | true =>
    rw[aQk t,ht,cond_true,hold t ht] at hh
    exact h.un t hh
 ·have:=aA3 hst ho
  rw[Nat.zero_add] at this
  simp only[iT,this,aA]
  exact h.hand o k ho hB
end
def fI {α:Type}:List Bool→Option α→Option α
 | [],m=>m
 | v::vs,m=>if v=true then fI vs m else none
theorem jA {α:Type}:∀ {vs:List Bool} {m:Option α} {x:α},fI vs m=some x→(∀ b∈vs,b=true)∧m=some x
 | [],_,_,h=>⟨(fun b hb=>by cases hb),h⟩
 | v::vs,m,x,h=>by
   unfold fI at h
   split at h
   ·rename_i hv
    obtain ⟨h1,h2⟩:=jA h
    refine ⟨fun b hb=>?_,h2⟩
    rcases aT.1 hb with rfl | hb
    ·exact hv
    ·exact h1 b hb
   ·cases h
def cO {A T U:Type} (m:Option (A ⊕ T)) (f:T→Option (A ⊕ U)):Option (A ⊕ U) :=
 match m with
 | none=>none
 | some (.inl a)=>some (.inl a)
 | some (.inr t)=>f t
def cN {A T:Type} (m:Option ((T ⊕ A) ⊕ T)):Option (A ⊕ T) :=
 match m with
 | none=>none
 | some (.inl (.inl t))=>some (.inr t)
 | some (.inl (.inr a))=>some (.inl a)
 | some (.inr t)=>some (.inr t)
def iter {A T:Type}:Nat→(T→Option (A ⊕ T))→T→Option A
 | 0,_,_=>none
 | k+1,f,t =>
   match f t with
   | none=>none
   | some (.inl a)=>some a
   | some (.inr t')=>iter k f t'
inductive Ex where
 | ret
 | exit (id:Nat)
def Ex.out:Ex→Exit
 | .ret=>.ret
 | .exit id=>.exit id
def Post (Γ:nG) (n:Nat) {A T:Type} (go:T→St) (ab:A→Ex × St) (x:A ⊕ T):Exit→Act→World→Prop:=fun e a w =>
 match x with
 | .inl t=>e=(ab t).1.out∧∃ S β,RR Γ S β a w n (ab t).2
 | .inr t=>e = .normal∧∃ S β,RR Γ S β a w n (go t)
def wpL (P:Program):List Code→(Exit→Act→World→Prop)→Act→World→Prop
 | [],Q,a,w=>Q .normal a w
 | c::cs,Q,a,w=>c.wp P (Exit.then (wpL P cs Q) Q) a w
def Ref (P:Program) (n:Nat) {A T:Type} (cs:List Code) (st:St) (m:Option (A ⊕ T)) (go:T→St) (ab:A→Ex × St):Prop :=
 ∀ Γ S β a w,RR Γ S β a w n st→∀ x,m=some x→wpL P cs (Post Γ n go ab x) a w
def bY (P:Program) (n:Nat) (ops:Array Oper) {A T:Type} (l:List Oper) (cs:List Code) (st:St) (m:Option (A ⊕ T)) (go:T→St) (ab:A→Ex × St):Prop :=
 ∀ Γ S β a w,RR Γ S β a w n st→∀ x,m=some x→wpList P ops (Exit.then (wpL P cs (Post Γ n go ab x)) (Post Γ n go ab x)) l a w
section
variable {P:Program} {n:Nat} {A T U:Type} {go:T→St} {ab:A→Ex × St} {st:St} {m:Option (A ⊕ T)} {cs:List Code}
theorem Ref.region {id:Nat} {ops:Array Oper} (h:bY P n ops ops.toList cs st m go ab):Ref P n (.region id ops false::cs) st m go ab :=
 fun Γ S β a w hr x hx=>wp_region_list (h Γ S β a w hr x hx)
theorem bY.ev (j:Nat) (keep om:List Nat) {ops:Array Oper} {l:List Oper} {vs:List Bool} {cR:St}
 (he:iZ P n ops (l.take j) st keep om=some (vs,cR)) (h:bY P n ops (l.drop j) cs cR m go ab):bY P n ops l cs st (fI vs m) go ab:=by
 intro Γ S β a w hr x hx
 obtain ⟨hvs,hm⟩:=jA hx
 unfold iZ at he
 split at he
 ·rename_i vs2 uV h2
  cases hk:uV.keep keep om with
  | none=>rw[hk] at he;cases he
  | some st3 =>
    rw[hk] at he
    simp only[aQ,aF,aX] at he
    obtain ⟨rfl,rfl⟩:=he
    have:=aA2 (Q:=Exit.then (wpL P cs (Post Γ n go ab x)) (Post Γ n go ab x)) (rest:=l.drop j) hr h2 hvs fun a' w' S' β' h'=>h Γ S' (iT β' om) a' w' (jU h' hk) x hm
    rwa [List.take_append_drop] at this
 ·cases he
theorem bY.nil {ops:Array Oper} (h:Ref P n cs st m go ab):bY P n ops [] cs st m go ab :=
 fun Γ S β a w hr x hx=>h Γ S β a w hr x hx
theorem Ref.nil {t:T} (h:go t=st):Ref P n [] st (some (.inr t)) go ab:=by
 intro Γ S β a w hr x hx
 simp only[aF] at hx
 subst hx
 exact ⟨rfl,S,β,by rw[h];exact hr⟩
theorem Ref.seq {x y:Code} (h:Ref P n (x::y::cs) st m go ab):Ref P n (.seq x y::cs) st m go ab:=by
 intro Γ S β a w hr q hq
 refine wp_seq (Code.wp_mono (fun e a w he=>?_) (h Γ S β a w hr q hq))
 cases e <;> exact he
theorem Ref.skip (h:Ref P n cs st m go ab):Ref P n (.skip::cs) st m go ab :=
 fun Γ S β a w hr x hx=>wp_skip (h Γ S β a w hr x hx)
theorem Ref.ret {t:A} (h:ab t=(.ret,st)):Ref P n (.ret::cs) st (some (.inl t)) go ab:=by
 intro Γ S β a w hr x hx
 simp only[aF] at hx
 subst hx
 refine wp_ret ?_
 show Post Γ n go ab (.inl t) .ret a w
 simp only[Post,h]
 exact ⟨rfl,S,β,hr⟩
theorem Ref.exit {id:Nat} {t:A} (h:ab t=(.exit id,st)):Ref P n (.exit id::cs) st (some (.inl t)) go ab:=by
 intro Γ S β a w hr x hx
 simp only[aF] at hx
 subst hx
 refine wp_exit ?_
 show Post Γ n go ab (.inl t) (.exit id) a w
 simp only[Post,h]
 exact ⟨rfl,S,β,hr⟩
theorem aQm {Γ:nG} {S:Mem} {β:eB} {a:Act} {w:World} (hr:RR Γ S β a w n st) {c:Operand} {b:Bool} (hg:st.gd=[]) (h:st.lv c = .c (.val (.bool b))):a.eval c = .bool b:=by
 have:=j7 hr (g:=[]) (fun q hq=>by cases hq) c
 have hs:st.see []=st:=by unfold St.see;rw[hg];rfl
 rw[hs,h] at this
 exact this
theorem Ref.cond {c:Operand} {x y:Code} {b:Bool} {m1 m2:Option (A ⊕ T)} (hb:st.lv c = .c (.val (.bool b))) (hg:st.gd=[]) (h1:b=true→Ref P n (x::cs) st m1 go ab) (h2:b=false→Ref P n (y::cs) st m2 go ab) :
 Ref P n (.cond c x y::cs) st (if b=true then m1 else m2) go ab:=by
 intro Γ S β a w hr q hq
 have he:=aQm hr hg hb
 refine wp_cond he ?_
 cases b with
 | true =>
   rw[aJ rfl] at hq
   exact h1 rfl Γ S β a w hr q hq
 | false =>
   rw[aG (by simp)] at hq
   exact h2 rfl Γ S β a w hr q hq
theorem Ref.bind {x:Code} {fK:U→St} {m1:Option (A ⊕ U)} {m2:U→Option (A ⊕ T)} (h1:Ref P n [x] st m1 fK ab) (h2:∀ t,Ref P n cs (fK t) (m2 t) go ab) :
 Ref P n (x::cs) st (cO m1 m2) go ab:=by
 intro Γ S β a w hr q hq
 cases hm:m1 with
 | none=>rw[hm] at hq;cases hq
 | some z =>
   rw[hm] at hq
   refine Code.wp_mono (fun e a' w' he=>?_) (h1 Γ S β a w hr z hm)
   cases z with
   | inl t =>
     simp only[cO,aF] at hq
     subst hq
     have he':Post Γ n fK ab (.inl t) e a' w':=by
      cases e <;> exact he
     cases e with
     | normal =>
       have:=he'.1
       cases hx:(ab t).1 <;> rw[hx] at this <;> cases this
     | _=>exact he'
   | inr u =>
     simp only[cO] at hq
     have he':Post Γ n fK ab (.inr u) e a' w':=by
      cases e <;> exact he
     obtain ⟨rfl,S',β',hr'⟩:=he'
     exact h2 u Γ S' β' a' w' hr' q hq
theorem Ref.block {id:Nat} {c:Code} {U:Type} {fK:U→St} {m1:Option ((U ⊕ A) ⊕ U)} {m2:U→Option (A ⊕ T)}
 (h1:Ref P n [c] st m1 fK (fun x=>match x with | .inl t=>(.exit id,fK t) | .inr a=>ab a)) (hid:∀ a,(ab a).1≠.exit id)
 (h2:∀ t,Ref P n cs (fK t) (m2 t) go ab):Ref P n (.block id c::cs) st (cO (cN m1) m2) go ab:=by
 intro Γ S β a w hr q hq
 cases hm:m1 with
 | none=>rw[hm] at hq;cases hq
 | some z =>
   rw[hm] at hq
   refine wp_block (Code.wp_mono (fun e a' w' he=>?_) (h1 Γ S β a w hr z hm))
   have he':Post Γ n fK (fun x=>match x with | .inl t=>(.exit id,fK t) | .inr a=>ab a) z e a' w':=by
    cases e <;> exact he
   cases z with
   | inl t =>
     cases t with
     | inl u =>
       simp only[cN,cO] at hq
       obtain ⟨rfl,S',β',hr'⟩:=he'
       show Exit.inBlock id _ (.exit id) a' w'
       simp only[Exit.inBlock,if_true]
       exact h2 u Γ S' β' a' w' hr' q hq
     | inr t =>
       simp only[cN,cO,aF] at hq
       subst hq
       obtain ⟨h1e,S',β',hr'⟩:=he'
       have h1e:e=(ab t).1.out:=h1e
       have aEb:Post Γ n go ab (.inl t) e a' w':=⟨h1e,S',β',hr'⟩
       cases hx:(ab t).1 with
       | ret =>
         rw[hx] at h1e
         subst h1e
         exact aEb
       | exit id' =>
         rw[hx] at h1e
         subst h1e
         show Exit.inBlock id _ (.exit id') a' w'
         simp only[Exit.inBlock]
         rw[aG (fun e=>hid t (by rw[hx,e]))]
         exact aEb
   | inr u =>
     simp only[cN,cO] at hq
     obtain ⟨rfl,S',β',hr'⟩:=he'
     exact h2 u Γ S' β' a' w' hr' q hq
theorem aA4 {body:Code} {hd:T→St} {f:T→Option (A ⊕ T)} {Γ:nG} {go:U→St} (hb:∀ t,Ref P n [body] (hd t) (f t) hd ab) :
 ∀ (k:Nat) (t:T) (x:A) (S:Mem) (β:eB) (a:Act) (w:World),RR Γ S β a w n (hd t)→iter k f t=some x→Code.rounds P body (Post Γ n go ab (.inl x)) k a w
 | 0,t,x,S,β,a,w,hr,h=>by cases h
 | k+1,t,x,S,β,a,w,hr,h=>by
   unfold iter at h
   rw[rounds_succ]
   cases hf:f t with
   | none=>rw[hf] at h;cases h
   | some z =>
     rw[hf] at h
     refine Code.wp_mono (fun e a' w' he=>?_) (hb t Γ S β a w hr z hf)
     have he':Post Γ n hd ab z e a' w':=by
      cases e <;> exact he
     cases z with
     | inl y =>
       simp only[aF] at h
       subst h
       obtain ⟨h1e,S',β',hr'⟩:=he'
       have aEb:Post Γ n go ab (.inl y) e a' w':=⟨h1e,S',β',hr'⟩
       cases hx:(ab y).1 <;> (rw[hx] at h1e;subst h1e;exact aEb)
     | inr t' =>
       obtain ⟨rfl,S',β',hr'⟩:=he'
       exact aA4 hb k t' x S' β' a' w' hr' h
theorem Ref.loop {body:Code} {hd:U→St} {f:U→Option (A ⊕ U)} (k:Nat) (t0:U) (h0:hd t0=st) (hb:∀ t,Ref P n [body] (hd t) (f t) hd ab) :
 Ref P n (.loop body::cs) st ((iter k f t0).map .inl) go ab:=by
 intro Γ S β a w hr q hq
 cases hi:iter k f t0 with
 | none=>rw[hi] at hq;cases hq
 | some x =>
   rw[hi] at hq
   simp only[aQ,aF] at hq
   subst hq
   subst h0
   refine Code.wp_mono (fun e a' w' he=>?_) (wp_loop_rounds k (aA4 (go:=go) hb k t0 x S β a w hr hi))
   obtain ⟨h1e,S',β',hr'⟩:=he
   have aEb:Post Γ n go ab (.inl x) e a' w':=⟨h1e,S',β',hr'⟩
   cases hx:(ab x).1 <;> (rw[hx] at h1e;subst h1e;exact aEb)
end
end Go.Dl

namespace Go.Dl
variable [fT]
inductive fF {α β:Type} (R:α→β→Prop):List α→List β→Prop where
 | nil:fF R [] []
 | cons {a:α} {b:β} {l:List α} {l':List β}:R a b→fF R l l'→fF R (a::l) (b::l')
theorem fF.length_eq {α β:Type} {R:α→β→Prop}:∀ {l:List α} {l':List β},fF R l l'→l.length=l'.length
 | _,_,.nil=>rfl
 | _,_,.cons _ h=>by simp [h.length_eq]
def eU (c c':C):Prop:=∀ S β v,dN S β c v→dN S β c' v
def gB (d d':D):Prop:=∀ S β v,eI S β d v→eI S β d' v
def OLe (x x':Obj):Prop:=x.live=x'.live∧∀ S β w o,tC S β w o x→tC S β w o x'
def aME (n:Nat) (st cR:St):Prop:=∀ Γ S β a w,RR Γ S β a w n st→RR Γ S β a w n cR
section
variable {P:Program} {n:Nat} {A T U:Type} {go:T→St} {ab:A→Ex × St} {st cR:St} {m:Option (A ⊕ T)} {cs:List Code}
theorem eU.refl (c:C):eU c c:=fun _ _ _ h=>h
theorem eU.tree {w m m':Nat} {g g':Nat→Nat→C} (hm:m=m') (h:∀ i j,i<m→j<w→eU (g i j) (g' i j)):eU (.tree w m g) (.tree w m' g'):=by
 subst hm
 rintro S β v ⟨a,cap,h1,h2,h3,h4⟩
 refine ⟨a,cap,h1,h2,h3,?_⟩
 rcases h4 with h4 | ⟨b,off,h5,h6⟩
 ·exact .inl h4
 ·refine .inr ⟨b,off,h5,fun i j hi hj=>?_⟩
  obtain ⟨u,hu,hr⟩:=h6 i j hi hj
  exact ⟨u,hu,h i j hi hj _ _ _ hr⟩
theorem OLe.row {e w m m':Nat} {g g':Nat→Nat→C} (hm:m=m') (h:∀ i j,i<m→j<w→eU (g i j) (g' i j)):OLe (.row e w m g) (.row e w m' g'):=by
 subst hm
 refine ⟨rfl,fun S β ww o ho=>?_⟩
 rcases ho with ho | ⟨k,h1,h2,h3,h4,h5,h6,cur,h7,h8,h9⟩
 ·exact .inl ho
 ·refine .inr ⟨k,h1,h2,h3,h4,h5,h6,cur,h7,h8,fun i j hi hj=>?_⟩
  obtain ⟨u,hu,ho1,hr⟩:=h9 i j hi hj
  exact ⟨u,hu,ho1,h i j hi hj _ _ _ hr⟩
theorem OLe.cells {l l':List C} (h:fF eU l l'):OLe (.cells l) (.cells l'):=by
 refine ⟨rfl,fun S β ww o ho=>?_⟩
 obtain ⟨k,h1,h2,h3,h4,us,h5,h6,h7⟩:=ho
 refine ⟨k,h1,by rw[h2,h.length_eq],h3,h4,us,h5,?_,h7⟩
 clear h2 h5 h7
 induction h generalizing us with
 | nil=>exact h6
 | cons hc _ ih =>
   obtain ⟨v,r,rfl,q1,q2⟩:=h6
   exact ⟨v,r,rfl,hc _ _ _ q1,ih r q2⟩
end
end Go.Dl

namespace Go.Dl
variable [fT]
def Mof (β:eB) (xs:List Obj):Nat→Prop:=fun b=>∃ o k x,xs[o]? = some x∧x.live=true∧β o=some (some k)∧k.b=b
theorem Core.inv {Γ:nG} {S:Mem} {β:eB} {w:World} {xs:List Obj} (h:Core Γ S β w xs):fT.I w :=
 fT.keep _ _ h.frame.size (fun b hb=>h.frame.block b (Nat.lt_of_lt_of_le hb (fT.size _ h.frame.inv)) fun hM=>absurd (h.frame.aGe b hM) (by omega)) h.frame.inv
theorem Core.aRM {Γ:nG} {S:Mem} {β:eB} {w:World} {xs:List Obj} (h:Core Γ S β w xs):∀ b,Mof β xs b→fT.N≤b:=by
 rintro b ⟨o,k,x,hx,hl,hk,rfl⟩
 have hm:=(h.mine o k x hx hl hk).2
 have hz:=fT.size _ h.frame.inv
 rcases bI k.b Γ.w.heap.size with h1 | h1
 ·exact h.frame.aGe _ (hm h1)
 ·omega
def cQ (P:Program) (f:FuncId) {R:Type} (args:List D) (xs:List Obj) (m:Option R) (res:R→D) (out:R→List Obj):Prop :=
 ∀ S β w vs,Core ⟨S,w,Mof β xs,β⟩ S β w xs→iY S β args vs→∀ r,m=some r →
   Calls P f vs.toArray w fun e w'=>∃ v S' β',e = .returned v∧eI S' β' (res r) v∧(∀ o k,o<xs.length→β o=some k→β' o=some k)∧Core ⟨S,w,Mof β xs,β⟩ S' β' w' (out r)
def b5 {R:Type} (m:Option (R ⊕ R)):Option R :=
 match m with
 | none=>none
 | some (.inl r)=>some r
 | some (.inr r)=>some r
def gT:List D→Nat→List (Nat × D)
 | [],_=>[]
 | d::ds,i=>(i,d)::gT ds (i+1)
def vG (a:Act):ResultVar→Sem Value
 | .tmp t=>pure (a.tmps.getD t undef)
 | .cell q t=>do loadVar t (← asAddr (a.tmps.getD q undef))
def aLn (P:Program) (st:St):ResultVar→Option D
 | .tmp t=>some (st.get t)
 | .cell q t =>
   bif (P.underlying t).isSome then
    (match st.get q with
    | .c (.ptr o i j)=>(aAo P t (.c (.ptr o i j)) st.cZ).map fun r=>r.2.1
    | _=>none)
   else none
def aBq (P:Program) (st:St):List ResultVar→Option (List D1)
 | []=>some []
 | v::r=>(match (aLn P st v).bind D1.ofD,aBq P st r with
   | some d,some l=>some (d::l)
   | _,_=>none)
def aQn (P:Program) (st:St) (rs:List ResultVar):Option D :=
 match rs with
 | [v]=>aLn P st v
 | rs=>(aBq P st rs).map .lG
section
variable {P:Program} {n:Nat}
theorem aGq:∀ (ds:List D) (i t:Nat),eC (D.c .bot) (gT ds i) t=if i≤t∧t<i+ds.length then ds.getD (t - i) (.c .bot) else .c .bot
 | [],i,t=>by simp only[gT,eC,aD];rw[aG (by omega)]
 | d::ds,i,t=>by
   simp only[gT,eC,aC]
   cases hb:Nat.beq i t with
   | true =>
     have:=aP hb
     subst this
     rw[cond_true,aJ (by omega)]
     simp
   | false =>
     have hne:i≠t:=by
      intro e
      subst e
      simp at hb
     rw[cond_false,aGq ds (i+1) t]
     by_cases h:i+1≤t∧t<i+1+ds.length
     ·rw[aJ h,aJ (by omega),show t - i=(t - (i+1))+1 by omega,List.getD_cons_succ]
     ·rw[aG h,aG (by omega)]
theorem iY.get {S:Mem} {β:eB}:∀ {ds:List D} {vs:List Value},iY S β ds vs→vs.length=ds.length∧∀ (i:Nat) (d:D),ds[i]? = some d→∃ v,vs[i]? = some v∧eI S β d v
 | [],_,h=>by obtain rfl:=h;exact ⟨rfl,fun i d hd=>by simp at hd⟩
 | _::_,_,⟨v,r,h1,h2,h3⟩=>by
   subst h1
   obtain ⟨hl,hg⟩:=iY.get h3
   refine ⟨by simp [hl],fun i d hd=>?_⟩
   cases i with
   | zero=>simp only[List.getElem?_cons_zero,aF] at hd;subst hd;exact ⟨v,rfl,h2⟩
   | succ i=>simp only[List.getElem?_cons_succ] at hd ⊢;exact hg i d hd
theorem aB5 {Γ:nG} {S:Mem} {β:eB} {a:Act} {w:World} {st:St} (h:RR Γ S β a w n st) (hg:st.gd=[]) {v:ResultVar} {d:D} (hv:aLn P st v=some d) :
 ∃ u,(vG a v).run P w = .ok u w∧eI S β d u:=by
 have tm:∀ t,eI S β (st.get t) (a.tmps.getD t undef):=fun t=>h.tm t (by unfold St.oU;rw[hg];intro q hq;cases hq)
 cases v with
 | tmp t =>
   simp only[aLn,aF] at hv
   subst hv
   exact ⟨_,rfl,tm t⟩
 | cell q t =>
   simp only[aLn] at hv
   obtain ⟨hu,hv⟩:=cK hv
   split at hv
   ·rename_i o i j hq
    cases he:aAo P t (.c (.ptr o i j)) st.cZ with
    | none=>rw[he] at hv;cases hv
    | some r =>
      rw[he] at hv
      simp only[aQ,aF] at hv
      subst hv
      have hq':=tm q
      rw[hq] at hq'
      obtain ⟨u,hrun,hd,_⟩:=yY (vs:=r.1) (d':=r.2.1) (xs':=r.2.2) (bL.1 hu) h.core hq' he
      refine ⟨u,?_,hd⟩
      have hr:=hrun w (.inr (Up.refl w))
      obtain ⟨k,_,_,_,hp⟩:=hq'
      rw[hp] at hr
      simp only[vG,hp]
      exact hr
   ·cases hv
theorem aB6 {Γ:nG} {S:Mem} {β:eB} {a:Act} {w:World} {st:St} (h:RR Γ S β a w n st) (hg:st.gd=[]):∀ {rs:List ResultVar} {l:List D1},aBq P st rs=some l →
 ∃ us,(rs.mapM (vG a)).run P w = .ok us w∧tB S β l us∧us.length=rs.length
 | [],l,hl=>by
   simp only[aBq,aF] at hl
   subst hl
   exact ⟨[],rfl,rfl,rfl⟩
 | v::r,l,hl=>by
   unfold aBq at hl
   split at hl
   ·rename_i d l' hd hr
    simp only[aF] at hl
    subst hl
    obtain ⟨us,h1,h2,h3⟩:=aB6 h hg hr
    cases hv:aLn P st v with
    | none=>rw[hv] at hd;cases hd
    | some dd =>
      rw[hv,aA] at hd
      obtain ⟨u,hu,hdu⟩:=aB5 h hg hv
      refine ⟨u::us,?_,⟨_,_,rfl,?_,h2⟩,by simp [h3]⟩
      ·rw[List.mapM_cons,Sem.run_bind,hu,Result.andThen_ok,Sem.run_bind,h1]
       rfl
      ·cases dd with
       | c x=>simp only[D1.ofD,aF] at hd;subst hd;exact hdu
       | agg x=>simp only[D1.ofD,aF] at hd;subst hd;exact hdu
       | lG x=>cases hd
   ·cases hl
theorem aGr {fn:Func} {v:ResultVar} (hrs:fn.results = #[v]) (a:Act) (w:World) {u:Value} (hu:(vG a v).run P w = .ok u w):(results fn a.tmps).run P w = .ok u w:=by
 have hres:results fn a.tmps=(do
  let vs ← fn.results.mapM (vG a)
  pure (if h:vs.size=1 then vs[0] else .tuple vs)):=by
  unfold results
  congr 1
 rw[hres,hrs,Sem.run_bind,Array.mapM_eq_mapM_toList,Sem.run_map]
 show (((List.mapM (vG a) [v]).run P w).andThen _).andThen _=_
 rw[List.mapM_cons,Sem.run_bind,hu]
 rfl
theorem aIw {Γ:nG} {S:Mem} {β:eB} {a:Act} {w:World} {st:St} (h:RR Γ S β a w n st) (hg:st.gd=[]) {fn:Func} {d:D} (hr:aQn P st fn.results.toList=some d) :
 ∃ v,(results fn a.tmps).run P w = .ok v w∧eI S β d v:=by
 unfold aQn at hr
 split at hr
 ·rename_i t ht
  have hrs:fn.results = #[t]:=by apply Array.ext';simpa using ht
  obtain ⟨u,hu,hd⟩:=aB5 h hg hr
  exact ⟨u,aGr hrs a w hu,hd⟩
 ·rename_i rs hne
  cases hl:aBq P st fn.results.toList with
  | none=>rw[hl] at hr;cases hr
  | some l =>
    rw[hl] at hr
    simp only[aQ,aF] at hr
    subst hr
    obtain ⟨us,h1,h2,h3⟩:=aB6 (P:=P) h hg hl
    refine ⟨.tuple us.toArray,?_,us,rfl,h2⟩
    have hres:results fn a.tmps=(do
     let vs ← fn.results.mapM (vG a)
     pure (if h:vs.size=1 then vs[0] else .tuple vs)):=by
     unfold results
     congr 1
    rw[hres,Sem.run_bind]
    have:(fn.results.mapM (vG a)).run P w = .ok us.toArray w:=by
     rw[Array.mapM_eq_mapM_toList,Sem.run_map,h1]
     rfl
    rw[this,Result.andThen_ok]
    rw[dif_neg]
    ·rfl
    ·intro hone
     have hlen:fn.results.toList.length=1:=by rw[← h3];simpa using hone
     obtain ⟨x,hx⟩:=List.length_eq_one_iff.1 hlen
     exact hne x hx
theorem cQ.intro {f:FuncId} {fn:Func} {c:Code} {R:Type} {args:List D} {xs:List Obj} {m:Option (R ⊕ R)} {rs:R→St} {res:R→D} {out:R→List Obj}
 (hf:P.funcs[f]? = some fn) (hb:fn.body=some c) (hn:Nat.ble args.length fn.ntmps=true)
 (aS4:Ref P fn.ntmps [c] ⟨gT args 0,xs,[],xs.length⟩ m rs (fun r=>(.ret,rs r)))
 (hres:∀ r,aQn P (rs r) fn.results.toList=some (res r)) (hout:∀ r,(rs r).cZ=out r) (hgd:∀ r,(rs r).gd=[]) (hh:∀ r,(rs r).h=xs.length) :
 cQ P f args xs (b5 m) res out:=by
 intro S β w vs hc hv r hr
 have hn:=bP hn
 obtain ⟨hvl,hvg⟩:=hv.get
 refine calls_of_wp hf hb ?_
 have hstart:RR ⟨S,w,Mof β xs,β⟩ S β { tmps:=vs.toArray++Array.replicate (fn.ntmps - vs.toArray.size) undef,defers:=[] } w fn.ntmps ⟨gT args 0,xs,[],xs.length⟩:=by
  refine ⟨hc,fun t _=>?_,fun t ht=>absurd (fun q hq=>by cases hq) ht,by simp;omega,rfl,fun o k _ h=>h⟩
  unfold St.get
  simp only
  rw[aGq]
  by_cases ht:t<args.length
  ·rw[aJ (by omega)]
   obtain ⟨u,hu,hru⟩:=hvg t _ (aN ht)
   have e1:args.getD (t - 0) (.c .bot)=args[t]:=by simp [List.getD,aN ht]
   have e2:(vs.toArray++Array.replicate (fn.ntmps - vs.toArray.size) undef).getD t undef=u:=by
    rw[bB,Array.getElem?_append_left (by simp;omega)]
    simp [hu]
   rw[e1,e2];exact hru
  ·rw[aG (by omega)];trivial
 have key:∀ z,m=some z→(match z with | .inl r=>r | .inr r=>r)=r→c.wp P (bodyPost P fn fun e w'=>∃ v S' β',e = .returned v∧eI S' β' (res r) v∧(∀ o k,o<xs.length→β o=some k→β' o=some k)∧Core ⟨S,w,Mof β xs,β⟩ S' β' w' (out r))
  { tmps:=vs.toArray++Array.replicate (fn.ntmps - vs.toArray.size) undef,defers:=[] } w:=by
  intro z hz hzr
  refine Code.wp_mono (fun e a' w' he=>?_) (aS4 _ S β _ w hstart z hz)
  have he':Post ⟨S,w,Mof β xs,β⟩ fn.ntmps rs (fun r=>(.ret,rs r)) z e a' w':=by
   cases e <;> exact he
  have fin:∀ r',r'=r→(∃ S' β',RR ⟨S,w,Mof β xs,β⟩ S' β' a' w' fn.ntmps (rs r'))→a'.defers=[]∧∃ v,(results fn a'.tmps).run P w' = .ok v w' ∧
   ∃ v' S' β',Ending.returned v = .returned v'∧eI S' β' (res r) v'∧(∀ o k,o<xs.length→β o=some k→β' o=some k)∧Core ⟨S,w,Mof β xs,β⟩ S' β' w' (out r):=by
   rintro r' rfl ⟨S',β',hr'⟩
   obtain ⟨v,hv1,hv2⟩:=aIw (P:=P) hr' (hgd r') (hres r')
   refine ⟨hr'.defers,v,hv1,v,S',β',rfl,hv2,fun o k ho hk=>hr'.hand o k (by rw[hh r'];exact ho) hk,?_⟩
   rw[← hout r'];exact hr'.core
  cases z with
  | inl r' =>
    obtain ⟨rfl,hex⟩:=he'
    exact fin r' hzr hex
  | inr r' =>
    obtain ⟨rfl,hex⟩:=he'
    exact fin r' hzr hex
 cases m with
 | none=>cases hr
 | some z =>
   cases z with
   | inl r'=>simp only[b5,aF] at hr;subst hr;exact key _ rfl rfl
   | inr r'=>simp only[b5,aF] at hr;subst hr;exact key _ rfl rfl
end
end Go.Dl

namespace Go.Dl
variable [fT]
def aAr (om:List Nat) (base i:Nat):Nat:=(om[i]?).getD (base+(i - om.length))
def C.s6 (om:List Nat) (base:Nat):C→C
 | .own o n=>.own (aAr om base o) n
 | .ptr o i j=>.ptr (aAr om base o) i j
 | .self t b o=>.self t b (aAr om base o)
 | .opt b c=>.opt b (c.s6 om base)
 | .iface b t c=>.iface b t (c.s6 om base)
 | .cond b c=>.cond b (c.s6 om base)
 | .func fn k cap =>
   let l:=(List.range k).map fun i=>(cap i).s6 om base
   .func fn k fun i=>l.getD i .bot
 | c=>c
def D1.s6 (om:List Nat) (base:Nat):D1→D1
 | .c x=>.c (x.s6 om base)
 | .agg l=>.agg (l.map (C.s6 om base))
def D.s6 (om:List Nat) (base:Nat):D→D
 | .c x=>.c (x.s6 om base)
 | .agg l=>.agg (l.map (C.s6 om base))
 | .lG l=>.lG (l.map (D1.s6 om base))
def Obj.s6 (om:List Nat) (base:Nat):Obj→Obj
 | .cells l=>.cells (l.map (C.s6 om base))
 | x=>x
def vH (om:List Nat) (base:Nat) (out:List Obj):List Obj→Nat→List Obj
 | [],_=>[]
 | x::r,o=>((iS o om 0).elim x fun i=>(out.getD i .dead).s6 om base)::vH om base out r (o+1)
def pP (om:List Nat) (out:List Obj) (xs:List Obj):List Obj :=
 vH om xs.length out xs 0++(out.drop om.length).map (Obj.s6 om xs.length)
def aKf (k:Nat) (cap:Nat→C):List D:=(List.range k).map fun i=>.c (cap i)
def y7 (st:St) (x:Operand) (args:List Operand) (om:List Nat):Option (FuncId × List D) :=
 match (st.see []).lv x with
 | .c (.func (.func f) k cap)=>some (f,(args.map (st.see []).lv).map (D.lE om)++(aKf k cap).map (D.lE om))
 | _=>none
def jB (st:St) (om:List Nat):List Obj:=om.map fun o=>(st.cZ.getD o .dead).lE om
def nX (P:Program) (f:FuncId):Bool :=
 match P.funcs[f]? with
 | some fn=>!(fn.name == "runtime.NumGoroutine") && fn.body.isSome
 | none=>false
section
variable {P:Program} {n:Nat} {A T R:Type} {go:T→St} {ab:A→Ex × St} {st:St} {cs:List Code}
theorem oX {f:FuncId} (h:nX P f=true) (vs:Array Value) (w:World):(callFunc f vs).run P w = .ok (.enter f vs) w:=by
 unfold nX at h
 unfold callFunc
 rw[Sem.run_bind,run_program,Result.andThen_ok]
 cases hf:P.funcs[f]? with
 | none=>rw[hf] at h;cases h
 | some fn =>
   rw[hf] at h
   simp only[aK,Bool.not_eq_true'] at h
   obtain ⟨h1,h2⟩:=h
   have h3:fn.body.isNone=false:=by cases hb:fn.body <;> simp_all
   simp only[h1,h3,aE,if_false]
   rfl
theorem iY.append {S:Mem} {β:eB}:∀ {l m:List D} {us vs:List Value},iY S β l us→iY S β m vs→iY S β (l++m) (us++vs)
 | [],_,_,_,h,k=>by obtain rfl:=h;exact k
 | _::_,_,_,_,⟨v,r,h1,h2,h3⟩,k=>by subst h1;exact ⟨v,r++_,rfl,h2,iY.append h3 k⟩
theorem iY.lE {S:Mem} {β:eB} {om:List Nat}:∀ {l:List D} {us:List Value},iY S β l us→iY S (iT β om) (l.map (D.lE om)) us
 | [],_,h=>h
 | _::_,_,⟨v,r,h1,h2,h3⟩=>⟨v,r,h1,D.nP h2,iY.lE h3⟩
theorem y8 {S:Mem} {β:eB} {fn:Fn} {k:Nat} {cap:Nat→C} {v:Value} (h:dN S β (.func fn k cap) v):∃ vs:Array Value,v = .func fn #[] vs∧iY S β (aKf k cap) vs.toList:=by
 obtain ⟨vs,h1,h2,h3⟩:=h
 refine ⟨vs,h1,?_⟩
 unfold aKf
 have key:∀ (l:List Nat) (us:List Value),us.length=l.length→(∀ (i j:Nat),l[i]? = some j→∃ u,us[i]? = some u∧dN S β (cap j) u)→iY S β (l.map fun i=>D.c (cap i)) us:=by
  intro l
  induction l with
  | nil=>intro us hl _;simpa [iY] using hl
  | cons x r ih =>
    intro us hl hh
    cases us with
    | nil=>simp at hl
    | cons u us =>
      refine ⟨u,us,rfl,?_,ih us (by simpa using hl) fun i j hij=>?_⟩
      ·obtain ⟨u',hu',hr⟩:=hh 0 x rfl
       simp only[List.getElem?_cons_zero,aF] at hu'
       subst hu';exact hr
      ·obtain ⟨u',hu',hr⟩:=hh (i+1) j (by simpa using hij)
       exact ⟨u',by simpa using hu',hr⟩
 refine key _ _ (by simp [h2]) fun i j hij=>?_
 have hi:i<k:=by
  rcases bI i k with h | h
  ·exact h
  ·rw[aZ (by simpa using h)] at hij;cases hij
 rw[List.getElem?_range hi] at hij
 simp only[aF] at hij
 subst hij
 have hlt:i<vs.size:=by omega
 refine ⟨vs[i],by simp [hlt],?_⟩
 have:=h3 i hi
 rwa [bB,Array.getElem?_eq_getElem hlt,bW] at this
theorem iY.aEY {Γ:nG} {S:Mem} {β:eB} {a:Act} {w:World} (h:RR Γ S β a w n st):∀ (l:List Operand),iY S β (l.map (st.see []).lv) (l.map a.eval)
 | []=>rfl
 | x::l=>⟨_,_,rfl,j7 h (fun q hq=>by cases hq) x,iY.aEY h l⟩
def aB7 (β:eB) (om:List Nat) (base:Nat) (βc:eB):eB:=fun o =>
 match iS o om 0 with
 | some i=>βc i
 | none=>if o<base then β o else βc (om.length+(o - base))
theorem aAs:∀ {om:List Nat} {i k o:Nat},pO om=true→om[i]? = some o→iS o om k=some (k+i)
 | [],i,k,o,_,h=>by simp at h
 | x::r,i,k,o,hn,h=>by
   unfold iS
   cases i with
   | zero =>
     simp only[List.getElem?_cons_zero,aF] at h
     subst h
     simp
   | succ i =>
     simp only[List.getElem?_cons_succ] at h
     have hne:Nat.beq x o=false:=by
      cases hb:Nat.beq x o with
      | false=>rfl
      | true =>
        have:=aP hb
        subst this
        have:=xQ hn (i:=0) (j:=i+1) (o:=x) (by simp) (by simpa using h)
        omega
     simp only[pO,aK] at hn
     rw[hne,cond_false,aAs hn.2 h]
     congr 1
     omega
theorem aA5 {om:List Nat} {o:Nat} (oY:∀ x∈om,x≠o) (k:Nat):iS o om k=none:=by
 induction om generalizing k with
 | nil=>rfl
 | cons x r ih =>
   unfold iS
   have hne:Nat.beq x o=false:=by
    cases hb:Nat.beq x o with
    | false=>rfl
    | true=>exact absurd (aP hb) (oY x (by simp))
   rw[hne,cond_false]
   exact ih (fun y hy=>oY y (by simp [hy])) _
theorem aEZ {β:eB} {om:List Nat} {base:Nat} {βc:eB} (hn:pO om=true) (hlt:∀ x∈om,x<base) (i:Nat):aB7 β om base βc (aAr om base i)=βc i:=by
 unfold aB7 aAr
 cases ho:om[i]? with
 | some o =>
   simp only[bW]
   rw[aAs hn ho]
   simp
 | none =>
   simp only[Option.getD_none]
   have hge:om.length≤i:=by
    rcases bI i om.length with h | h
    ·rw[aN h] at ho;cases ho
    ·exact h
   rw[aA5 (fun x hx=>by have:=hlt x hx;omega)]
   simp only
   rw[aG (by omega)]
   congr 1
   omega
theorem C.nQ {S:Mem} {β βc:eB} {om:List Nat} {base:Nat} (hb:∀ i,β (aAr om base i)=βc i):∀ {c:C} {v:Value},dN S βc c v→dN S β (c.s6 om base) v:=by
 intro c
 induction c with
 | own o m=>intro v hv;simp only[C.s6,dN,hb] at hv ⊢;exact hv
 | ptr o i j=>intro v hv;simp only[C.s6,dN,hb] at hv ⊢;exact hv
 | self t b o=>intro v hv;simp only[C.s6,dN,hb] at hv ⊢;exact hv
 | opt b c ih =>
   intro v hv
   simp only[C.s6,dN] at hv ⊢
   split at hv
   ·rename_i h;rw[aJ h];exact ih hv
   ·rename_i h;rw[aG h];exact hv
 | iface b t c ih =>
   intro v hv
   simp only[C.s6,dN] at hv ⊢
   split at hv
   ·rename_i h;rw[aJ h];obtain ⟨u,hu,hr⟩:=hv;exact ⟨u,hu,ih hr⟩
   ·rename_i h;rw[aG h];exact hv
 | func fn k cap ih =>
   rintro v ⟨vs,h1,h2,h3⟩
   refine ⟨vs,h1,h2,fun i hi=>?_⟩
   have:(((List.range k).map fun i=>(cap i).s6 om base).getD i .bot)=(cap i).s6 om base:=by
    simp [List.getD,hi]
   show dN S β (((List.range k).map fun i=>(cap i).s6 om base).getD i .bot) _
   rw[this]
   exact ih i (h3 i hi)
 | cond b c ih =>
   intro v hv hbb
   exact ih (hv hbb)
 | _=>intro v hv;exact hv
theorem D1.nQ {S:Mem} {β βc:eB} {om:List Nat} {base:Nat} (hb:∀ i,β (aAr om base i)=βc i) {d:D1} {v:Value} (h:lO S βc d v):lO S β (d.s6 om base) v:=by
 cases d with
 | c x=>exact C.nQ hb h
 | agg l=>obtain ⟨vs,h1,h2⟩:=h;exact ⟨vs,h1,h2.map _ fun _ _ h=>C.nQ hb h⟩
theorem D.nQ {S:Mem} {β βc:eB} {om:List Nat} {base:Nat} (hb:∀ i,β (aAr om base i)=βc i) {d:D} {v:Value} (h:eI S βc d v):eI S β (d.s6 om base) v:=by
 cases d with
 | c x=>exact C.nQ hb h
 | agg l=>obtain ⟨vs,h1,h2⟩:=h;exact ⟨vs,h1,h2.map _ fun _ _ h=>C.nQ hb h⟩
 | lG l=>obtain ⟨vs,h1,h2⟩:=h;exact ⟨vs,h1,h2.map _ fun _ _ h=>D1.nQ hb h⟩
theorem aGs {x:Obj} {om:List Nat} {base:Nat}:(x.s6 om base).live=x.live:=by cases x <;> rfl
theorem tC.s6 {S:Mem} {β βc:eB} {w:World} {om:List Nat} {base i:Nat} (hb:∀ i,β (aAr om base i)=βc i) {x:Obj} (h:tC S βc w i x):tC S β w (aAr om base i) (x.s6 om base):=by
 cases x with
 | dead=>trivial
 | cells l =>
   obtain ⟨k,h1,h2,h3,h4,vs,h5,h6,h7⟩:=h
   exact ⟨k,by rw[hb];exact h1,by rw[h2];simp,h3,h4,vs,h5,h6.map _ fun _ _ h=>C.nQ hb h,h7⟩
 | aEM e bs =>
   obtain ⟨k,h1,h2⟩:=h
   exact ⟨k,by rw[hb];exact h1,h2⟩
 | row e wd m get =>
   rcases h with ⟨h1,h2⟩ | ⟨k,h1,h2⟩
   ·exact .inl ⟨by rw[hb];exact h1,h2⟩
   ·exact .inr ⟨k,by rw[hb];exact h1,h2⟩
theorem lR {om:List Nat} {base:Nat} {out:List Obj}:∀ (xs:List Obj) (o:Nat),(vH om base out xs o).length=xs.length
 | [],_=>rfl
 | _::r,o=>by simp [vH,lR r (o+1)]
theorem aB8 {om:List Nat} {base:Nat} {out:List Obj}:∀ (xs:List Obj) (o q:Nat),(vH om base out xs o)[q]? = (xs[q]?).map fun x=>(iS (o+q) om 0).elim x fun i=>(out.getD i .dead).s6 om base
 | [],_,_=>by simp [vH]
 | x::r,o,0=>by simp [vH]
 | x::r,o,q+1=>by
   simp only[vH,List.getElem?_cons_succ]
   rw[aB8 r (o+1) q,show o+1+q=o+(q+1) by omega]
theorem nH {om:List Nat} {out xs:List Obj} (hlt:∀ x∈om,x<xs.length) {q:Nat} {y:Obj} (h:(pP om out xs)[q]? = some y) (hl:y.live=true) :
 (∃ i x,out[i]? = some x∧q=aAr om xs.length i∧y=x.s6 om xs.length∧x.live=true∧(i<om.length∨om.length≤i))∨(iS q om 0=none∧xs[q]? = some y∧q<xs.length):=by
 unfold pP at h
 rcases bI q xs.length with hq | hq
 ·rw[List.getElem?_append_left (by rw[lR];exact hq),aB8,Nat.zero_add] at h
  cases hx:xs[q]? with
  | none=>rw[hx] at h;cases h
  | some x =>
    rw[hx] at h
    simp only[aQ,aF] at h
    cases hi:iS q om 0 with
    | none =>
      rw[hi] at h
      simp only[Option.elim] at h
      subst h
      exact .inr ⟨rfl,rfl,hq⟩
    | some i =>
      rw[hi] at h
      simp only[Option.elim] at h
      subst h
      rw[aGs] at hl
      obtain ⟨_,hom⟩:=l7 hi
      simp only[Nat.sub_zero] at hom
      cases ho:out[i]? with
      | none=>simp [List.getD,ho,Obj.live] at hl
      | some x' =>
        left
        have hgd:out.getD i .dead=x':=by simp [List.getD,ho]
        rw[hgd] at hl
        refine ⟨i,x',ho,by simp [aAr,hom],by rw[hgd],hl,?_⟩
        rcases bI i om.length with h | h
        ·exact .inl h
        ·exact .inr h
 ·rw[List.getElem?_append_right (by rw[lR];exact hq),lR,bD,List.getElem?_drop] at h
  cases ho:out[om.length+(q - xs.length)]? with
  | none=>rw[ho] at h;cases h
  | some x =>
    rw[ho] at h
    simp only[aQ,aF] at h
    subst h
    rw[aGs] at hl
    left
    refine ⟨om.length+(q - xs.length),x,ho,?_,rfl,hl,.inr (by omega)⟩
    have:om[om.length+(q - xs.length)]? = none:=aZ (by omega)
    simp only[aAr,this,Option.getD_none]
    omega
theorem Core.after {Γ:nG} {S S':Mem} {β βc:eB} {w w':World} {xs out:List Obj} {om:List Nat} (h:Core Γ S β w xs) (hn:pO om=true) (hlt:∀ x∈om,x<xs.length)
 (hc:Core ⟨S,w,Mof (iT β om) (om.map fun o=>(xs.getD o .dead).lE om),iT β om⟩ S' βc w' out) (hB:∀ o k,o<om.length→iT β om o=some k→βc o=some k) :
 Core Γ S' (aB7 β om xs.length βc) w' (pP om out xs)∧mH β (aB7 β om xs.length βc):=by
 have lX:=fun i=>aEZ (β:=β) (βc:=βc) hn hlt i
 -- the blocks that are handed over
 have hM:∀ b,Mof (iT β om) (om.map fun o=>(xs.getD o .dead).lE om) b→∃ o k x,o∈om∧xs[o]? = some x∧x.live=true∧β o=some (some k)∧k.b=b:=by
  rintro b ⟨i,k,y,hy,hl,hk,hb⟩
  rw[bD] at hy
  cases ho:om[i]? with
  | none=>rw[ho] at hy;cases hy
  | some o =>
    rw[ho] at hy
    simp only[aQ,aF] at hy
    subst hy
    rw[aGp] at hl
    cases hx:xs[o]? with
    | none=>simp [List.getD,hx,Obj.live] at hl
    | some x =>
      refine ⟨o,k,x,List.mem_of_getElem? ho,hx,by simpa [List.getD,hx] using hl,?_,hb⟩
      simpa [iT,ho] using hk
 have hMΓ:∀ b,b<Γ.w.heap.size→¬ Γ.M b→¬ Mof (iT β om) (om.map fun o=>(xs.getD o .dead).lE om) b:=by
  intro b hb hnm hm
  obtain ⟨o,k,x,_,hx,hl,hk,rfl⟩:=hM b hm
  exact hnm ((h.mine o k x hx hl hk).2 hb)
 -- an object that is not handed over keeps its block
 have aE0:∀ o k x,iS o om 0=none→xs[o]? = some x→x.live=true→β o=some (some k)→¬ Mof (iT β om) (om.map fun o=>(xs.getD o .dead).lE om) k.b:=by
  intro o k x hi hx hl hk hm
  obtain ⟨o',k',x',ho',hx',hl',hk',hb⟩:=hM _ hm
  by_cases e:o'=o
  ·subst e
   obtain ⟨i,hi'⟩:=List.getElem?_of_mem ho'
   rw[aAs hn hi'] at hi
   cases hi
  ·exact h.inj o' o k' k x' x hx' hx hl' hl hk' hk e hb
 have hle:mH β (aB7 β om xs.length βc):=by
  intro o k hk
  unfold aB7
  cases hi:iS o om 0 with
  | some i =>
    obtain ⟨_,hom⟩:=l7 hi
    simp only[Nat.sub_zero] at hom
    have hil:i<om.length:=by
     rcases bI i om.length with h | h
     ·exact h
     ·rw[aZ h] at hom;cases hom
    exact hB i k hil (by simpa [iT,hom] using hk)
  | none =>
    simp only
    rw[aJ]
    ·exact hk
    ·rcases bI o xs.length with h1 | h1
     ·exact h1
     ·rw[h.out o h1] at hk;cases hk
 have hold:∀ o,iS o om 0=none→o<xs.length→aB7 β om xs.length βc o=β o:=by
  intro o hi ho
  unfold aB7
  rw[hi]
  simp only
  rw[aJ ho]
 have aS6:∀ i k x,out[i]? = some x→x.live=true→βc i=some (some k)→k.b<w.heap.size→Mof (iT β om) (om.map fun o=>(xs.getD o .dead).lE om) k.b:=fun i k x hx hl hk=>(hc.mine i k x hx hl hk).2
 refine ⟨⟨?_,hc.holds,?_,?_,?_,?_,?_⟩,hle⟩
 ·refine ⟨hc.frame.os.trans h.frame.os,hc.frame.tape.trans h.frame.tape,hc.frame.output.trans h.frame.output,bV h.frame.size hc.frame.size,fun b hb hnm=>?_,fun b i hb hnm=>?_,h.frame.le.trans hc.frame.le,h.frame.aGe,h.frame.inv⟩
  ·exact (hc.frame.block b (Nat.lt_of_lt_of_le hb h.frame.size) (hMΓ b hb hnm)).trans (h.frame.block b hb hnm)
  ·exact (hc.frame.mem b i (Nat.lt_of_lt_of_le hb h.frame.size) (hMΓ b hb hnm)).trans (h.frame.mem b i hb hnm)
 ·intro q y hy
  cases hl:y.live with
  | false=>cases y <;> first | trivial | cases hl
  | true =>
    rcases nH hlt hy hl with ⟨i,x,hx,rfl,rfl,hxl,_⟩ | ⟨hi,hx,hq⟩
    ·exact (hc.cZ i x hx).s6 lX
    ·exact (h.cZ q y hx).keep hc.frame.le hle fun k hl hk=>hc.frame.block k.b (h.mine q k y hx hl hk).1 (aE0 q k y hi hx hl hk)
 ·intro q hq
  have hlen:(pP om out xs).length=xs.length+(out.length - om.length):=by
   unfold pP
   rw[aB,lR,List.length_map,List.length_drop]
  rw[hlen] at hq
  unfold aB7
  rw[aA5 (fun x hx=>by have:=hlt x hx;omega)]
  simp only
  rw[aG (by omega)]
  exact hc.out _ (by omega)
 ·intro q q' k k' y y' hy hy' hl hl' hk hk' hne
  rcases nH hlt hy hl with ⟨i,x,hx,rfl,rfl,hxl,_⟩ | ⟨hi,hx,hq⟩
  ·rw[lX] at hk
   rcases nH hlt hy' hl' with ⟨i',x',hx',rfl,rfl,aIu,_⟩ | ⟨hi',hx',hq'⟩
   ·rw[lX] at hk'
    exact hc.inj i i' k k' x x' hx hx' hxl aIu hk hk' fun e=>hne (by rw[e])
   ·rw[hold q' hi' hq'] at hk'
    intro e
    have hlt':=(h.mine q' k' y' hx' hl' hk').1
    exact aE0 q' k' y' hi' hx' hl' hk' (e ▸ aS6 i k x hx hxl hk (by omega))
  ·rw[hold q hi hq] at hk
   rcases nH hlt hy' hl' with ⟨i',x',hx',rfl,rfl,aIu,_⟩ | ⟨hi',hx',hq'⟩
   ·rw[lX] at hk'
    intro e
    have hlt':=(h.mine q k y hx hl hk).1
    exact aE0 q k y hi hx hl hk (e ▸ aS6 i' k' x' hx' aIu hk' (by omega))
   ·rw[hold q' hi' hq'] at hk'
    exact h.inj q q' k k' y y' hx hx' hl hl' hk hk' hne
 ·intro q k y hy hl hk j
  rcases nH hlt hy hl with ⟨i,x,hx,rfl,rfl,hxl,_⟩ | ⟨hi,hx,hq⟩
  ·rw[lX] at hk
   exact hc.sep i k x hx hxl hk j
  ·rw[hold q hi hq] at hk
   rw[hc.frame.mem k.b j (h.mine q k y hx hl hk).1 (aE0 q k y hi hx hl hk)]
   exact h.sep q k y hx hl hk j
 ·intro q k y hy hl hk
  rcases nH hlt hy hl with ⟨i,x,hx,rfl,rfl,hxl,_⟩ | ⟨hi,hx,hq⟩
  ·rw[lX] at hk
   refine ⟨(hc.mine i k x hx hxl hk).1,fun hb=>?_⟩
   obtain ⟨o',k',x',_,hx',hl',hk',hb'⟩:=hM _ (aS6 i k x hx hxl hk (Nat.lt_of_lt_of_le hb h.frame.size))
   rw[← hb']
   exact (h.mine o' k' x' hx' hl' hk').2 (by rw[hb'];exact hb)
  ·rw[hold q hi hq] at hk
   have:=h.mine q k y hx hl hk
   exact ⟨Nat.lt_of_lt_of_le this.1 hc.frame.size,this.2⟩
theorem bY.call {ops:Array Oper} {o:Oper} {rest:List Oper} {x:Operand} {args:Array Operand} {w4:Array TypeId} {t:Nat} {f:FuncId} {om:List Nat} {fU:List D} {cxs:List Obj}
 {mc:Option R} {res:R→D} {out:R→List Obj} {m:R→Option (A ⊕ T)}
 (hfun:cQ P f fU cxs mc res out) (hgd:o.guard=none) (ho:o.op = .call ⟨.value x,args,w4⟩) (qE:o.dst=some t)
 (jX:y7 st x args.toList om=some (f,fU)) (aYy:jB st om=cxs) (hf:nX P f=true)
 (hn:(pO om && (om.all (fun o=>Nat.blt o st.cZ.length) && (Nat.blt t n && oH st t)))=true)
 (h:∀ r,bY P n ops rest cs (st.put (some t) ((res r).s6 om st.cZ.length) (pP om (out r) st.cZ) []) (m r) go ab) :
 bY P n ops (o::rest) cs st (mc.bind m) go ab:=by
 intro Γ S β a w hr q hq
 simp only[aK,aW,bJ] at hn
 obtain ⟨hnd,hlt,htn,hfree⟩:=hn
 cases hm:mc with
 | none=>rw[hm] at hq;cases hq
 | some r =>
   rw[hm,aA] at hq
   simp only[wpList,Region.wanted,hgd,if_true]
   left
   unfold y7 at jX
   split at jX
   ·rename_i f' k cap hx
    simp only[aF,aX] at jX
    obtain ⟨rfl,xR⟩:=jX
    have hxr:=j7 hr (g:=[]) (fun q hq=>by cases hq) x
    rw[hx] at hxr
    obtain ⟨vs,hxv,aB9⟩:=y8 hxr
    have hrun:(execOp a.eval o).run P w = .ok (.enter f' (args.map a.eval++vs)) w:=by
     unfold execOp
     rw[ho]
     simp only[resolve,hxv,Deferred.ofValue,pure_bind,invoke]
     rw[oX hf]
     simp
    simp only[Oper.wp,Oper.upon,hrun]
    have hargs:iY S (iT β om) fU (args.map a.eval++vs).toList:=by
     rw[← xR]
     have e:(args.map a.eval++vs).toList=args.toList.map a.eval++vs.toList:=by simp
     rw[e]
     exact (iY.lE (iY.aEY hr args.toList)).append (iY.lE aB9)
    have mM:=hr.core.lE hnd
    subst aYy
    have aIx:Core ⟨S,w,Mof (iT β om) (jB st om),iT β om⟩ S (iT β om) w (jB st om):=by
     refine ⟨⟨rfl,rfl,rfl,aR _,fun _ _ _=>rfl,fun _ _ _ _=>rfl,lP.refl _,mM.aRM,mM.inv⟩,mM.holds,mM.cZ,mM.out,mM.inj,mM.sep,fun o k y hy hl hk=>⟨(mM.mine o k y hy hl hk).1,fun _=>⟨o,k,y,hy,hl,hk,rfl⟩⟩⟩
    have:=hfun S (iT β om) w (args.map a.eval++vs).toList aIx hargs r hm
    have e2:(args.map a.eval++vs).toList.toArray=args.map a.eval++vs:=by simp
    rw[e2] at this
    refine this.mono fun e w' he=>?_
    obtain ⟨v,S',βc,rfl,hres,hB,uU⟩:=he
    obtain ⟨xP,hle⟩:=hr.core.after hnd hlt uU (fun o k ho hk=>hB o k (by simpa [jB] using ho) hk)
    have aMH:eI S' (aB7 β om st.cZ.length βc) ((res r).s6 om st.cZ.length) v:=D.nQ (fun i=>aEZ hnd hlt i) hres
    have hput:=hr.put xP uU.frame.le hle htn hfree (g:=[]) (fun q hq=>by cases hq) (fun _=>aMH) (fun hno=>absurd (fun q hq=>by cases hq) hno)
    rw[qE]
    exact h r Γ S' _ _ w' hput q hq
   ·cases jX
end
end Go.Dl

namespace Go.Dl
variable [fT]
def C.sub (f:C→C):C→C
 | .own o n=>f (.own o n)
 | .ptr o i j=>f (.ptr o i j)
 | .opt b c=>.opt b (c.sub f)
 | .iface b t c=>.iface b t (c.sub f)
 | .cond b c=>.cond b (c.sub f)
 | .func fn k cap =>
   let l:=(List.range k).map fun i=>(cap i).sub f
   .func fn k fun i=>l.getD i .bot
 | c=>c
def D1.sub (f:C→C):D1→D1
 | .c x=>.c (x.sub f)
 | .agg l=>.agg (l.map (C.sub f))
def D.sub (f:C→C):D→D
 | .c x=>.c (x.sub f)
 | .agg l=>.agg (l.map (C.sub f))
 | .lG l=>.lG (l.map (D1.sub f))
def Obj.sub (f:C→C):Obj→Obj
 | .cells l=>.cells (l.map (C.sub f))
 | x=>x
def oI (o w:Nat) (get:Nat→Nat→C):C→C
 | .own o' n=>bif Nat.beq o' o then .tree w n get else .own o' n
 | c=>c
def pQ (o:Nat) (l:List C):C→C
 | .ptr o' i j=>bif Nat.beq o' o then .rI l.length (fun j=>l.getD j .bot) j else .ptr o' i j
 | c=>c
def St.freeze (st:St) (o:Nat):Option St :=
 match st.cZ[o]? with
 | some (.row _ w _ get)=>some ⟨st.tmps.map fun p=>(p.1,p.2.sub (oI o w get)),(st.cZ.set o .dead).map (Obj.sub (oI o w get)),st.gd,st.h⟩
 | some (.cells l)=>bif l.all C.shut then some ⟨st.tmps.map fun p=>(p.1,p.2.sub (pQ o l)),(st.cZ.set o .dead).map (Obj.sub (pQ o l)),st.gd,st.h⟩ else none
 | _=>none
def C.flat:C→Bool
 | .val _ | .str _ | .nil=>true
 | _=>false
def D1.flat:D1→Bool
 | .c x=>x.flat
 | .agg l=>l.all C.flat
def D.flat:D→Bool
 | .c x=>x.flat
 | .agg l=>l.all C.flat
 | .lG l=>l.all D1.flat
def D.shut:D→Bool
 | .c x=>x.shut
 | .agg l=>l.all C.shut
 | .lG _=>false
def St.qS (st:St):List Nat→Option St
 | []=>some st
 | o::r =>
   match st.freeze o with
   | some cR=>cR.qS r
   | none=>none
def sH (st:St) (g:List (Nat × Bool)) (x:Operand) (args:List Operand):Option (FuncId × List D) :=
 match (st.see g).lv x with
 | .c (.func (.func f) k cap)=>some (f,args.map (st.see g).lv++aKf k cap)
 | _=>none
section
variable {P:Program} {n:Nat} {A T R:Type} {go:T→St} {ab:A→Ex × St} {st cR:St} {cs:List Code} {m:Option (A ⊕ T)}
def aDN (S:Mem) (w:World) (b k:Nat):Mem:=fun b' i=>if b'=b then (if i<k then w.cell? ⟨b,i,none⟩ else none) else S b' i
theorem aBH {S:Mem} {w:World} {b k:Nat} (h:∀ i,S b i=none):lP S (aDN S w b k):=by
 intro b' i v hv
 unfold aDN
 split
 ·rename_i e;subst e;rw[h i] at hv;cases hv
 ·exact hv
theorem C.oZ {S S':Mem} {β:eB} {f:C→C} (hs:lP S S') (h1:∀ o m v,dN S β (.own o m) v→dN S' β (f (.own o m)) v) (h2:∀ o i j v,dN S β (.ptr o i j) v→dN S' β (f (.ptr o i j)) v) :
 ∀ {c:C} {v:Value},dN S β c v→dN S' β (c.sub f) v:=by
 intro c
 induction c with
 | own o' m=>intro v hv;exact h1 _ _ _ hv
 | ptr o' i j=>intro v hv;exact h2 _ _ _ _ hv
 | opt b c ih =>
   intro v hv
   simp only[C.sub,dN] at hv ⊢
   split at hv
   ·rename_i h;rw[aJ h];exact ih hv
   ·rename_i h;rw[aG h];exact hv
 | iface b t c ih =>
   intro v hv
   simp only[C.sub,dN] at hv ⊢
   split at hv
   ·rename_i h;rw[aJ h];obtain ⟨u,hu,hr⟩:=hv;exact ⟨u,hu,ih hr⟩
   ·rename_i h;rw[aG h];exact hv
 | func fn k cap ih =>
   rintro v ⟨vs,q1,q2,q3⟩
   refine ⟨vs,q1,q2,fun i hi=>?_⟩
   have:(((List.range k).map fun i=>(cap i).sub f).getD i .bot)=(cap i).sub f:=by
    simp [List.getD,hi]
   show dN S' β (((List.range k).map fun i=>(cap i).sub f).getD i .bot) _
   rw[this]
   exact ih i (q3 i hi)
 | cond b c ih =>
   intro v hv hb
   exact ih (hv hb)
 | _=>intro v hv;exact dN.mono hs _ _ _ hv
theorem D1.oZ {S S':Mem} {β:eB} {f:C→C} (hs:lP S S') (h1:∀ o m v,dN S β (.own o m) v→dN S' β (f (.own o m)) v) (h2:∀ o i j v,dN S β (.ptr o i j) v→dN S' β (f (.ptr o i j)) v)
 {d:D1} {v:Value} (h:lO S β d v):lO S' β (d.sub f) v:=by
 cases d with
 | c x=>exact C.oZ hs h1 h2 h
 | agg l=>obtain ⟨vs,q1,q2⟩:=h;exact ⟨vs,q1,q2.map _ fun _ _ h=>C.oZ hs h1 h2 h⟩
theorem D.oZ {S S':Mem} {β:eB} {f:C→C} (hs:lP S S') (h1:∀ o m v,dN S β (.own o m) v→dN S' β (f (.own o m)) v) (h2:∀ o i j v,dN S β (.ptr o i j) v→dN S' β (f (.ptr o i j)) v)
 {d:D} {v:Value} (h:eI S β d v):eI S' β (d.sub f) v:=by
 cases d with
 | c x=>exact C.oZ hs h1 h2 h
 | agg l=>obtain ⟨vs,q1,q2⟩:=h;exact ⟨vs,q1,q2.map _ fun _ _ h=>C.oZ hs h1 h2 h⟩
 | lG l=>obtain ⟨vs,q1,q2⟩:=h;exact ⟨vs,q1,q2.map _ fun _ _ h=>D1.oZ hs h1 h2 h⟩
theorem aCa {Γ:nG} {S:Mem} {β:eB} {w:World} {xs:List Obj} (h:Core Γ S β w xs) {o:Nat} {e:TypeId} {wd m:Nat} {get:Nat→Nat→C} (hx:xs[o]? = some (.row e wd m get)) :
 ∃ S',lP S S'∧Holds S' w∧(∀ q v,dN S β (.own o q) v→dN S' β (.tree wd q get) v) ∧
   ((S'=S)∨∃ k,β o=some (some k)∧∀ b i,b≠k.b→S' b i=S b i):=by
 rcases h.cZ o _ hx with ⟨hn,hm⟩ | ⟨k,hk,he,hw,hn,hcap,hml,cur,hh,hsz,hcell⟩
 ·refine ⟨S,lP.refl _,h.holds,fun q v hv=>?_,.inl rfl⟩
  simp only[dN,hn] at hv
  obtain ⟨rfl,rfl⟩:=hv
  exact ⟨none,0,rfl,aR _,Nat.zero_le _,.inl rfl⟩
 ·have hsep:=h.sep o k _ hx rfl hk
  refine ⟨aDN S w k.b (m * wd),aBH hsep,?_,fun q v hv=>?_,.inr ⟨k,hk,fun b i hb=>?_⟩⟩
  ·intro b i v hv
   unfold aDN at hv
   split at hv
   ·rename_i e'
    subst e'
    split at hv
    ·rename_i hi
     refine ⟨hv,?_⟩
     have hwd:0<wd:=by
      rcases Nat.eq_zero_or_pos wd with hz | hz
      ·rw[hz] at hi;omega
      ·exact hz
     have h1:i / wd<m:=by rw[Nat.div_lt_iff_lt_mul hwd];exact hi
     obtain ⟨u,hu,ho1,_⟩:=hcell (i / wd) (i % wd) h1 (Nat.mod_lt _ hwd)
     rw[Nat.mul_comm,Nat.div_add_mod] at hu
     rw[cell_of_heap hh,hu] at hv
     simp only[aF] at hv
     rw[← hv];exact ho1
    ·cases hv
   ·exact h.holds b i v hv
  ·simp only[dN,hk] at hv
   obtain ⟨h1,h2,rfl⟩:=hv
   refine ⟨_,_,rfl,h2,hml,?_⟩
   by_cases hq:q=0
   ·exact .inl hq
   ·refine .inr ⟨k.b,0,rfl,fun i j hi hj=>?_⟩
    obtain ⟨u,hu,_,hr⟩:=hcell i j (by omega) hj
    refine ⟨u,?_,dN.mono (aBH hsep) _ _ _ hr⟩
    unfold aDN
    rw[aJ rfl,Nat.zero_add,aJ,cell_of_heap hh,hu]
    have:(i+1) * wd≤m * wd:=bU _ (by omega)
    rw[Nat.add_mul] at this
    omega
  ·unfold aDN
   rw[aG hb]
theorem aE1 {Γ:nG} {S:Mem} {β:eB} {w:World} {xs:List Obj} (h:Core Γ S β w xs) {o:Nat} {l:List C} (hx:xs[o]? = some (.cells l)) (hsh:l.all C.shut=true) :
 ∃ S',lP S S'∧Holds S' w∧(∀ i j v,dN S β (.ptr o i j) v→dN S' β (.rI l.length (fun j=>l.getD j .bot) j) v) ∧
   ((S'=S)∨∃ k,β o=some (some k)∧∀ b i,b≠k.b→S' b i=S b i):=by
 obtain ⟨k,hk,hw,hn,hcap,us,hh,hl,h1⟩:=h.cZ o _ hx
 have hsep:=h.sep o k _ hx rfl hk
 refine ⟨aDN S w k.b l.length,aBH hsep,?_,fun i j v hv=>?_,.inr ⟨k,hk,fun b i hb=>?_⟩⟩
 ·intro b i v hv
  unfold aDN at hv
  split at hv
  ·rename_i e'
   subst e'
   split at hv
   ·rename_i hi
    refine ⟨hv,?_⟩
    rw[cell_of_heap hh] at hv
    have:us[i]? = some v:=by simpa using hv
    exact h1 v (List.mem_of_getElem? this)
   ·cases hv
  ·exact h.holds b i v hv
 ·obtain ⟨k',hk',hi,hj,rfl⟩:=hv
  rw[hk] at hk';simp only[aF] at hk';subst hk'
  have hi0:i=0:=by omega
  subst hi0
  refine ⟨k.b,0,by simp,fun j' hj'=>?_⟩
  obtain ⟨u,hu,hr⟩:=hl.get j' _ (aN hj')
  refine ⟨u,?_,?_⟩
  ·unfold aDN
   rw[aJ rfl,Nat.zero_add,aJ hj',cell_of_heap hh]
   simpa using hu
  ·have hsj:(l[j']).shut=true:=by rw[aW] at hsh;exact hsh _ (List.getElem_mem hj')
   have e:l.getD j' .bot=l[j']:=by simp [List.getD,aN hj']
   show dN _ qD (l.getD j' .bot) u
   rw[e]
   exact dN.mono (aBH hsep) _ _ _ (sC hsj hr)
 ·unfold aDN
  rw[aG hb]
theorem aMI {x:Obj} {f:C→C}:(x.sub f).live=x.live:=by cases x <;> rfl
theorem aAt {Γ:nG} {S S':Mem} {β:eB} {a:Act} {w:World} {o:Nat} {ob:Obj} {f:C→C} (h:RR Γ S β a w n st) (hx:st.cZ[o]? = some ob) (hol:ob.live=true) (hs:lP S S') (hh:Holds S' w)
 (h1:∀ o m v,dN S β (.own o m) v→dN S' β (f (.own o m)) v) (h2:∀ o i j v,dN S β (.ptr o i j) v→dN S' β (f (.ptr o i j)) v)
 (hf:∀ o m b,f (.own o m)≠.val (.bool b)) (hf2:∀ o i j b,f (.ptr o i j)≠.val (.bool b))
 (hch:(S'=S)∨∃ k,β o=some (some k)∧∀ b i,b≠k.b→S' b i=S b i) :
 RR Γ S' β a w n ⟨st.tmps.map fun p=>(p.1,p.2.sub f),(st.cZ.set o .dead).map (Obj.sub f),st.gd,st.h⟩:=by
 have get':∀ t,St.get ⟨st.tmps.map fun p=>(p.1,p.2.sub f),(st.cZ.set o .dead).map (Obj.sub f),st.gd,st.h⟩ t=(st.get t).sub f:=by
  intro t
  unfold St.get
  simp only
  generalize st.tmps=l
  induction l with
  | nil=>rfl
  | cons p r ih =>
    obtain ⟨i,d⟩:=p
    simp only[bS,eC]
    cases Nat.beq i t with
    | true=>rfl
    | false=>exact ih
 have pR:∀ {d:D} {b:Bool},d.sub f = .c (.val (.bool b))↔d = .c (.val (.bool b)):=by
  intro d b
  constructor
  ·intro hd
   cases d with
   | c x =>
     simp only[D.sub,D.c.injEq] at hd
     cases x with
     | val u=>simp only[C.sub] at hd;rw[hd]
     | own o' q=>exact absurd hd (hf _ _ _)
     | ptr o' i j=>exact absurd hd (hf2 _ _ _ _)
     | _=>simp only[C.sub] at hd;cases hd
   | agg l=>cases hd
   | lG l=>cases hd
  ·rintro rfl;rfl
 have hold:∀ g,St.holds ⟨st.tmps.map fun p=>(p.1,p.2.sub f),(st.cZ.set o .dead).map (Obj.sub f),st.gd,st.h⟩ g↔st.holds g:=by
  intro g
  unfold St.holds
  constructor
  ·intro hh q hq
   have:=hh q hq
   rw[get',pR] at this
   exact this
  ·intro hh q hq
   rw[get',pR]
   exact hh q hq
 have aMJ:∀ q y,((st.cZ.set o .dead).map (Obj.sub f))[q]? = some y→y.live=true→∃ x,q≠o∧st.cZ[q]? = some x∧x.live=true∧y=x.sub f:=by
  intro q y hy hl
  rw[bD] at hy
  cases hq:(st.cZ.set o .dead)[q]? with
  | none=>rw[hq] at hy;cases hy
  | some x =>
    rw[hq] at hy
    simp only[aQ,aF] at hy
    subst hy
    rw[aMI] at hl
    obtain ⟨h1,h2⟩:=aJ9 hq hl
    exact ⟨x,h1,h2,hl,rfl⟩
 have hne:∀ k,β o=some (some k)→∀ q x k',q≠o→st.cZ[q]? = some x→x.live=true→β q=some (some k')→k'.b≠k.b :=
  fun k hk q x k' hq hxq hl hk'=>h.core.inj q o k' k x _ hxq hx hl hol hk' hk hq
 refine ⟨⟨?_,hh,?_,?_,?_,?_,?_⟩,fun t ht=>?_,fun t ht=>?_,h.size,h.defers,h.hand⟩
 ·refine ⟨h.core.frame.os,h.core.frame.tape,h.core.frame.output,h.core.frame.size,h.core.frame.block,fun b i hb hnm=>?_,h.core.frame.le.trans hs,h.core.frame.aGe,h.core.frame.inv⟩
  rcases hch with rfl | ⟨k,hk,hch⟩
  ·exact h.core.frame.mem b i hb hnm
  ·by_cases e:b=k.b
   ·subst e
    exact absurd ((h.core.mine o k _ hx hol hk).2 hb) hnm
   ·rw[hch b i e];exact h.core.frame.mem b i hb hnm
 ·intro q y hy
  cases hl:y.live with
  | false=>cases y <;> first | trivial | cases hl
  | true =>
    obtain ⟨x,hq,hxq,hxl,rfl⟩:=aMJ q y hy hl
    have ho:=h.core.cZ q x hxq
    cases x with
    | dead=>cases hxl
    | cells l =>
      obtain ⟨k,h1',h2',h3,h4,vs,h5,h6,h7⟩:=ho
      exact ⟨k,h1',by rw[h2'];simp,h3,h4,vs,h5,h6.map _ fun _ _ hc=>C.oZ hs h1 h2 hc,h7⟩
    | row e2 wd2 m2 a0R=>exact ho.keep hs (mH.refl _) fun _ _ _=>rfl
    | aEM e2 bs=>exact ho.keep hs (mH.refl _) fun _ _ _=>rfl
 ·intro q hq
  exact h.core.out q (by simpa using hq)
 ·intro q q' k k' y y' hy hy' hl hl'
  obtain ⟨x,_,hxq,hxl,_⟩:=aMJ q y hy hl
  obtain ⟨x',_,aYA,aIu,_⟩:=aMJ q' y' hy' hl'
  exact h.core.inj q q' k k' x x' hxq aYA hxl aIu
 ·intro q k y hy hl hk i
  obtain ⟨x,hq,hxq,hxl,_⟩:=aMJ q y hy hl
  rcases hch with rfl | ⟨k0,hk0,hch⟩
  ·exact h.core.sep q k x hxq hxl hk i
  ·rw[hch k.b i (hne k0 hk0 q x k hq hxq hxl hk)]
   exact h.core.sep q k x hxq hxl hk i
 ·intro q k y hy hl hk
  obtain ⟨x,_,hxq,hxl,_⟩:=aMJ q y hy hl
  exact h.core.mine q k x hxq hxl hk
 ·rw[get']
  have ht':st.holds (st.oU t):=(hold _).1 ht
  exact D.oZ hs h1 h2 (h.tm t ht')
 ·exact h.un t fun hh=>ht ((hold _).2 hh)
theorem y9 {Γ:nG} {S:Mem} {β:eB} {a:Act} {w:World} {o:Nat} (h:RR Γ S β a w n st) (hf:st.freeze o=some cR):∃ S',RR Γ S' β a w n cR∧∀ g,cR.holds g↔st.holds g:=by
 have aRN:∀ (f:C→C),(∀ o m b,f (.own o m)≠.val (.bool b))→(∀ o i j b,f (.ptr o i j)≠.val (.bool b))→∀ g,St.holds ⟨st.tmps.map fun p=>(p.1,p.2.sub f),(st.cZ.set o .dead).map (Obj.sub f),st.gd,st.h⟩ g↔st.holds g:=by
  intro f hf1 hf2 g
  have get':∀ t,St.get ⟨st.tmps.map fun p=>(p.1,p.2.sub f),(st.cZ.set o .dead).map (Obj.sub f),st.gd,st.h⟩ t=(st.get t).sub f:=by
   intro t
   unfold St.get
   simp only
   generalize st.tmps=l
   induction l with
   | nil=>rfl
   | cons p r ih =>
     obtain ⟨i,d⟩:=p
     simp only[bS,eC]
     cases Nat.beq i t with
     | true=>rfl
     | false=>exact ih
  have pR:∀ {d:D} {b:Bool},d.sub f = .c (.val (.bool b))↔d = .c (.val (.bool b)):=by
   intro d b
   constructor
   ·intro hd
    cases d with
    | c x =>
      simp only[D.sub,D.c.injEq] at hd
      cases x with
      | val u=>simp only[C.sub] at hd;rw[hd]
      | own o' q=>exact absurd hd (hf1 _ _ _)
      | ptr o' i j=>exact absurd hd (hf2 _ _ _ _)
      | _=>simp only[C.sub] at hd;cases hd
    | agg l=>cases hd
    | lG l=>cases hd
   ·rintro rfl;rfl
  unfold St.holds
  constructor
  ·intro hh q hq
   have:=hh q hq
   rw[get',pR] at this
   exact this
  ·intro hh q hq
   rw[get',pR]
   exact hh q hq
 unfold St.freeze at hf
 split at hf
 ·rename_i e wd m get hx
  simp only[aF] at hf
  subst hf
  obtain ⟨S',hs,hh,hown,hch⟩:=aCa h.core hx
  have f1:∀ o' m' b,oI o wd get (.own o' m')≠.val (.bool b):=by
   intro o' m' b
   simp only[oI]
   cases Nat.beq o' o <;> simp
  have f2:∀ o' i j b,oI o wd get (.ptr o' i j)≠.val (.bool b):=by
   intro o' i j b
   simp [oI]
  refine ⟨S',aAt h hx rfl hs hh (fun o' m' v hv=>?_) (fun o' i j v hv=>?_) f1 f2 hch,aRN _ f1 f2⟩
  ·simp only[oI]
   cases hb:Nat.beq o' o with
   | true =>
     have:=aP hb
     subst this
     exact hown m' v hv
   | false=>rw[cond_false];exact dN.mono hs _ _ _ hv
  ·exact dN.mono hs _ _ _ hv
 ·rename_i l hx
  obtain ⟨hsh,hf⟩:=cK hf
  simp only[aF] at hf
  subst hf
  obtain ⟨S',hs,hh,aYB,hch⟩:=aE1 h.core hx hsh
  have f1:∀ o' m' b,pQ o l (.own o' m')≠.val (.bool b):=by
   intro o' m' b
   simp [pQ]
  have f2:∀ o' i j b,pQ o l (.ptr o' i j)≠.val (.bool b):=by
   intro o' i j b
   simp only[pQ]
   cases Nat.beq o' o <;> simp
  refine ⟨S',aAt h hx rfl hs hh (fun o' m' v hv=>?_) (fun o' i j v hv=>?_) f1 f2 hch,aRN _ f1 f2⟩
  ·exact dN.mono hs _ _ _ hv
  ·simp only[pQ]
   cases hb:Nat.beq o' o with
   | true =>
     have:=aP hb
     subst this
     exact aYB i j v hv
   | false=>rw[cond_false];exact dN.mono hs _ _ _ hv
 ·cases hf
theorem aMK {S S':Mem} {β β':eB} {c:C} {v:Value} (hf:c.flat=true) (h:dN S β c v):dN S' β' c v:=by
 cases c <;> first | exact h | cases hf
theorem aML {S S':Mem} {β β':eB}:∀ {l:List C} {vs:List Value},l.all C.flat=true→eT S β l vs→eT S' β' l vs
 | [],_,_,h=>h
 | _::_,_,hf,⟨v,r,h1,h2,h3⟩=>by
   simp only[List.all_cons,aK] at hf
   exact ⟨v,r,h1,aMK hf.1 h2,aML hf.2 h3⟩
theorem aS8 {S S':Mem} {β β':eB} {d:D1} {v:Value} (hf:d.flat=true) (h:lO S β d v):lO S' β' d v:=by
 cases d with
 | c x=>exact aMK hf h
 | agg l=>obtain ⟨vs,h1,h2⟩:=h;exact ⟨vs,h1,aML hf h2⟩
theorem aRO {S S':Mem} {β β':eB}:∀ {l:List D1} {vs:List Value},l.all D1.flat=true→tB S β l vs→tB S' β' l vs
 | [],_,_,h=>h
 | _::_,_,hf,⟨v,r,h1,h2,h3⟩=>by
   simp only[List.all_cons,aK] at hf
   exact ⟨v,r,h1,aS8 hf.1 h2,aRO hf.2 h3⟩
theorem aMM {S S':Mem} {β β':eB} {d:D} {v:Value} (hf:d.flat=true) (h:eI S β d v):eI S' β' d v:=by
 cases d with
 | c x=>exact aMK hf h
 | agg l=>obtain ⟨vs,h1,h2⟩:=h;exact ⟨vs,h1,aML hf h2⟩
 | lG l=>obtain ⟨vs,h1,h2⟩:=h;exact ⟨vs,h1,aRO hf h2⟩
theorem rL {Γ:nG} {β:eB} {a:Act} {w:World}:∀ {l:List Nat} {st cR:St} {S:Mem},RR Γ S β a w n st→st.qS l=some cR→∃ S',RR Γ S' β a w n cR∧∀ g,cR.holds g↔st.holds g
 | [],st,cR,S,h,hf=>by
   simp only[St.qS,aF] at hf
   subst hf
   exact ⟨S,h,fun _=>Iff.rfl⟩
 | o::r,st,cR,S,h,hf=>by
   unfold St.qS at hf
   cases h1:st.freeze o with
   | none=>rw[h1] at hf;cases hf
   | some st1 =>
     rw[h1] at hf
     obtain ⟨S1,hr1,hg1⟩:=y9 h h1
     obtain ⟨S2,hr2,hg2⟩:=rL hr1 hf
     exact ⟨S2,hr2,fun g=>(hg2 g).trans (hg1 g)⟩
theorem tE {st:St}:∀ {g:List (Nat × Bool)},kW st g=some true→st.holds g
 | [],_=>fun q hq=>by cases hq
 | (t,want)::r,h=>by
   unfold kW at h
   cases ht:st.get t with
   | c x =>
     cases x with
     | val u =>
       cases u with
       | bool b =>
         cases hr:kW st r with
         | none=>rw[ht,hr] at h;cases h
         | some x =>
           rw[ht,hr] at h
           simp only at h
           have hb:(bif want then b else !b)=true∧x=true:=by
            split at h
            ·simp only[aF] at h
             simp only[kW,aF] at hr
             exact ⟨h,hr.symm⟩
            ·simp only[aF,aK] at h
             exact h
           obtain ⟨h1,rfl⟩:=hb
           have ih:=tE hr
           intro q hq
           rcases aT.1 hq with rfl | hq
           ·show st.get t=_
            rw[ht]
            cases want <;> cases b <;> simp_all
           ·exact ih q hq
       | _=>rw[ht] at h;cases h
     | _=>rw[ht] at h;cases h
   | _=>rw[ht] at h;cases h
theorem Core.aGt {Γ:nG} {S:Mem} {β:eB} {w w':World} {xs:List Obj} (h:Core Γ S β w xs) (ho:w'.os=w.os) (ht:w'.tape=w.tape) (hu:w'.output=w.output)
 (hz:w.heap.size≤w'.heap.size) (hb:∀ b,b<w.heap.size→w'.heap[b]? = w.heap[b]?):Core Γ S β w' xs :=
 ⟨h.frame.ext ho ht hu hz fun b hb1 _=>hb b (Nat.lt_of_lt_of_le hb1 h.frame.size),h.holds.keep fun b ⟨_,hi⟩=>hb b (h.holds.lt hi),
  fun o x hx=>(h.cZ o x hx).keep (lP.refl _) (mH.refl _) fun k hl hk=>hb k.b (h.mine o k x hx hl hk).1,h.out,h.inj,h.sep,
  fun o k x hx hl hk=>⟨Nat.lt_of_lt_of_le (h.mine o k x hx hl hk).1 hz,(h.mine o k x hx hl hk).2⟩⟩
theorem eT.shut {S:Mem} {β:eB}:∀ {l:List C} {vs:List Value},l.all C.shut=true→eT S β l vs→eT S qD l vs
 | [],_,_,h=>h
 | _::_,_,hf,⟨v,r,h1,h2,h3⟩=>by
   simp only[List.all_cons,aK] at hf
   exact ⟨v,r,h1,sC hf.1 h2,eT.shut hf.2 h3⟩
theorem iY.shut {S:Mem} {β:eB}:∀ {l:List D} {vs:List Value},l.all D.shut=true→iY S β l vs→iY S qD l vs
 | [],_,_,h=>h
 | d::_,_,hf,⟨v,r,h1,h2,h3⟩=>by
   simp only[List.all_cons,aK] at hf
   refine ⟨v,r,h1,?_,iY.shut hf.2 h3⟩
   cases d with
   | c x=>exact sC hf.1 h2
   | agg l=>obtain ⟨us,q1,q2⟩:=h2;exact ⟨us,q1,eT.shut hf.1 q2⟩
   | lG l=>cases hf.1
def cX {R:Type} (b:Bool) (mc:Option R) (r0:R):Option R:=if b=true then mc else some r0
theorem bY.look {ops:Array Oper} {o:Oper} {rest:List Oper} {x:Operand} {args:Array Operand} {w4:Array TypeId} {t:Nat} {f:FuncId} {fU:List D} {g:List (Nat × Bool)} {b:Bool}
 {mc:Option R} {res:R→D} {m:R→Option (A ⊕ T)} {uV:St} (bo:List Nat) (r0:R)
 (hfun:cQ P f fU [] mc res (fun _=>[])) (hg:guardOf ops o st=some g) (hb:kW st g=some b) (ho:o.op = .call ⟨.value x,args,w4⟩) (qE:o.dst=some t)
 (hfr:st.qS bo=some uV) (jX:sH uV g x args.toList=some (f,fU)) (hf:nX P f=true)
 (hn:(Nat.blt t n && (oH st t && g.all fun q=>!Nat.beq q.1 t))=true) (w6:∀ r,(res r).flat=true) (nV:fU.all D.shut=true)
 (h:∀ r,bY P n ops rest cs (st.put (some t) (res r) st.cZ g) (m r) go ab) :
 bY P n ops (o::rest) cs st ((cX b mc r0).bind m) go ab:=by
 intro Γ S β a w hr q hq
 simp only[aK,aW,bJ] at hn
 obtain ⟨htn,hfree,hgt⟩:=hn
 have aGu:∀ q∈g,q.1≠t:=fun q hq e=>by
  have:=hgt q hq
  rw[e] at this
  simp at this
 by_cases hh:st.holds g
 ·have hbt:=qN hb hh
  subst hbt
  simp only[cX,if_true] at hq
  have aE2:Region.wanted o (yielded ops a.tmps)=true:=by
   unfold guardOf at hg
   cases hgd:o.guard with
   | none=>simp [Region.wanted,hgd]
   | some jw =>
     obtain ⟨j,want⟩:=jw
     rw[hgd] at hg
     dsimp only at hg
     cases htj:(ops[j]?).bind (·.dst) with
     | none=>rw[htj] at hg;cases hg
     | some tj =>
       rw[htj] at hg
       simp only[aF] at hg
       subst hg
       have lW:=hr.tm tj (fun q hq=>hh q (aV _ hq))
       have hxw:=hh (tj,want) (by simp)
       simp only at hxw
       rw[hxw] at lW
       have hval:a.tmps.getD tj undef = .bool want:=lW
       have hsome:a.tmps[tj]? = some (.bool want):=by
        rw[bB] at hval
        cases hq:a.tmps[tj]? with
        | none=>rw[hq] at hval;cases hval
        | some u=>rw[hq] at hval;simp only[bW] at hval;rw[hval]
       have kX:yielded ops a.tmps j=some want:=by
        unfold yielded
        rw[htj]
        show (match a.tmps[tj]? with | some (.bool b)=>some b | _=>none)=some want
        rw[hsome]
       simp only[Region.wanted,hgd,kX]
       simp
  cases hm:mc with
  | none=>rw[hm] at hq;cases hq
  | some r =>
    rw[hm,aA] at hq
    obtain ⟨S2,hr2,aS9⟩:=rL hr hfr
    simp only[wpList,aE2,if_true]
    left
    unfold sH at jX
    split at jX
    ·rename_i f' k cap hx
     simp only[aF,aX] at jX
     obtain ⟨rfl,xR⟩:=jX
     have hh2:uV.holds g:=(aS9 g).2 hh
     have hxr:=j7 hr2 hh2 x
     rw[hx] at hxr
     obtain ⟨vs,hxv,aB9⟩:=y8 hxr
     have hrun:(execOp a.eval o).run P w = .ok (.enter f' (args.map a.eval++vs)) w:=by
      unfold execOp
      rw[ho]
      simp only[resolve,hxv,Deferred.ofValue,pure_bind,invoke]
      rw[oX hf]
      simp
     simp only[Oper.wp,Oper.upon,hrun]
     have hvm:∀ (l:List Operand),iY S2 β (l.map (uV.see g).lv) (l.map a.eval):=by
      intro l
      induction l with
      | nil=>rfl
      | cons x l ih=>exact ⟨_,_,rfl,j7 hr2 hh2 x,ih⟩
     have hargs:iY S2 β fU (args.map a.eval++vs).toList:=by
      rw[← xR]
      have e:(args.map a.eval++vs).toList=args.toList.map a.eval++vs.toList:=by simp
      rw[e]
      exact (hvm args.toList).append aB9
     have hclosed:iY S2 qD fU (args.map a.eval++vs).toList:=iY.shut nV hargs
     have uU:Core ⟨S2,w,Mof qD [],qD⟩ S2 qD w [] :=
      ⟨⟨rfl,rfl,rfl,aR _,fun _ _ _=>rfl,fun _ _ _ _=>rfl,lP.refl _,fun b hb=>by obtain ⟨o,k,x,hx,_⟩:=hb;simp at hx,hr2.core.inv⟩,hr2.core.holds,fun o x hx=>by simp at hx,fun _ _=>rfl,
       fun o o' k k' x x' hx=>by simp at hx,fun o k x hx=>by simp at hx,fun o k x hx=>by simp at hx⟩
     have:=hfun S2 qD w (args.map a.eval++vs).toList uU hclosed r hm
     have e2:(args.map a.eval++vs).toList.toArray=args.map a.eval++vs:=by simp
     rw[e2] at this
     refine this.mono fun e w' he=>?_
     obtain ⟨v,S',βc,rfl,hres,_,aCb⟩:=he
     have hnm:∀ b,¬ Mof qD [] b:=by
      rintro b ⟨o,k,x,hx,_⟩
      simp at hx
     have xP:=hr.core.aGt aCb.frame.os aCb.frame.tape aCb.frame.output aCb.frame.size fun b hb=>aCb.frame.block b hb (hnm b)
     have hput:=hr.put xP (lP.refl _) (mH.refl _) htn hfree aGu (fun _=>aMM (w6 r) hres) (fun hno=>absurd hh hno)
     rw[qE]
     exact h r Γ S _ _ w' hput q hq
    ·cases jX
 ·have hb0:b=false:=by
   cases b with
   | false=>rfl
   | true=>exact absurd (tE hb) hh
  subst hb0
  simp only[cX,aE,if_false,aA] at hq
  have hwt:Region.wanted o (yielded ops a.tmps)=false:=by
   unfold guardOf at hg
   cases hgd:o.guard with
   | none =>
     rw[hgd] at hg
     simp only[aF] at hg
     subst hg
     exact absurd (fun q hq=>by cases hq) hh
   | some jw =>
     obtain ⟨j,want⟩:=jw
     rw[hgd] at hg
     dsimp only at hg
     cases htj:(ops[j]?).bind (·.dst) with
     | none=>rw[htj] at hg;cases hg
     | some tj =>
       rw[htj] at hg
       simp only[aF] at hg
       subst hg
       obtain ⟨x0,hx0⟩:=qO hb
       have uG:∀ (yl:Option Bool),yielded ops a.tmps j=yl→Region.wanted o (yielded ops a.tmps)=(yl == some want):=by
        intro yl hy
        simp only[Region.wanted,hgd,hy]
       have kX:yielded ops a.tmps j=match a.tmps[tj]? with | some (.bool b)=>some b | _=>none:=by
        unfold yielded
        rw[htj]
        rfl
       by_cases qR:st.holds (st.oU tj)
       ·have lW:=hr.tm tj qR
        rw[hx0] at lW
        have hval:a.tmps.getD tj undef = .bool x0:=lW
        have hsome:a.tmps[tj]? = some (.bool x0):=by
         rw[bB] at hval
         cases hq:a.tmps[tj]? with
         | none=>rw[hq] at hval;cases hval
         | some u=>rw[hq] at hval;simp only[bW] at hval;rw[hval]
        rw[uG (some x0) (by rw[kX,hsome])]
        have hne:x0≠want:=by
         intro e
         subst e
         refine hh fun q hq=>?_
         rcases aT.1 hq with rfl | hq
         ·exact hx0
         ·exact qR q hq
        simpa using hne
       ·have hun:=hr.un tj qR
        have hnone:yielded ops a.tmps j=none:=by
         rw[kX]
         rw[bB] at hun
         cases hq:a.tmps[tj]? with
         | none=>rfl
         | some u =>
           rw[hq] at hun
           simp only[bW] at hun
           rw[hun];rfl
        rw[uG none hnone]
        rfl
  simp only[wpList,hwt,aE,if_false]
  have hput:=hr.put (d:=res r0) (v:=undef) hr.core (lP.refl _) (mH.refl _) htn hfree aGu (fun hy=>absurd hy hh) (fun _=>rfl)
  rw[qE]
  exact h r0 Γ S _ _ w hput q hq
end
end Go.Dl

namespace Go.Dl
variable [fT]
open Go.RowKit
section
variable {P:Program} {ops:Array Oper} {md:Region.Mode} {W:Nat→Bool}
def w7 (P:Program) (k:Value→World→Prop):Result Next→Prop
 | .ok (.value v) w'=>k v w'
 | .ok .skip w'=>k undef w'
 | .ok (.enter f args) w'=>Calls P f args w' fun e w''=>∃ v,e = .returned v∧k v w''
 | _=>False
def xop (P:Program) (o:Oper) (a:Act) (w:World) (k:Value→World→Prop):Prop:=w7 P k ((execOp a.eval o).run P w)
theorem aCd {o:Oper} {a:Act} {w:World} {k k':Value→World→Prop} (h:∀ v w',k v w'→k' v w') (hx:xop P o a w k):xop P o a w k':=by
 unfold xop at *
 generalize (execOp a.eval o).run P w=r at *
 cases r with
 | ok n w' =>
   cases n <;> simp only[w7] at hx ⊢ <;> first
    | exact h _ _ hx
    | exact Calls.mono hx (fun e w'' ⟨v,he,hk⟩=>⟨v,he,h _ _ hk⟩)
 | halt x w'=>simp only[w7] at hx
def aCe (P:Program) (ops:Array Oper) (i:Nat) (K:Act→World→Prop) (a:Act) (w:World):Prop :=
 match ops[i]? with
 | none=>∀ w',Up w w'→K a w'
 | some o=>if Region.wanted o (yielded ops a.tmps) then xop P o a w fun v w'=>Up w w'∧∀ w'',Up w' w''→K (a.put o.dst v) w''
  else ∀ w',Up w w'→K (a.put o.dst undef) w'
def xOp (P:Program) (ops:Array Oper) (W:Nat→Bool) (Q':Exit→Act→World→Prop) (i:Nat) (K:Act→World→Prop) (a:Act) (w:World):Prop :=
 bif W i then wpOp P ops Q' i K a w else aCe P ops i K a w
def xU (P:Program) (md:Region.Mode) (ops:Array Oper) (W:Nat→Bool) (Q':Exit→Act→World→Prop):Nat→Array Bool→Act→World→Prop
 | 0,listed,a,w=>Region.ready md ops listed=[]∧Q' .normal a w
 | fuel+1,listed,a,w =>
   (Region.ready md ops listed=[]→Q' .normal a w) ∧
   ∀ i∈Region.ready md ops listed,xOp P ops W Q' i (xU P md ops W Q' fuel (listed.setIfInBounds i true)) a w
theorem aIB {Q':Exit→Act→World→Prop} {i:Nat} {K K':Act→World→Prop} {a:Act} {w:World} (h:∀ a w,K a w→K' a w) (hx:aCe P ops i K a w):wpOp P ops Q' i K' a w:=by
 unfold aCe at hx
 unfold wpOp
 split
 ·rename_i ho;simp only[ho] at hx;exact h _ _ (hx w (Up.refl w))
 ·rename_i o ho
  simp only[ho] at hx
  split
  ·rename_i hw
   simp only[hw,if_true] at hx
   left
   unfold xop at hx
   unfold Oper.wp
   generalize (execOp a.eval o).run P w=r at *
   cases r with
   | ok n w' =>
     cases n <;> simp only[w7] at hx <;> simp only[Oper.upon]
     case value v=>exact h _ _ (hx.2 w' (Up.refl _))
     case skip=>exact h _ _ (hx.2 w' (Up.refl _))
     case enter f args =>
      refine hx.mono fun e w'' ⟨v,he,hk⟩=>?_
      subst he
      exact h _ _ (hk.2 w'' (Up.refl _))
   | halt x w'=>simp only[w7] at hx
  ·rename_i hw;simp only[hw] at hx;exact h _ _ (hx w (Up.refl w))
theorem aLq {Q':Exit→Act→World→Prop} {i:Nat} {K K':Act→World→Prop} {a:Act} {w:World} (h:∀ a w,K a w→K' a w) (hx:xOp P ops W Q' i K a w):wpOp P ops Q' i K' a w:=by
 unfold xOp at hx
 cases hW:W i with
 | true=>rw[hW,cond_true] at hx;exact wpOp_mono h hx
 | false=>rw[hW,cond_false] at hx;exact aIB h hx
theorem aCf {Q':Exit→Act→World→Prop}:∀ (fuel:Nat) (listed:Array Bool) (a:Act) (w:World),
 xU P md ops W Q' fuel listed a w→wpAny P md ops Q' fuel listed a w
 | 0,_,_,_,h=>⟨h.1,h.2⟩
 | fuel+1,_,_,_,h=>⟨fun h0=>h.1 h0,fun i hi=>aLq (fun a' w' h'=>aCf fuel _ a' w' h') (h.2 i hi)⟩
def YQ (P:Program) (ops:Array Oper) (o:Oper) (v:Value) (a:Act) (w:World):Prop :=
 (Region.wanted o (yielded ops a.tmps)=true∧∀ w2,Up w w2→xop P o a w2 fun u w3=>u=v∧Up w2 w3) ∨
 (Region.wanted o (yielded ops a.tmps)=false∧v=undef)
theorem YQ.up {o:Oper} {v:Value} {a:Act} {w w':World} (h:YQ P ops o v a w) (hw:Up w w'):YQ P ops o v a w':=by
 rcases h with ⟨h1,h2⟩ | h
 ·exact .inl ⟨h1,fun w2 h=>h2 w2 (hw.trans h)⟩
 ·exact .inr h
theorem YQ.of_same {o:Oper} {v:Value} {a a':Act} {w:World} (hy:YQ P ops o v a w) (he:execOp a'.eval o=execOp a.eval o)
 (hw:Region.wanted o (yielded ops a'.tmps)=Region.wanted o (yielded ops a.tmps)):YQ P ops o v a' w:=by
 unfold YQ xop at *
 rw[he,hw]
 exact hy
theorem aQo {j:Nat} {oi oj:Oper} {v:Value} (hj:ops[j]? = some oj) (hap:oi.apart ops oj=true)
 (hsj:∀ cs b,oj.op≠.select cs b) {K:Act→World→Prop} {a:Act} {w:World}
 (h:aCe P ops j K (a.put oi.dst v) w):aCe P ops j (fun a' w'=>Up w w'∧(∃ u,a'=a.put oj.dst u)∧K (a'.put oi.dst v) w') a w:=by
 obtain ⟨h1,h2,_⟩:=Oper.apart_spec hap
 unfold aCe at *
 simp only[hj] at *
 rw[wanted_put oj a oi.dst v h1] at h
 split
 ·rename_i hw
  simp only[hw,if_true] at h
  unfold xop at *
  rw[execOp_put oj hsj a oi.dst v h1] at h
  generalize (execOp a.eval oj).run P w=r at *
  have hh:∀ u w',(Up w w'∧∀ w'',Up w' w''→K ((a.put oi.dst v).put oj.dst u) w'') →
   Up w w'∧∀ w'',Up w' w''→Up w w''∧(∃ u',a.put oj.dst u=a.put oj.dst u')∧K ((a.put oj.dst u).put oi.dst v) w'':=by
   intro u w' ⟨g1,g2⟩
   exact ⟨g1,fun w'' aCg=>⟨g1.trans aCg,⟨u,rfl⟩,by rw[← Act.put_comm a v u h2];exact g2 w'' aCg⟩⟩
  cases r with
  | ok n w' =>
    cases n <;> simp only[w7] at h ⊢
    case value u=>exact hh u w' h
    case skip=>exact hh undef w' h
    case enter f args=>exact h.mono fun e w'' ⟨u,he,hk⟩=>⟨u,he,hh u w'' hk⟩
  | halt x w'=>simp only[w7] at h
 ·rename_i hw
  simp only[hw] at h
  exact fun w' hw'=>⟨hw',⟨undef,rfl⟩,by rw[← Act.put_comm a v undef h2];exact h w' hw'⟩
structure aTb (md:Region.Mode) (ops:Array Oper) (W:Nat→Bool) (listed:Array Bool) (i:Nat) (oi:Oper) (D:Nat→Bool):Prop where
 close:∀ k ok,ops[k]? = some ok→D k=true→∃ e∈ok.after,Region.binds md e=true∧(e.on=i∨D e.on=true)
 open_:∀ k,D k=true→listed.getD k true=false
 rest:∀ j oj,ops[j]? = some oj→j≠i→listed.getD j true=false→D j=false→oi.apart ops oj=true∧W j=false
theorem xV {Q:Exit→Act→World→Prop} {i:Nat} {oi:Oper} {v:Value} (hi:ops[i]? = some oi) (hsel:∀ (j:Nat) (o:Oper) cs b,ops[j]? = some o→o.op≠.select cs b) (hWi:W i=false) :
 ∀ (fuel:Nat) (listed:Array Bool) (a:Act) (w:World),
   (∃ D,aTb md ops W listed i oi D) →
   i∈Region.ready md ops listed→YQ P ops oi v a w →
   (∀ w',Up w w'→xU P md ops W Q fuel (listed.setIfInBounds i true) (a.put oi.dst v) w')→xU P md ops W Q (fuel+1) listed a w:=by
 intro fuel
 have self:∀ (fuel:Nat) (listed:Array Bool) (a:Act) (w:World),YQ P ops oi v a w→(∀ w',Up w w'→xU P md ops W Q fuel (listed.setIfInBounds i true) (a.put oi.dst v) w') →
  xOp P ops W Q i (xU P md ops W Q fuel (listed.setIfInBounds i true)) a w:=by
  intro fuel listed a w hy H
  unfold xOp
  rw[hWi,cond_false]
  unfold aCe
  simp only[hi]
  rcases hy with ⟨hw,hv⟩ | ⟨hw,rfl⟩
  ·simp only[hw,if_true]
   refine aCd (fun u w' ⟨e,hu⟩=>?_) (hv w (Up.refl w))
   subst e
   exact ⟨hu,fun w'' aCg=>H w'' (hu.trans aCg)⟩
  ·simp only[hw,aE,if_false]
   exact H
 induction fuel with
 | zero =>
   intro listed a w _ hr hy H
   refine ⟨fun h=>(by rw[h] at hr;cases hr),fun j hj=>?_⟩
   by_cases hji:j=i
   ·subst hji;exact self _ _ _ _ hy H
   ·have:=ready_mono hj hji
    rw[(H w (Up.refl w)).1] at this
    cases this
 | succ fuel ih =>
   intro listed a w hfree hr hy H
   refine ⟨fun h=>(by rw[h] at hr;cases hr),fun j hj=>?_⟩
   by_cases hji:j=i
   ·subst hji;exact self _ _ _ _ hy H
   ·have h1:=(H w (Up.refl w)).2 j (ready_mono hj hji)
    obtain ⟨aVK,oj,hoj,oY⟩:=mem_ready.1 hj
    obtain ⟨D,hF⟩:=hfree
    have aRQ:∀ k,listed.getD k true=false→listed.getD k false=true→False:=fun k h0 h1=>by
     rcases bI k listed.size with h' | h'
     ·simp [h'] at h0 h1;rw[h0] at h1;cases h1
     ·simp [Array.getElem?_eq_none h'] at h1
    have hDj:D j=false:=by
     cases hd:D j with
     | false=>rfl
     | true =>
       exfalso
       obtain ⟨e,he,hb,heq⟩:=hF.close j oj hoj hd
       have h1:=oY e he hb
       rcases heq with heq | heq
       ·rw[heq] at h1;exact aRQ i (mem_ready.1 hr).1 h1
       ·exact aRQ _ (hF.open_ _ heq) h1
    obtain ⟨hap,hWj⟩:=hF.rest j oj hoj hji aVK hDj
    unfold xOp at h1 ⊢
    rw[hWj,cond_false] at h1 ⊢
    have h2:=aQo hoj hap (fun cs b=>hsel j oj cs b hoj) h1
    have aTc:∃ D,aTb md ops W (listed.setIfInBounds j true) i oi D:=by
     refine ⟨D,hF.close,fun k hk=>?_,fun k ok hk hki hun hd=>?_⟩
     ·have hjk:j≠k:=fun e=>by rw[e,hk] at hDj;cases hDj
      rw[getD_set_ne true hjk]
      exact hF.open_ k hk
     ·refine hF.rest k ok hk hki ?_ hd
      by_cases hjk:j=k
      ·subst hjk;exact aVK
      ·rw[getD_set_ne true hjk] at hun;exact hun
    obtain ⟨_,_,h3⟩:=Oper.apart_spec hap
    -- after j,in each world with more blocks
    have h4:aCe P ops j (xU P md ops W Q (fuel+1) (listed.setIfInBounds j true)) a w:=by
     unfold aCe at h2 ⊢
     simp only[hoj] at h2 ⊢
     have step:∀ u w',(∀ w'',Up w' w''→Up w w''∧(∃ u',a.put oj.dst u=a.put oj.dst u')∧xU P md ops W Q fuel ((listed.setIfInBounds i true).setIfInBounds j true) ((a.put oj.dst u).put oi.dst v) w'') →
      ∀ w'',Up w' w''→xU P md ops W Q (fuel+1) (listed.setIfInBounds j true) (a.put oj.dst u) w'':=by
      intro u w' hk w'' aCg
      refine ih (listed.setIfInBounds j true) _ w'' aTc (ready_mono hr (Ne.symm hji)) ?_ ?_
      ·exact (hy.up (hk w'' aCg).1).of_same (execOp_put oi (fun cs b=>hsel i oi cs b hi) a oj.dst u h3) (wanted_put oi a oj.dst u h3)
      ·intro w3 hw3
       rw[Array.setIfInBounds_comm _ _ (Ne.symm (Ne.symm hji))]
       exact (hk w3 (aCg.trans hw3)).2.2
     split
     ·rename_i hw
      simp only[hw,if_true] at h2
      exact aCd (fun u w' ⟨g1,g2⟩=>⟨g1,step u w' g2⟩) h2
     ·rename_i hw
      simp only[hw] at h2
      exact step undef w h2
    exact h4
end
end Go.Dl

namespace Go.Dl
variable [fT]
open Go.RowKit
def inW (l:List Nat) (i:Nat):Bool:=l.any (Nat.beq i)
def aAu (md:Region.Mode) (ops:Array Oper) (listed:Array Bool) (i:Nat):List Nat→List Nat→List Nat
 | [],d=>d
 | j::r,d=>aAu md ops listed i r (bif !listed.getD j true && (ops[j]?).elim false fun oj=>oj.after.any fun e=>Region.binds md e && (e.on == i || d.any (Nat.beq e.on)) then j::d else d)
def aKj (md:Region.Mode) (ops:Array Oper) (W:Nat→Bool) (listed:Array Bool) (i:Nat):Bool :=
 match ops[i]? with
 | none=>false
 | some oi =>
   let d:=aAu md ops listed i (List.range ops.size) []
   (List.range ops.size).all fun j=>j == i || listed.getD j true || d.any (Nat.beq j) || match ops[j]? with
    | some oj=>oi.apart ops oj && !W j
    | none=>true
def kJ (md:Region.Mode) (ops:Array Oper) (W:Nat→Bool):Array Bool→List Nat→Option (Array Bool)
 | listed,[]=>some listed
 | listed,i::r =>
   bif (Region.ready md ops listed).contains i && (aKj md ops W listed i && (!W i && (ops[i]?).elim false fun o=>jI o.op)) then kJ md ops W (listed.setIfInBounds i true) r else none
def aLr (md:Region.Mode) (ops:Array Oper):Array Bool→List Nat→Bool
 | listed,[]=>(Region.ready md ops listed).isEmpty
 | listed,j::r=>decide (Region.ready md ops listed=[j]) && aLr md ops (listed.setIfInBounds j true) r
def opsOf (ops:Array Oper) (l:List Nat):List Oper:=l.filterMap fun i=>ops[i]?
def cJ (P:Program) (n:Nat) (ops:Array Oper) (W:Nat→Bool) {A T:Type} (fuel:Nat) (listed:Array Bool) (cs:List Code) (st:St) (m:Option (A ⊕ T)) (go:T→St) (ab:A→Ex × St):Prop :=
 ∀ Γ S β a w,RR Γ S β a w n st→∀ x,m=some x→xU P .any ops W (Exit.then (wpL P cs (Post Γ n go ab x)) (Post Γ n go ab x)) fuel listed a w
section
variable {P:Program} {n:Nat} {ops:Array Oper} {W:Nat→Bool} {md:Region.Mode}
theorem aA6 {i:Nat} {listed:Array Bool}:∀ (l d:List Nat),
 (∀ k∈d,listed.getD k true=false∧∀ ok,ops[k]? = some ok→∃ e∈ok.after,Region.binds md e=true∧(e.on=i∨e.on∈d)) →
 ∀ k∈aAu md ops listed i l d,listed.getD k true=false∧∀ ok,ops[k]? = some ok→∃ e∈ok.after,Region.binds md e=true∧(e.on=i∨e.on∈aAu md ops listed i l d)
 | [],d,h=>h
 | j::r,d,h=>by
   unfold aAu
   refine aA6 r _ ?_
   intro k hk
   cases hc:(!listed.getD j true && (ops[j]?).elim false fun oj=>oj.after.any fun e=>Region.binds md e && (e.on == i || d.any (Nat.beq e.on))) with
   | false =>
     rw[hc,cond_false] at hk
     rw[cond_false]
     exact h k hk
   | true =>
     rw[hc,cond_true] at hk
     rw[cond_true]
     rcases aT.1 hk with rfl | hk
     ·simp only[aK,Bool.not_eq_true'] at hc
      refine ⟨hc.1,fun ok hok=>?_⟩
      have h2:=hc.2
      rw[hok] at h2
      simp only[Option.elim] at h2
      obtain ⟨e,he,hb⟩:=Array.any_eq_true'.1 h2
      simp only[aK,bK,beq_iff_eq,List.any_eq_true] at hb
      refine ⟨e,he,hb.1,?_⟩
      rcases hb.2 with h3 | ⟨x,hx,h3⟩
      ·exact .inl h3
      ·right
       have:=aP h3
       rw[this]
       exact aV _ hx
     ·obtain ⟨h1,h2⟩:=h k hk
      refine ⟨h1,fun ok hok=>?_⟩
      obtain ⟨e,he,hb,h3⟩:=h2 ok hok
      exact ⟨e,he,hb,h3.imp id (aV _)⟩
theorem xW {i:Nat} {oi:Oper} {listed:Array Bool} (hi:ops[i]? = some oi) (h:aKj md ops W listed i=true):∃ D,aTb md ops W listed i oi D:=by
 have hs:=aA6 (md:=md) (ops:=ops) (i:=i) (listed:=listed) (List.range ops.size) [] (fun k hk=>by cases hk)
 simp only[aKj,hi,aW,List.mem_range] at h
 generalize aAu md ops listed i (List.range ops.size) []=d at *
 have hmem:∀ k,d.any (Nat.beq k)=true↔k∈d:=fun k=>by
  rw[List.any_eq_true]
  constructor
  ·rintro ⟨x,hx,hb⟩
   rw[aP hb];exact hx
  ·intro hk;exact ⟨k,hk,by simp⟩
 refine ⟨fun k=>d.any (Nat.beq k),fun k ok hok hk=>?_,fun k hk=>(hs k ((hmem k).1 hk)).1,fun j oj hj hne hun hd=>?_⟩
 ·obtain ⟨e,he,hb,h3⟩:=(hs k ((hmem k).1 hk)).2 ok hok
  exact ⟨e,he,hb,h3.imp id fun h=>(hmem _).2 h⟩
 ·have h1:=h j (Array.getElem?_eq_some_iff.1 hj).1
  rw[hd] at h1
  simp only[hj,bK,beq_iff_eq,hne,false_or,hun,aE] at h1
  simpa using h1
theorem RR.up {Γ:nG} {S:Mem} {β:eB} {a:Act} {w w':World} {st:St} (h:RR Γ S β a w n st) (hu:Up w w'):RR Γ S β a w' n st :=
 ⟨h.core.aGt hu.os hu.tape hu.output hu.size hu.block,h.tm,h.un,h.size,h.defers,h.hand⟩
theorem aGw {Q:Exit→Act→World→Prop} {Γ:nG} {S:Mem} {β:eB} {fuel:Nat} {mN:Array Bool} {uV:St} (hsel:Region.noSelect ops=true):∀ {is:List Nat} {listed:Array Bool} {st:St} {vs:List Bool} {a:Act} {w:World},
 RR Γ S β a w n st→kJ md ops W listed is=some mN→nW P n ops (opsOf ops is) st=some (vs,uV)→(∀ b∈vs,b=true) →
 (∀ a' w',RR Γ S β a' w' n uV→xU P md ops W Q fuel mN a' w')→xU P md ops W Q (is.length+fuel) listed a w
 | [],listed,st,vs,a,w,hr,hf,he,hvs,hk=>by
   simp only[kJ,aF] at hf
   subst hf
   simp only[opsOf,List.filterMap_nil,nW,aF,aX] at he
   obtain ⟨_,rfl⟩:=he
   rw[aD,Nat.zero_add]
   exact hk a w hr
 | i::r,listed,st,vs,a,w,hr,hf,he,hvs,hk=>by
   unfold kJ at hf
   obtain ⟨hc,hf⟩:=cK hf
   simp only[aK,Bool.not_eq_true'] at hc
   obtain ⟨hrd,hfree,hWi,hq⟩:=hc
   cases ho:ops[i]? with
   | none=>rw[ho] at hq;cases hq
   | some o =>
     rw[ho] at hq
     simp only[Option.elim] at hq
     have aCh:opsOf ops (i::r)=o::opsOf ops r:=by simp [opsOf,ho]
     rw[aCh] at he
     unfold nW at he
     split at he
     ·rename_i v st1 h1
      split at he
      ·rename_i vs2 st3 h2
       simp only[aF,aX] at he
       obtain ⟨rfl,rfl⟩:=he
       have hv1:∀ b∈v,b=true:=fun b hb=>hvs b (bO _ hb)
       have hv2:∀ b∈vs2,b=true:=fun b hb=>hvs b (List.mem_append_right _ hb)
       rw[aC,show r.length+1+fuel=(r.length+fuel)+1 by omega]
       have key:∀ u,YQ P ops o u a w→RR Γ S β (a.put o.dst u) w n st1→xU P md ops W Q (r.length+fuel+1) listed a w:=by
        intro u hy qR
        exact xV ho (Region.noSelect_spec hsel) hWi _ listed a w (xW ho hfree) (by simpa using hrd) hy
         fun w' hw'=>aGw hsel (qR.up hw') hf h2 hv2 hk
       rcases lD hr h1 hv1 with ⟨hw,u,w',S',β',_,qR,hqq⟩ | ⟨hw,qR⟩
       ·obtain ⟨rfl,rfl,rfl,hrun⟩:=hqq hq
        refine key u (.inl ⟨hw,fun w2 hw2=>?_⟩) qR
        unfold xop
        rw[hrun w2 (.inr hw2)]
        exact ⟨rfl,Up.refl _⟩
       ·exact key undef (.inr ⟨hw,rfl⟩) qR
      ·cases he
     ·cases he
theorem aA7 {Q':Exit→Act→World→Prop}:∀ (js:List Nat) (listed:Array Bool) (a:Act) (w:World),aLr md ops listed js=true→(js.all fun j=>W j && (ops[j]?).isSome)=true →
 wpList P ops Q' (opsOf ops js) a w→xU P md ops W Q' js.length listed a w
 | [],listed,a,w,hs,_,h=>⟨by simpa [aLr] using hs,h⟩
 | j::r,listed,a,w,hs,hW,h=>by
   simp only[aLr,aK,bQ] at hs
   simp only[List.all_cons,aK] at hW
   refine ⟨fun h1=>(by rw[hs.1] at h1;cases h1),fun i hi=>?_⟩
   rw[hs.1] at hi
   have hik:i=j:=by simpa using hi
   subst hik
   obtain ⟨o,ho⟩:=bL.1 hW.1.2
   have aCh:opsOf ops (i::r)=o::opsOf ops r:=by simp [opsOf,ho]
   rw[aCh] at h
   unfold xOp
   rw[hW.1.1,cond_true]
   have hw:wpOp P ops Q' i (wpList P ops Q' (opsOf ops r)) a w:=by unfold wpOp;simp only[ho];exact h
   exact wpOp_mono (fun a' w' h'=>aA7 r _ a' w' hs.2 (by rw[aW];simpa using hW.2) h') hw
variable {A T:Type} {go:T→St} {ab:A→Ex × St} {st:St} {m:Option (A ⊕ T)} {cs:List Code}
theorem cJ.ev (is keep om:List Nat) {fuel fuel':Nat} {listed mN:Array Bool} {vs:List Bool} {cR:St} (vI:fuel=is.length+fuel')
 (hf:(bif Region.noSelect ops then kJ .any ops W listed is else none)=some mN) (he:iZ P n ops (opsOf ops is) st keep om=some (vs,cR))
 (h:cJ P n ops W fuel' mN cs cR m go ab):cJ P n ops W fuel listed cs st (fI vs m) go ab:=by
 intro Γ S β a w hr x hx
 obtain ⟨hvs,hm⟩:=jA hx
 obtain ⟨hsel,hf⟩:=cK hf
 subst vI
 unfold iZ at he
 split at he
 ·rename_i vs2 uV h2
  cases hk:uV.keep keep om with
  | none=>rw[hk] at he;cases he
  | some st3 =>
    rw[hk] at he
    simp only[aQ,aF,aX] at he
    obtain ⟨rfl,rfl⟩:=he
    exact aGw hsel hr hf h2 hvs fun a' w' h'=>h Γ S (iT β om) a' w' (jU h' hk) x hm
 ·cases he
theorem cJ.tail (js:List Nat) {fuel:Nat} {listed:Array Bool} (vI:fuel=js.length) (hs:(aLr .any ops listed js && js.all fun j=>W j && (ops[j]?).isSome)=true)
 (h:bY P n ops (opsOf ops js) cs st m go ab):cJ P n ops W fuel listed cs st m go ab:=by
 intro Γ S β a w hr x hx
 rw[aK] at hs
 subst vI
 exact aA7 js listed a w hs.1 hs.2 (h Γ S β a w hr x hx)
theorem cJ.done {listed:Array Bool} (hs:(Region.ready .any ops listed).isEmpty=true) (h:Ref P n cs st m go ab):cJ P n ops W 0 listed cs st m go ab :=
 fun Γ S β a w hr x hx=>⟨by simpa using hs,h Γ S β a w hr x hx⟩
end
end Go.Dl

namespace Go.Dl
variable [fT]
open Go.RowKit
def C.exact:C→Option Value
 | .val v=>some v
 | .str l=>some (.string ⟨l.toArray⟩)
 | .nil=>some (.slice none 0 0)
 | .iface b t c=>match c.exact with
   | some u=>some (if b=true then .iface t u else .nilIface)
   | none=>none
 | _=>none
def vJ:List C→Option (List Value)
 | []=>some []
 | c::r=>match c.exact,vJ r with
   | some u,some us=>some (u::us)
   | _,_=>none
def D1.exact:D1→Option Value
 | .c x=>x.exact
 | .agg l=>match vJ l with
   | some us=>some (.agg us.toArray)
   | none=>none
def aAv:List D1→Option (List Value)
 | []=>some []
 | c::r=>match c.exact,aAv r with
   | some u,some us=>some (u::us)
   | _,_=>none
def D.exact:D→Option Value
 | .c x=>x.exact
 | .agg l=>match vJ l with
   | some us=>some (.agg us.toArray)
   | none=>none
 | .lG l=>match aAv l with
   | some us=>some (.tuple us.toArray)
   | none=>none
theorem C.mO:∀ {c:C} {u v:Value} {S:Mem} {β:eB},c.exact=some u→dN S β c v→v=u
 | .val _,_,_,_,_,h,hr=>by simp only[C.exact,aF] at h;subst h;exact hr
 | .str _,_,_,_,_,h,hr=>by simp only[C.exact,aF] at h;subst h;exact hr.1
 | .nil,_,_,_,_,h,hr=>by simp only[C.exact,aF] at h;subst h;exact hr
 | .iface b t c,u,v,S,β,h,hr=>by
   unfold C.exact at h
   split at h
   ·rename_i z hz
    simp only[aF] at h
    subst h
    simp only[dN] at hr
    cases b with
    | true =>
      simp only[if_true] at hr ⊢
      obtain ⟨z',rfl,hz'⟩:=hr
      rw[C.mO hz hz']
    | false =>
      simp only[aE,if_false] at hr ⊢
      exact hr
   ·cases h
theorem aAw {S:Mem} {β:eB}:∀ {l:List C} {us vs:List Value},vJ l=some us→eT S β l vs→vs=us
 | [],_,_,h,hr=>by simp only[vJ,aF] at h;subst h;exact hr
 | c::l,us,vs,h,hr=>by
   unfold vJ at h
   split at h
   ·rename_i u us' hu hus
    simp only[aF] at h
    subst h
    obtain ⟨v,r,rfl,h1,h2⟩:=hr
    rw[C.mO hu h1,aAw hus h2]
   ·cases h
theorem D1.mO {S:Mem} {β:eB} {d:D1} {u v:Value} (h:d.exact=some u) (hr:lO S β d v):v=u:=by
 cases d with
 | c x=>exact C.mO h hr
 | agg l =>
   simp only[D1.exact] at h
   cases hus:vJ l with
   | none=>rw[hus] at h;cases h
   | some us =>
     rw[hus] at h
     simp only[aF] at h
     subst h
     obtain ⟨vs,rfl,h2⟩:=hr
     rw[aAw hus h2]
theorem aEc {S:Mem} {β:eB}:∀ {l:List D1} {us vs:List Value},aAv l=some us→tB S β l vs→vs=us
 | [],_,_,h,hr=>by simp only[aAv,aF] at h;subst h;exact hr
 | c::l,us,vs,h,hr=>by
   unfold aAv at h
   split at h
   ·rename_i u us' hu hus
    simp only[aF] at h
    subst h
    obtain ⟨v,r,rfl,h1,h2⟩:=hr
    rw[D1.mO hu h1,aEc hus h2]
   ·cases h
theorem D.mO {S:Mem} {β:eB} {d:D} {u v:Value} (h:d.exact=some u) (hr:eI S β d v):v=u:=by
 cases d with
 | c x=>exact C.mO h hr
 | agg l =>
   simp only[D.exact] at h
   cases hus:vJ l with
   | none=>rw[hus] at h;cases h
   | some us =>
     rw[hus] at h
     simp only[aF] at h
     subst h
     obtain ⟨vs,rfl,h2⟩:=hr
     rw[aAw hus h2]
 | lG l =>
   simp only[D.exact] at h
   cases hus:aAv l with
   | none=>rw[hus] at h;cases h
   | some us =>
     rw[hus] at h
     simp only[aF] at h
     subst h
     obtain ⟨vs,rfl,h2⟩:=hr
     rw[aEc hus h2]
section
variable {P:Program} {n:Nat} {ops:Array Oper} {W:Nat→Bool} {A T R:Type} {go:T→St} {ab:A→Ex × St} {st:St} {cs:List Code}
theorem aGx {Γ:nG} {S:Mem} {β:eB} {a:Act} {w:World} {o:Oper} {g:List (Nat × Bool)} {b:Bool} (hr:RR Γ S β a w n st) (hg:guardOf ops o st=some g) (hb:kW st g=some b) :
 (b=true∧st.holds g∧Region.wanted o (yielded ops a.tmps)=true)∨(b=false∧¬ st.holds g∧Region.wanted o (yielded ops a.tmps)=false):=by
 by_cases hh:st.holds g
 ·left
  have hbt:=qN hb hh
  subst hbt
  have aE2:Region.wanted o (yielded ops a.tmps)=true:=by
   unfold guardOf at hg
   cases hgd:o.guard with
   | none=>simp [Region.wanted,hgd]
   | some jw =>
     obtain ⟨j,want⟩:=jw
     rw[hgd] at hg
     dsimp only at hg
     cases htj:(ops[j]?).bind (·.dst) with
     | none=>rw[htj] at hg;cases hg
     | some tj =>
       rw[htj] at hg
       simp only[aF] at hg
       subst hg
       have lW:=hr.tm tj (fun q hq=>hh q (aV _ hq))
       have hxw:=hh (tj,want) (by simp)
       simp only at hxw
       rw[hxw] at lW
       have hval:a.tmps.getD tj undef = .bool want:=lW
       have hsome:a.tmps[tj]? = some (.bool want):=by
        rw[bB] at hval
        cases hq:a.tmps[tj]? with
        | none=>rw[hq] at hval;cases hval
        | some u=>rw[hq] at hval;simp only[bW] at hval;rw[hval]
       have kX:yielded ops a.tmps j=some want:=by
        unfold yielded
        rw[htj]
        show (match a.tmps[tj]? with | some (.bool b)=>some b | _=>none)=some want
        rw[hsome]
       simp only[Region.wanted,hgd,kX]
       simp
  exact ⟨rfl,hh,aE2⟩
 ·right
  have hb0:b=false:=by
   cases b with
   | false=>rfl
   | true=>exact absurd (tE hb) hh
  subst hb0
  have hwt:Region.wanted o (yielded ops a.tmps)=false:=by
   unfold guardOf at hg
   cases hgd:o.guard with
   | none =>
     rw[hgd] at hg
     simp only[aF] at hg
     subst hg
     exact absurd (fun q hq=>by cases hq) hh
   | some jw =>
     obtain ⟨j,want⟩:=jw
     rw[hgd] at hg
     dsimp only at hg
     cases htj:(ops[j]?).bind (·.dst) with
     | none=>rw[htj] at hg;cases hg
     | some tj =>
       rw[htj] at hg
       simp only[aF] at hg
       subst hg
       obtain ⟨x0,hx0⟩:=qO hb
       have uG:∀ (yl:Option Bool),yielded ops a.tmps j=yl→Region.wanted o (yielded ops a.tmps)=(yl == some want):=by
        intro yl hy
        simp only[Region.wanted,hgd,hy]
       have kX:yielded ops a.tmps j=match a.tmps[tj]? with | some (.bool b)=>some b | _=>none:=by
        unfold yielded
        rw[htj]
        rfl
       by_cases qR:st.holds (st.oU tj)
       ·have lW:=hr.tm tj qR
        rw[hx0] at lW
        have hval:a.tmps.getD tj undef = .bool x0:=lW
        have hsome:a.tmps[tj]? = some (.bool x0):=by
         rw[bB] at hval
         cases hq:a.tmps[tj]? with
         | none=>rw[hq] at hval;cases hval
         | some u=>rw[hq] at hval;simp only[bW] at hval;rw[hval]
        rw[uG (some x0) (by rw[kX,hsome])]
        have hne:x0≠want:=by
         intro e
         subst e
         refine hh fun q hq=>?_
         rcases aT.1 hq with rfl | hq
         ·exact hx0
         ·exact qR q hq
        simpa using hne
       ·have hun:=hr.un tj qR
        have hnone:yielded ops a.tmps j=none:=by
         rw[kX]
         rw[bB] at hun
         cases hq:a.tmps[tj]? with
         | none=>rfl
         | some u =>
           rw[hq] at hun
           simp only[bW] at hun
           rw[hun];rfl
        rw[uG none hnone]
        rfl
  exact ⟨rfl,hh,hwt⟩
theorem aQq {o:Oper} {a:Act} {w:World} {k:Value→World→Prop} (h:xop P o a w k):∃ v w',k v w':=by
 unfold xop at h
 generalize (execOp a.eval o).run P w=r at *
 cases r with
 | ok n w' =>
   cases n <;> simp only[w7] at h
   case value v=>exact ⟨v,w',h⟩
   case skip=>exact ⟨undef,w',h⟩
   case enter f args =>
    obtain ⟨e,w',fr,⟨v,_,hk⟩,_⟩:=h []
    exact ⟨v,w',hk⟩
 | halt x w'=>simp only[w7] at h
theorem aGy {Γ:nG} {S:Mem} {β:eB} {a:Act} {w:World} {o:Oper} {x:Operand} {args:Array Operand} {w4:Array TypeId} {f:FuncId} {fU:List D} {g:List (Nat × Bool)}
 {mc:Option R} {res:R→D} {uV:St} {bo:List Nat} {r:R} (hr:RR Γ S β a w n st)
 (hfun:cQ P f fU [] mc res (fun _=>[])) (hh:st.holds g) (ho:o.op = .call ⟨.value x,args,w4⟩)
 (hfr:st.qS bo=some uV) (jX:sH uV g x args.toList=some (f,fU)) (hf:nX P f=true)
 (nV:fU.all D.shut=true) (hm:mc=some r):xop P o a w fun v w'=>(∃ S' β',eI S' β' (res r) v)∧Up w w':=by
 obtain ⟨S2,hr2,aS9⟩:=rL hr hfr
 unfold sH at jX
 split at jX
 ·rename_i f' k cap hx
  simp only[aF,aX] at jX
  obtain ⟨rfl,xR⟩:=jX
  have hh2:uV.holds g:=(aS9 g).2 hh
  have hxr:=j7 hr2 hh2 x
  rw[hx] at hxr
  obtain ⟨vs,hxv,aB9⟩:=y8 hxr
  have hrun:(execOp a.eval o).run P w = .ok (.enter f' (args.map a.eval++vs)) w:=by
   unfold execOp
   rw[ho]
   simp only[resolve,hxv,Deferred.ofValue,pure_bind,invoke]
   rw[oX hf]
   simp
  unfold xop
  simp only[hrun,w7]
  have hvm:∀ (l:List Operand),iY S2 β (l.map (uV.see g).lv) (l.map a.eval):=by
   intro l
   induction l with
   | nil=>rfl
   | cons x l ih=>exact ⟨_,_,rfl,j7 hr2 hh2 x,ih⟩
  have hargs:iY S2 β fU (args.map a.eval++vs).toList:=by
   rw[← xR]
   have e:(args.map a.eval++vs).toList=args.toList.map a.eval++vs.toList:=by simp
   rw[e]
   exact (hvm args.toList).append aB9
  have hclosed:iY S2 qD fU (args.map a.eval++vs).toList:=iY.shut nV hargs
  have uU:Core ⟨S2,w,Mof qD [],qD⟩ S2 qD w [] :=
   ⟨⟨rfl,rfl,rfl,aR _,fun _ _ _=>rfl,fun _ _ _ _=>rfl,lP.refl _,fun b hb=>by obtain ⟨o,k,x,hx,_⟩:=hb;simp at hx,hr2.core.inv⟩,hr2.core.holds,fun o x hx=>by simp at hx,fun _ _=>rfl,
    fun o o' k k' x x' hx=>by simp at hx,fun o k x hx=>by simp at hx,fun o k x hx=>by simp at hx⟩
  have:=hfun S2 qD w (args.map a.eval++vs).toList uU hclosed r hm
  have e2:(args.map a.eval++vs).toList.toArray=args.map a.eval++vs:=by simp
  rw[e2] at this
  refine this.mono fun e w' he=>?_
  obtain ⟨v,S',βc,rfl,hres,_,aCb⟩:=he
  have hnm:∀ b,¬ Mof qD [] b:=by
   rintro b ⟨o,k,x,hx,_⟩
   simp at hx
  exact ⟨v,rfl,⟨S',βc,hres⟩,⟨aCb.frame.os,aCb.frame.tape,aCb.frame.output,aCb.frame.size,fun b hb=>aCb.frame.block b hb (hnm b)⟩⟩
 ·cases jX
def aIC (ops:Array Oper) (W:Nat→Bool) (listed:Array Bool) (i:Nat):Bool :=
 Region.noSelect ops && ((Region.ready .any ops listed).contains i && (aKj .any ops W listed i && !W i))
theorem cJ.look {o:Oper} {x:Operand} {args:Array Operand} {w4:Array TypeId} {t:Nat} {f:FuncId} {fU:List D} {g:List (Nat × Bool)} {b:Bool}
 {mc:Option R} {res:R→D} {m:R→Option (A ⊕ T)} {uV:St} {fuel:Nat} {listed:Array Bool} (i:Nat) (bo:List Nat) (r0:R)
 (hfun:cQ P f fU [] mc res (fun _=>[])) (hi:ops[i]? = some o) (aAx:aIC ops W listed i=true)
 (hg:guardOf ops o st=some g) (hb:kW st g=some b) (ho:o.op = .call ⟨.value x,args,w4⟩) (qE:o.dst=some t)
 (hfr:st.qS bo=some uV) (jX:sH uV g x args.toList=some (f,fU)) (hf:nX P f=true)
 (hn:(Nat.blt t n && (oH st t && g.all fun q=>!Nat.beq q.1 t))=true) (hex:∀ r,(res r).exact.isSome=true) (w6:∀ r,(res r).flat=true) (nV:fU.all D.shut=true)
 (h:∀ r,cJ P n ops W fuel (listed.setIfInBounds i true) cs (st.put (some t) (res r) st.cZ g) (m r) go ab) :
 cJ P n ops W (fuel+1) listed cs st ((cX b mc r0).bind m) go ab:=by
 intro Γ S β a w hr q hq
 simp only[aK,aW,bJ] at hn
 obtain ⟨htn,hfree,hgt⟩:=hn
 have aGu:∀ q∈g,q.1≠t:=fun q hq e=>by
  have:=hgt q hq
  rw[e] at this
  simp at this
 simp only[aIC,aK,Bool.not_eq_true'] at aAx
 obtain ⟨hsel,hrd,hfw,hWi⟩:=aAx
 rcases aGx hr hg hb with ⟨rfl,hh,hw⟩ | ⟨rfl,hh,hw⟩
 ·simp only[cX,if_true] at hq
  cases hm:mc with
  | none=>rw[hm] at hq;cases hq
  | some r =>
    rw[hm,aA] at hq
    obtain ⟨u,hu⟩:=bL.1 (hex r)
    have hy:YQ P ops o u a w:=by
     refine .inl ⟨hw,fun w2 hw2=>?_⟩
     exact aCd (fun v w' ⟨⟨S',β',hv⟩,hup⟩=>⟨D.mO hu hv,hup⟩) (aGy (hr.up hw2) hfun hh ho hfr jX hf nV hm)
    have lW:eI S β (res r) u:=by
     obtain ⟨v,w',⟨S',β',hv⟩,_⟩:=aQq (aGy hr hfun hh ho hfr jX hf nV hm)
     have:=D.mO hu hv
     subst this
     exact aMM (w6 r) hv
    refine xV hi (Region.noSelect_spec hsel) hWi _ listed a w (xW hi hfw) (by simpa using hrd) hy fun w' hw'=>?_
    have hput:=(hr.up hw').put (hr.up hw').core (lP.refl _) (mH.refl _) htn hfree aGu (fun _=>lW) (fun hno=>absurd hh hno)
    rw[qE]
    exact h r Γ S β _ w' hput q hq
 ·simp only[cX,aE,if_false,aA] at hq
  refine xV hi (Region.noSelect_spec hsel) hWi _ listed a w (xW hi hfw) (by simpa using hrd) (.inr ⟨hw,rfl⟩) fun w' hw'=>?_
  have hput:=(hr.up hw').put (d:=res r0) (v:=undef) (hr.up hw').core (lP.refl _) (mH.refl _) htn hfree aGu (fun hy=>absurd hy hh) (fun _=>rfl)
  rw[qE]
  exact h r0 Γ S β _ w' hput q hq
end
end Go.Dl

namespace Go.Dl
variable [fT]
def cd:Code→List Nat→Code
 | c,[]=>c
 | .seq a b,i::p=>bif Nat.beq i 0 then cd a p else cd b p
 | .cond _ a b,i::p=>bif Nat.beq i 0 then cd a p else cd b p
 | .block _ c,_::p=>cd c p
 | .loop c,_::p=>cd c p
 | c,_::_=>c
def bd (f:Func):Code:=f.body.getD .skip
def rg:Code→Array Oper
 | .region _ ops _=>ops
 | _=>#[]
def aTe:Oper:=⟨none,.move (.func 0),0,"",#[],none⟩
def mP (l:List Oper) (k:Nat):Oper:=l.getD k aTe
def nY (P:Program) (n:Nat) (o:Oper) (st:St) (om:List Nat):Option (FuncId × List D × Nat) :=
 match o.guard,o.op,o.dst with
 | none,.call ⟨.value x,args,_⟩,some t =>
   (match y7 st x args.toList om with
   | some (f,fU)=>bif nX P f && (pO om && (om.all (fun o=>Nat.blt o st.cZ.length) && (Nat.blt t n && oH st t))) then some (f,fU,t) else none
   | none=>none)
 | _,_,_=>none
structure aCi where
 f:FuncId
 fU:List D
 t:Nat
 g:List (Nat × Bool)
 b:Bool
def zA (P:Program) (n:Nat) (ops:Array Oper) (o:Oper) (st:St) (bo:List Nat):Option aCi :=
 match o.op,o.dst,guardOf ops o st,st.qS bo with
 | .call ⟨.value x,args,_⟩,some t,some g,some uV =>
   (match kW st g,sH uV g x args.toList with
   | some b,some (f,fU)=>bif nX P f && (fU.all D.shut && (Nat.blt t n && (oH st t && g.all fun q=>!Nat.beq q.1 t))) then some ⟨f,fU,t,g,b⟩ else none
   | _,_=>none)
 | _,_,_,_=>none
section
variable {P:Program} {n:Nat} {A T U R:Type} {go:T→St} {ab:A→Ex × St} {st cR:St} {m:Option (A ⊕ T)} {cs:List Code} {c:Code}
theorem Ref.aTf {c':Code} (h:c=c') (hr:Ref P n (c'::cs) st m go ab):Ref P n (c::cs) st m go ab:=h ▸ hr
theorem Ref.aVM (a b:Code) (h:c = .seq a b) (hr:Ref P n (a::b::cs) st m go ab):Ref P n (c::cs) st m go ab:=by
 subst h;exact Ref.seq hr
theorem Ref.aVN (h:c = .skip) (hr:Ref P n cs st m go ab):Ref P n (c::cs) st m go ab:=by
 subst h;exact Ref.skip hr
theorem Ref.aKk (id:Nat) (h:c = .region id (rg c) false) (hr:bY P n (rg c) ((rg c).toList.drop 0) cs st m go ab):Ref P n (c::cs) st m go ab:=by
 rw[h];exact Ref.region hr
theorem Ref.aVO (x:Operand) (b:Bool) {m1 m2:Option (A ⊕ T)} (h:c = .cond x (cd c [0]) (cd c [1])) (hb:(st.gd.isEmpty && true)=true) (hl:st.lv x = .c (.val (.bool b)))
 (h1:b=true→Ref P n (cd c [0]::cs) st m1 go ab) (h2:b=false→Ref P n (cd c [1]::cs) st m2 go ab):Ref P n (c::cs) st (if b=true then m1 else m2) go ab:=by
 rw[h]
 refine Ref.cond hl (by simpa using hb) h1 h2
theorem Ref.aYI {t:A} (h:c = .ret) (hab:ab t=(.ret,st)):Ref P n (c::cs) st (some (.inl t)) go ab:=by
 subst h;exact Ref.ret hab
theorem Ref.aRR (id:Nat) {t:A} (h:c = .exit id) (hab:ab t=(.exit id,st)):Ref P n (c::cs) st (some (.inl t)) go ab:=by
 subst h;exact Ref.exit hab
theorem bY.nR (k j k':Nat) (keep om:List Nat) {ops:Array Oper} {l:List Oper} {vs:List Bool} (hk:k'=k+j)
 (he:iZ P n ops ((l.drop k).take j) st keep om=some (vs,cR)) (h:bY P n ops (l.drop k') cs cR m go ab):bY P n ops (l.drop k) cs st (fI vs m) go ab:=by
 refine bY.ev j keep om he ?_
 rw[List.drop_drop,← hk]
 exact h
theorem bY.aMN (k:Nat) {ops:Array Oper} {l:List Oper} (hk:Nat.ble l.length k=true) (h:Ref P n cs st m go ab):bY P n ops (l.drop k) cs st m go ab:=by
 rw[List.drop_eq_nil_of_le (bP hk)]
 exact bY.nil h
theorem sJ {l:List Oper} {k:Nat} (hk:Nat.blt k l.length=true):l.drop k=mP l k::l.drop (k+1):=by
 have hk:k<l.length:=by simpa [bJ] using hk
 rw[List.drop_eq_getElem_cons hk]
 simp [mP,List.getD,aN hk]
theorem bY.j8 (k k':Nat) (om:List Nat) {ops:Array Oper} {l:List Oper} {f:FuncId} {fU:List D} {t:Nat} {mc:Option R} {res:R→D} {out:R→List Obj} {m:R→Option (A ⊕ T)}
 (hk:(Nat.blt k l.length && Nat.beq k' (k+1))=true) (hi:nY P n (mP l k) st om=some (f,fU,t)) (hfun:cQ P f fU (jB st om) mc res out)
 (h:∀ r,bY P n ops (l.drop k') cs (st.put (some t) ((res r).s6 om st.cZ.length) (pP om (out r) st.cZ) []) (m r) go ab):bY P n ops (l.drop k) cs st (mc.bind m) go ab:=by
 rw[aK] at hk
 obtain ⟨hk,hk'⟩:=hk
 have hk':=aP hk'
 subst hk'
 rw[sJ hk]
 unfold nY at hi
 split at hi
 ·rename_i x args w4 t' hg hop hd
  split at hi
  ·rename_i f' aE4 hca
   obtain ⟨hc,hi⟩:=cK hi
   simp only[aF,aX] at hi
   obtain ⟨rfl,rfl,rfl⟩:=hi
   rw[aK] at hc
   exact bY.call hfun hg hop hd hca rfl hc.1 hc.2 h
  ·cases hi
 ·cases hi
theorem bY.eF (k k':Nat) (bo:List Nat) {ops:Array Oper} {l:List Oper} {f:FuncId} {fU:List D} {t:Nat} {g:List (Nat × Bool)} {b:Bool} {mc:Option R} {res:R→D} {m:R→Option (A ⊕ T)} (r0:R)
 (hk:(Nat.blt k l.length && Nat.beq k' (k+1))=true) (hi:zA P n ops (mP l k) st bo=some ⟨f,fU,t,g,b⟩) (hfun:cQ P f fU [] mc res (fun _=>[])) (w6:∀ r,(res r).flat=true)
 (h:∀ r,bY P n ops (l.drop k') cs (st.put (some t) (res r) st.cZ g) (m r) go ab):bY P n ops (l.drop k) cs st ((cX b mc r0).bind m) go ab:=by
 rw[aK] at hk
 obtain ⟨hk,hk'⟩:=hk
 have hk':=aP hk'
 subst hk'
 rw[sJ hk]
 unfold zA at hi
 split at hi
 ·rename_i x args w4 t' g' uV hop hd hg hfr
  split at hi
  ·rename_i b' f' aE4 hb hca
   obtain ⟨hc,hi⟩:=cK hi
   simp only[aF,aCi.mk.injEq] at hi
   obtain ⟨rfl,rfl,rfl,rfl,rfl⟩:=hi
   simp only[aK] at hc
   exact bY.look bo r0 hfun hg hb hop hd hfr hca hc.1 (by simp only[aK];exact hc.2.2) w6 hc.2.1 h
  ·cases hi
 ·cases hi
theorem cJ.eF (i:Nat) (bo:List Nat) {ops:Array Oper} {W:Nat→Bool} {fuel fuel':Nat} {listed:Array Bool} {f:FuncId} {fU:List D} {t:Nat} {g:List (Nat × Bool)} {b:Bool} {mc:Option R} {res:R→D} {m:R→Option (A ⊕ T)} (r0:R)
 (vI:fuel=fuel'+1) (aAx:(aIC ops W listed i && Nat.blt i ops.size)=true) (hi:zA P n ops (mP ops.toList i) st bo=some ⟨f,fU,t,g,b⟩) (hfun:cQ P f fU [] mc res (fun _=>[]))
 (w6:∀ r,((res r).flat && (res r).exact.isSome)=true)
 (h:∀ r,cJ P n ops W fuel' (listed.setIfInBounds i true) cs (st.put (some t) (res r) st.cZ g) (m r) go ab):cJ P n ops W fuel listed cs st ((cX b mc r0).bind m) go ab:=by
 rw[aK] at aAx
 subst vI
 unfold zA at hi
 split at hi
 ·rename_i x args w4 t' g' uV hop hd hg hfr
  split at hi
  ·rename_i b' f' aE4 hb hca
   obtain ⟨hc,hi⟩:=cK hi
   simp only[aF,aCi.mk.injEq] at hi
   obtain ⟨rfl,rfl,rfl,rfl,rfl⟩:=hi
   simp only[aK] at hc
   have hlt:i<ops.size:=by simpa [bJ] using aAx.2
   have lX:ops[i]? = some (mP ops.toList i):=by
    simp [mP,List.getD,hlt]
   exact cJ.look i bo r0 hfun lX aAx.1 hg hb hop hd hfr hca hc.1 (by simp only[aK];exact hc.2.2)
    (fun r=>by have:=w6 r;rw[aK] at this;exact this.2) (fun r=>by have:=w6 r;rw[aK] at this;exact this.1) hc.2.1 h
  ·cases hi
 ·cases hi
theorem cJ.aEd (js:List Nat) {ops:Array Oper} {W:Nat→Bool} {fuel:Nat} {listed:Array Bool} (vI:fuel=js.length) (hs:(aLr .any ops listed js && js.all fun j=>W j && (ops[j]?).isSome)=true)
 (h:bY P n ops ((opsOf ops js).drop 0) cs st m go ab):cJ P n ops W fuel listed cs st m go ab:=cJ.tail js vI hs h
def St.setObj (st:St) (o:Nat) (x:Obj):St:=⟨st.tmps,st.cZ.set o x,st.gd,st.h⟩
theorem aLs (o:Nat) (x:Obj) (h:OLe (st.cZ.getD o .dead) x) (hx:Nat.blt o st.cZ.length=true):aME n st (st.setObj o x):=by
 intro Γ S β a w hr
 have hlt:o<st.cZ.length:=by simpa [bJ] using hx
 have h0:st.cZ[o]? = some (st.cZ.getD o .dead):=by simp [List.getD,aN hlt]
 have get:∀ (i:Nat) (y:Obj),(st.cZ.set o x)[i]? = some y→∃ y':Obj,st.cZ[i]? = some y'∧y.live=y'.live∧∀ S β w o',tC S β w o' y'→tC S β w o' y:=by
  intro i y hy
  by_cases hi:i=o
  ·subst hi
   rw[List.getElem?_set_self hlt] at hy
   simp only[aF] at hy
   subst hy
   exact ⟨_,h0,h.1.symm,h.2⟩
  ·rw[List.getElem?_set_ne (Ne.symm hi)] at hy
   exact ⟨y,hy,rfl,fun _ _ _ _ h=>h⟩
 refine ⟨⟨hr.core.frame,hr.core.holds,?_,?_,?_,?_,?_⟩,hr.tm,hr.un,hr.size,hr.defers,hr.hand⟩
 ·intro i y hy
  obtain ⟨y',h1,_,h3⟩:=get i y hy
  exact h3 _ _ _ _ (hr.core.cZ i y' h1)
 ·intro i hi
  exact hr.core.out i (by simpa [St.setObj] using hi)
 ·intro i i' k k' y y' hy hy' hl hl' hk hk' hne
  obtain ⟨z,h1,h2,_⟩:=get i y hy
  obtain ⟨z',h1',h2',_⟩:=get i' y' hy'
  exact hr.core.inj i i' k k' z z' h1 h1' (h2 ▸ hl) (h2' ▸ hl') hk hk' hne
 ·intro i k y hy hl hk
  obtain ⟨z,h1,h2,_⟩:=get i y hy
  exact hr.core.sep i k z h1 (h2 ▸ hl) hk
 ·intro i k y hy hl hk
  obtain ⟨z,h1,h2,_⟩:=get i y hy
  exact hr.core.mine i k z h1 (h2 ▸ hl) hk
end
end Go.Dl

namespace Go.Dl
variable [fT]
structure El (α:Type) where
 ty:TypeId
 w:Nat
 cs:α→List C
 d:α
variable {α:Type}
def El.at (E:El α) (l:List α) (i j:Nat):C:=(E.cs (l.getD i E.d)).getD j .bot
def El.tree (E:El α) (l:List α):C:=.tree E.w l.length (E.at l)
def El.row (E:El α) (l:List α):Obj:=.row E.ty E.w l.length (E.at l)
theorem w8 {β:Type} (l m:List β) (d:β) (i:Nat) (h:i<l.length):(l++m).getD i d=l.getD i d:=by
 simp [List.getD,List.getElem?_append_left h]
theorem w9 {β:Type} (l m:List β) (d:β) (i:Nat) (h:l.length≤i):(l++m).getD i d=m.getD (i - l.length) d:=by
 simp [List.getD,List.getElem?_append_right h]
theorem El.fR (E:El α) (xs ys:List α) {n m:Nat} (hn:n=xs.length) (hm:m=ys.length) :
 OLe (.row E.ty E.w (n+m) fun i j=>bif Nat.blt i n then E.at xs i j else E.at ys (i - n) j) (E.row (xs++ys)):=by
 subst hn hm
 refine OLe.row (by simp) fun i j hi hj=>?_
 unfold El.at
 rcases bI i xs.length with h | h
 ·have hb:Nat.blt i xs.length=true:=by simpa [bJ] using h
  rw[hb,cond_true,w8 _ _ _ _ h]
  exact eU.refl _
 ·have hb:Nat.blt i xs.length=false:=by
   cases hq:Nat.blt i xs.length with
   | false=>rfl
   | true=>rw[bJ] at hq;omega
  rw[hb,cond_false,w9 _ _ _ _ h]
  exact eU.refl _
theorem El.cP (E:El α) (l:List α) {n:Nat} {ll:List (List C)} (hn:n=l.length) (h:ll=l.map E.cs):OLe (.row E.ty E.w n (iM ll)) (E.row l):=by
 subst hn h
 refine OLe.row rfl fun i j hi _=>?_
 unfold iM El.at
 have:(l.map E.cs).getD i []=E.cs (l.getD i E.d):=by
  simp [List.getD,aN hi]
 rw[this]
 exact eU.refl _
theorem El.dI (E:El α):eU .nil (E.tree []):=by
 intro S β v hv
 exact ⟨none,0,hv,aR _,Nat.zero_le _,.inl rfl⟩
def St.jR (st:St) (t:Nat) (d:D):St:=⟨(t,d)::hG t st.tmps,st.cZ,st.gd,st.h⟩
section
variable {P:Program} {n:Nat} {A T:Type} {go:T→St} {ab:A→Ex × St} {st:St} {m:Option (A ⊕ T)} {cs:List Code}
theorem nZ (t:Nat) (d:D) (t':Nat):(st.jR t d).get t'=if t'=t then d else st.get t':=by
 unfold St.jR St.get
 simp only[eC]
 by_cases h:t'=t
 ·subst h
  rw[Nat.beq_refl,cond_true,aJ rfl]
 ·have hb:Nat.beq t t'=false:=by
   cases hq:Nat.beq t t' with
   | false=>rfl
   | true=>exact absurd (aP hq).symm h
  rw[hb,cond_false,aG h,lC h]
theorem aID (t:Nat) (d:D) (h:gB (st.get t) d) (hg:st.gd.isEmpty=true):aME n st (st.jR t d):=by
 intro Γ S β a w hr
 have hgd:st.gd=[]:=by simpa using hg
 have oY:∀ t',St.oU (st.jR t d) t'=[]:=by
  intro t';unfold St.oU St.jR;rw[hgd];rfl
 have aVP:∀ t',st.oU t'=[]:=by intro t';unfold St.oU;rw[hgd];rfl
 refine ⟨hr.core,fun t' _=>?_,fun t' hn=>?_,hr.size,hr.defers,hr.hand⟩
 ·have hx:=hr.tm t' (by rw[aVP t'];intro q hq;cases hq)
  rw[nZ]
  split
  ·rename_i e;subst e;exact h _ _ _ hx
  ·exact hx
 ·rw[oY t'] at hn
  exact absurd (fun q hq=>by cases hq) hn
end
end Go.Dl

namespace Go.Dl
variable [fT]
def Conv (n:Nat) (st cR:St):Prop:=∀ Γ S β a w,RR Γ S β a w n st→∃ S' β',RR Γ S' β' a w n cR
section
variable {P:Program} {n:Nat} {A T:Type} {go:T→St} {ab:A→Ex × St} {st cR aVQ:St} {m:Option (A ⊕ T)} {cs:List Code}
theorem Conv.le (h:aME n st cR):Conv n st cR:=fun Γ S β a w hr=>⟨S,β,h Γ S β a w hr⟩
theorem Conv.keep (l om:List Nat) (hk:st.keep l om=some cR):Conv n st cR:=fun Γ S β a w hr=>⟨S,iT β om,jU hr hk⟩
theorem Conv.freeze (o:Nat) (hf:st.freeze o=some cR):Conv n st cR:=fun Γ S β a w hr=>by
 obtain ⟨S',h,_⟩:=y9 hr hf
 exact ⟨S',β,h⟩
theorem Conv.obj (o:Nat) (x:Obj) (h:OLe (st.cZ.getD o .dead) x) (hx:Nat.blt o st.cZ.length=true):Conv n st (st.setObj o x):=Conv.le (aLs o x h hx)
theorem Conv.slot (t:Nat) (d:D) (h:gB (st.get t) d) (hg:st.gd.isEmpty=true):Conv n st (st.jR t d):=Conv.le (aID t d h hg)
theorem Ref.conv (hc:Conv n st cR) (h:Ref P n cs cR m go ab):Ref P n cs st m go ab:=fun Γ S β a w hr x hx=>by
 obtain ⟨S',β',h'⟩:=hc Γ S β a w hr
 exact h Γ S' β' a w h' x hx
theorem bY.conv {ops:Array Oper} {l:List Oper} (hc:Conv n st cR) (h:bY P n ops l cs cR m go ab):bY P n ops l cs st m go ab:=fun Γ S β a w hr x hx=>by
 obtain ⟨S',β',h'⟩:=hc Γ S β a w hr
 exact h Γ S' β' a w h' x hx
theorem cJ.conv {ops:Array Oper} {W:Nat→Bool} {fuel:Nat} {listed:Array Bool} (hc:Conv n st cR) (h:cJ P n ops W fuel listed cs cR m go ab):cJ P n ops W fuel listed cs st m go ab:=fun Γ S β a w hr x hx=>by
 obtain ⟨S',β',h'⟩:=hc Γ S β a w hr
 exact h Γ S' β' a w h' x hx
theorem aEe {Γ:nG} {S:Mem} {β:eB} {w:World} {xs:List Obj} (h:Core Γ S β w xs) (e:TypeId) (wd:Nat) (get:Nat→Nat→C) :
 Core Γ S (iL β xs.length none) w (xs++[.row e wd 0 get])∧mH β (iL β xs.length none) :=
 h.push default (.row e wd 0 get) none (.inl ⟨rfl,rfl⟩) (.inl ⟨by unfold iL;simp,rfl⟩)
def St.zB (st:St) (t:Nat) (x:Obj):St:=⟨(t,.c (.own st.cZ.length 0))::hG t st.tmps,st.cZ++[x],st.gd,st.h⟩
def aTg:D→Bool
 | .c .nil=>true
 | _=>false
theorem Conv.zB (t:Nat) (e:TypeId) (wd:Nat) (get:Nat→Nat→C) (hs:aTg (st.get t)=true) (hg:st.gd.isEmpty=true) (hh:Nat.ble st.h st.cZ.length=true):Conv n st (st.zB t (.row e wd 0 get)):=by
 intro Γ S β a w hr
 have aMO:st.get t = .c .nil:=by
  generalize st.get t=d at hs
  cases d with
  | c x=>cases x <;> first | rfl | cases hs
  | _=>cases hs
 have hgd:st.gd=[]:=by simpa using hg
 obtain ⟨hc,hb⟩:=aEe hr.core e wd get
 have hle:aME n ⟨st.tmps,st.cZ++[.row e wd 0 get],st.gd,st.h⟩ ⟨st.tmps,st.cZ++[.row e wd 0 get],st.gd,st.h⟩:=fun _ _ _ _ _ h=>h
 have aVR:∀ (l:List (Nat × D)) (xs:List Obj) (t':Nat),St.oU ⟨l,xs,st.gd,st.h⟩ t'=[]:=by
  intro l xs t';unfold St.oU;rw[hgd];rfl
 refine ⟨S,iL β st.cZ.length none,hc,fun t' _=>?_,fun t' hn=>?_,hr.size,hr.defers,fun o k ho hB=>hb _ _ (hr.hand o k ho hB)⟩
 ·have hx:=hr.tm t' (by
   have:st.oU t'=[]:=aVR st.tmps st.cZ t'
   rw[this];intro q hq;cases hq)
  have aMP:(st.zB t (.row e wd 0 get)).get t'=if t'=t then .c (.own st.cZ.length 0) else st.get t':=nZ (st:=st) t (.c (.own st.cZ.length 0)) t'
  rw[aMP]
  split
  ·rename_i e'
   subst e'
   rw[aMO] at hx
   have hv:a.tmps.getD t' undef = .slice none 0 0:=hx
   rw[hv]
   show dN S (iL β st.cZ.length none) (.own st.cZ.length 0) _
   have:iL β st.cZ.length none st.cZ.length=some none:=by unfold iL;simp
   simp only[dN,this]
   exact ⟨trivial,trivial⟩
  ·exact eI.up (lP.refl _) hb hx
 ·have:St.oU (st.zB t (.row e wd 0 get)) t'=[]:=aVR _ _ t'
  rw[this] at hn
  exact absurd (fun q hq=>by cases hq) hn
theorem eT.set {S:Mem} {β:eB} {l:List C} {us:List Value} {j:Nat} {c:C} (h:eT S β l us) (hc:∀ u,us[j]? = some u→dN S β c u):eT S β (l.set j c) us:=by
 refine eT.uX (by rw[List.length_set];exact h.length) fun i x hx=>?_
 by_cases hi:i=j
 ·subst hi
  have hlt:i<l.length:=by
   rcases bI i l.length with h1 | h1
   ·exact h1
   ·rw[aZ (by simpa using h1)] at hx;cases hx
  rw[List.getElem?_set_self hlt] at hx
  simp only[aF] at hx
  subst hx
  obtain ⟨u,hu,_⟩:=h.get i _ (aN hlt)
  exact ⟨u,hu,hc u hu⟩
 ·rw[List.getElem?_set_ne (Ne.symm hi)] at hx
  exact h.get i x hx
def St.gF (st:St) (o j:Nat) (x:Obj):Option St :=
 match st.cZ[o]? with
 | some (.cells l)=>(match l[j]? with
   | some .nil=>some ⟨st.tmps,st.cZ.set o (.cells (l.set j (.own st.cZ.length 0)))++[x],st.gd,st.h⟩
   | _=>none)
 | _=>none
theorem Conv.gF (o j:Nat) (e:TypeId) (wd:Nat) (get:Nat→Nat→C) (hs:st.gF o j (.row e wd 0 get)=some cR):Conv n st cR:=by
 intro Γ S β a w hr
 unfold St.gF at hs
 split at hs
 ·rename_i l ho
  split at hs
  ·rename_i hj
   simp only[aF] at hs
   subst hs
   obtain ⟨hc,hb⟩:=aEe hr.core e wd get
   have hlt:o<st.cZ.length:=by
    rcases bI o st.cZ.length with h1 | h1
    ·exact h1
    ·rw[aZ h1] at ho;cases ho
   have hn:iL β st.cZ.length none st.cZ.length=some none:=by unfold iL;simp
   have h1:RR Γ S (iL β st.cZ.length none) a w n ⟨st.tmps,st.cZ++[.row e wd 0 get],st.gd,st.h⟩ :=
    ⟨hc,fun t ht=>eI.up (lP.refl _) hb (hr.tm t ht),fun t ht=>hr.un t ht,hr.size,hr.defers,fun o k ho hB=>hb _ _ (hr.hand o k ho hB)⟩
   refine ⟨S,iL β st.cZ.length none,?_⟩
   have aMQ:st.cZ.set o (.cells (l.set j (.own st.cZ.length 0)))++[Obj.row e wd 0 get]=(st.cZ++[Obj.row e wd 0 get]).set o (.cells (l.set j (.own st.cZ.length 0))):=by
    rw[List.set_append_left _ _ hlt]
   rw[aMQ]
   have h0:(st.cZ++[Obj.row e wd 0 get])[o]? = some (.cells l):=by rw[List.getElem?_append_left hlt];exact ho
   have get':∀ (i:Nat) (y:Obj),((st.cZ++[Obj.row e wd 0 get]).set o (.cells (l.set j (.own st.cZ.length 0))))[i]? = some y →
    ∃ y':Obj,(st.cZ++[Obj.row e wd 0 get])[i]? = some y'∧y.live=y'.live∧(tC S (iL β st.cZ.length none) w i y'→tC S (iL β st.cZ.length none) w i y):=by
    intro i y hy
    by_cases hi:i=o
    ·subst hi
     rw[List.getElem?_set_self (by simp;omega)] at hy
     simp only[aF] at hy
     subst hy
     refine ⟨_,h0,rfl,?_⟩
     rintro ⟨k,q1,q2,q3,q4,us,q5,q6,q7⟩
     refine ⟨k,q1,by rw[List.length_set];exact q2,q3,q4,us,q5,q6.set fun u hu=>?_,q7⟩
     obtain ⟨u',hu',hr'⟩:=q6.get j _ hj
     rw[hu] at hu'
     simp only[aF] at hu'
     subst hu'
     have hv:u = .slice none 0 0:=hr'
     subst hv
     simp only[dN,hn]
     exact ⟨trivial,trivial⟩
    ·rw[List.getElem?_set_ne (Ne.symm hi)] at hy
     exact ⟨y,hy,rfl,id⟩
   refine ⟨⟨h1.core.frame,h1.core.holds,?_,?_,?_,?_,?_⟩,h1.tm,h1.un,h1.size,h1.defers,h1.hand⟩
   ·intro i y hy
    obtain ⟨y',g1,_,g3⟩:=get' i y hy
    exact g3 (h1.core.cZ i y' g1)
   ·intro i hi
    exact h1.core.out i (by simpa using hi)
   ·intro i i' k k' y y' hy hy' hl hl' hk hk' hne
    obtain ⟨z,g1,g2,_⟩:=get' i y hy
    obtain ⟨z',g1',g2',_⟩:=get' i' y' hy'
    exact h1.core.inj i i' k k' z z' g1 g1' (g2 ▸ hl) (g2' ▸ hl') hk hk' hne
   ·intro i k y hy hl hk
    obtain ⟨z,g1,g2,_⟩:=get' i y hy
    exact h1.core.sep i k z g1 (g2 ▸ hl) hk
   ·intro i k y hy hl hk
    obtain ⟨z,g1,g2,_⟩:=get' i y hy
    exact h1.core.mine i k z g1 (g2 ▸ hl) hk
  ·cases hs
 ·cases hs
end
end Go.Dl

namespace Go.Dl
variable [fT]
abbrev Bytes:=List UInt8
variable {α:Type}
def El.ep (E:El α) (x:α) (j:Nat):C:=.rI E.w (fun j=>(E.cs x).getD j .bot) j
section
variable {P:Program} {n:Nat} {A T:Type} {go:T→St} {ab:A→Ex × St} {st cR:St} {m:Option (A ⊕ T)} {cs:List Code}
theorem bY.ev0 (k j k':Nat) (keep om:List Nat) {ops:Array Oper} {l:List Oper} (hk:k'=k+j)
 (he:iZ P n ops ((l.drop k).take j) st keep om=some ([],cR)) (h:bY P n ops (l.drop k') cs cR m go ab):bY P n ops (l.drop k) cs st m go ab:=by
 intro Γ S β a w hr x hx
 exact bY.nR (vs:=[]) k j k' keep om hk he h Γ S β a w hr x hx
theorem gB.c {c c':C} (h:eU c c'):gB (.c c) (.c c'):=fun S β v hv=>h S β v hv
theorem eT.le {S:Mem} {β:eB}:∀ {l l':List C} {us:List Value},fF eU l l'→eT S β l us→eT S β l' us
 | _,_,_,.nil,h=>h
 | _,_,_,.cons hc hr,⟨v,r,h1,h2,h3⟩=>⟨v,r,h1,hc _ _ _ h2,eT.le hr h3⟩
theorem gB.agg {l l':List C} (h:fF eU l l'):gB (.agg l) (.agg l'):=fun _ _ _ ⟨vs,h1,h2⟩=>⟨vs,h1,eT.le h h2⟩
theorem eU.own {o k k':Nat} (h:k=k'):eU (.own o k) (.own o k'):=h ▸ eU.refl _
end
end Go.Dl
