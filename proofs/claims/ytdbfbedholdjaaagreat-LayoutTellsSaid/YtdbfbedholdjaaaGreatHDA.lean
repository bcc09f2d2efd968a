/- No conditions. -/
import Derived.Calls
import Derived.Laws.AppendOwn
import Derived.Below
import Derived.Laws.Build
import Derived.Laws.Cells
import Derived.ChangeKeysEq
import Derived.Laws.Rows
import Derived.Laws.Strings
import Derived.Lib.Strings
import Derived.Great.BuildSlice
import Derived.Tactics
set_option linter.unusedVariables false
set_option linter.unusedSimpArgs false
set_option linter.unusedSectionVars false
namespace Go
abbrev aA:=@Option.some.injEq
abbrev aB:=@decide_eq_true_eq
abbrev aC:=@Bool.and_eq_true
abbrev aD:=@if_neg
abbrev aE:=@if_pos
abbrev aF:=@List.getElem?_eq_getElem
abbrev aG:=@List.length_append
abbrev aH:=@Nat.eq_of_beq_eq_true
abbrev aI:=@Prod.mk.injEq
abbrev aJ:=@List.mem_singleton
abbrev aK:=@List.length_take
abbrev aL:=@Bool.or_eq_true
abbrev aM:=@Nat.le_refl
abbrev aN:=@List.all_eq_true
abbrev aO:=@Array.getD_eq_getD_getElem?
abbrev aP:=@Int.eq_ofNat_of_zero_le
abbrev aQ:=@Bool.not_eq_true'
abbrev aR:=@Bool.false_eq_true
abbrev aS:=@Nat.le_trans
abbrev aT:=@List.mem_cons_of_mem
abbrev aU:=@List.length_map
abbrev aV:=@Nat.mul_le_mul_right
abbrev aW:=@Nat.blt_eq
abbrev aX:=@Nat.le_of_ble_eq_true
abbrev aY:=@List.mem_cons
abbrev aZ:=@List.mem_append
abbrev bA:=@List.mem_cons_self
abbrev bB:=@List.getElem?_eq_none
abbrev bD:=@List.take_length
abbrev bE:=@Nat.lt_or_ge
abbrev bF:=@Array.getElem?_toList
abbrev bG:=@List.getElem?_map
abbrev bH:=@Nat.lt_of_lt_of_le
abbrev bI:=@Option.isSome_iff_exists
abbrev bJ:=@List.append_assoc
abbrev bK:=@List.map_append
abbrev bL:=@List.mem_of_getElem?
abbrev bM:=@List.length_drop
abbrev bN:=@List.append_nil
end Go
namespace Go.Dl
inductive C where
 | bot
 | val (v:Value)
 | str (l:List UInt8)
 | nil
 | tree (w n:Nat) (get:Nat→Nat→C)
 | own (o n:Nat)
 | ptr (o i j:Nat)
 | nP (w:Nat) (row:Nat→C) (j:Nat)
 | opt (b:Bool) (c:C)
 | iface (b:Bool) (t:TypeId) (c:C)
 | func (fn:Fn) (k:Nat) (cap:Nat→C)
 | cond (b:Bool) (c:C)
 | self (t:TypeId) (b:Bool) (o:Nat)
 | map (o:Nat)
 | tail (o lo n:Nat)
inductive D1 where
 | c (c:C)
 | agg (l:List C)
inductive D where
 | c (c:C)
 | agg (l:List C)
 | jW (l:List D1)
structure Bk where
 b:Nat
 e:TypeId
 w:Nat
 n:Nat
 cap:Nat
abbrev Mem:=Nat→Nat→Option Value
abbrev dG:=Nat→Option (Option Bk)
def pQ:dG:=fun _=>none
def cV (S:Mem):dG→C→Value→Prop
 | _,.bot,_=>True
 | _,.val u,v=>v=u
 | _,.str l,v=>v = .string ⟨l.toArray⟩∧l.length≤maxLen
 | _,.nil,v=>v = .slice none 0 0
 | _,.tree w n get,v=>∃ a cap,v = .slice a n cap∧n≤cap∧cap≤maxLen ∧
  (n=0∨∃ b off,a=some ⟨b,off,none⟩∧∀ i j,i<n→j<w→∃ u,S b (off+i * w+j)=some u∧cV S pQ (get i j) u)
 | β,.own o n,v=>match β o with
  | some (some k)=>n≤k.n∧n≤k.cap∧v = .slice (some ⟨k.b,0,none⟩) n k.cap
  | some none=>n=0∧v = .slice none 0 0
  | none=>False
 | β,.ptr o i j,v=>∃ k,β o=some (some k)∧i<k.n∧j<k.w∧v = .pointer (some ⟨k.b,i * k.w+j,none⟩)
 | _,.nP w row j,v=>∃ b off,v = .pointer (some ⟨b,off+j,none⟩)∧∀ j',j'<w→∃ u,S b (off+j')=some u∧cV S pQ (row j') u
 | β,.opt b c,v=>if b=true then cV S β c v else v = .pointer none
 | β,.iface b t c,v=>if b=true then ∃ u,v = .iface t u∧cV S β c u else v = .nilIface
 | β,.func fn k cap,v=>∃ vs:Array Value,v = .func fn #[] vs∧vs.size=k∧∀ i,i<k→cV S β (cap i) (vs.getD i undef)
 | β,.cond b c,v=>b=true→cV S β c v
 | β,.self t b o,v=>∃ k,β o=some (some k)∧k.e=t∧v=if b=true then .pointer (some ⟨k.b,0,none⟩) else .pointer none
 | β,.map o,v=>∃ k,β o=some (some k)∧v = .map (some k.b)
 | β,.tail o lo n,v=>∃ a cap,v = .slice a n cap∧n≤cap∧(n=0∨∃ k,β o=some (some k)∧lo+n≤k.n∧a=some ⟨k.b,lo * k.w,none⟩)
def eM (S:Mem) (β:dG):List C→List Value→Prop
 | [],vs=>vs=[]
 | c::cs,vs=>∃ v r,vs=v::r∧cV S β c v∧eM S β cs r
def jT (S:Mem) (β:dG):D1→Value→Prop
 | .c c,v=>cV S β c v
 | .agg l,v=>∃ vs:List Value,v = .agg vs.toArray∧eM S β l vs
def rC (S:Mem) (β:dG):List D1→List Value→Prop
 | [],vs=>vs=[]
 | d::ds,vs=>∃ v r,vs=v::r∧jT S β d v∧rC S β ds r
def dR (S:Mem) (β:dG):D→Value→Prop
 | .c c,v=>cV S β c v
 | .agg l,v=>∃ vs:List Value,v = .agg vs.toArray∧eM S β l vs
 | .jW l,v=>∃ vs:List Value,v = .tuple vs.toArray∧rC S β l vs
def jL (S S':Mem):Prop:=∀ b i v,S b i=some v→S' b i=some v
theorem jL.refl (S:Mem):jL S S:=fun _ _ _ h=>h
theorem jL.trans {a b c:Mem} (h:jL a b) (k:jL b c):jL a c:=fun _ _ _ x=>k _ _ _ (h _ _ _ x)
theorem cV.mono {S S':Mem} (h:jL S S'):∀ (c:C) (β:dG) (v:Value),cV S β c v→cV S' β c v:=by
 intro c
 induction c with
 | bot=>intro _ _ _;trivial
 | val u=>intro _ _ h;exact h
 | str l=>intro _ _ h;exact h
 | nil=>intro _ _ h;exact h
 | tree w n get ih =>
   rintro β v ⟨a,cap,h1,h2,h3,h4⟩
   refine ⟨a,cap,h1,h2,h3,?_⟩
   rcases h4 with h4 | ⟨b,off,h5,h6⟩
   ·exact .inl h4
   ·refine .inr ⟨b,off,h5,fun i j hi hj=>?_⟩
    obtain ⟨u,hu,hr⟩:=h6 i j hi hj
    exact ⟨u,h _ _ _ hu,ih i j _ _ hr⟩
 | own o n=>intro _ _ h;exact h
 | ptr o i j=>intro _ _ h;exact h
 | nP w row j ih =>
   rintro β v ⟨b,off,h1,h2⟩
   refine ⟨b,off,h1,fun j' hj=>?_⟩
   obtain ⟨u,hu,hr⟩:=h2 j' hj
   exact ⟨u,h _ _ _ hu,ih j' _ _ hr⟩
 | opt b c ih =>
   intro β v hv
   simp only[cV] at hv ⊢
   split at hv
   ·rename_i hb;rw[aE hb];exact ih _ _ hv
   ·rename_i hb;rw[aD hb];exact hv
 | iface b t c ih =>
   intro β v hv
   simp only[cV] at hv ⊢
   split at hv
   ·rename_i hb;rw[aE hb];obtain ⟨u,hu,hr⟩:=hv;exact ⟨u,hu,ih _ _ hr⟩
   ·rename_i hb;rw[aD hb];exact hv
 | func fn k cap ih =>
   rintro β v ⟨vs,h1,h2,h3⟩
   exact ⟨vs,h1,h2,fun i hi=>ih i _ _ (h3 i hi)⟩
 | cond b c ih =>
   intro β v hv hb
   exact ih _ _ (hv hb)
 | self t b o=>intro _ _ h;exact h
 | map o=>intro _ _ h;exact h
 | tail o lo n=>intro _ _ h;exact h
def kK (β β':dG):Prop:=∀ o k,β o=some k→β' o=some k
theorem kK.refl (β:dG):kK β β:=fun _ _ h=>h
theorem kK.pQ (β:dG):kK pQ β:=fun _ _ h=>by cases h
theorem cV.grow {S:Mem}:∀ (c:C) {β β':dG},kK β β'→∀ (v:Value),cV S β c v→cV S β' c v:=by
 intro c
 induction c with
 | bot=>intros;trivial
 | val u=>intro _ _ _ _ h;exact h
 | str l=>intro _ _ _ _ h;exact h
 | nil=>intro _ _ _ _ h;exact h
 | tree w n get ih=>intro _ _ _ _ h;exact h
 | own o n =>
   intro β β' hb v hv
   simp only[cV] at hv ⊢
   cases ho:β o with
   | none=>simp [ho] at hv
   | some x=>rw[ho] at hv;rw[hb _ _ ho];exact hv
 | ptr o i j =>
   rintro β β' hb v ⟨k,h1,h2⟩
   exact ⟨k,hb _ _ h1,h2⟩
 | nP w row j ih=>intro _ _ _ _ h;exact h
 | opt b c ih =>
   intro β β' hb v hv
   simp only[cV] at hv ⊢
   split at hv
   ·rename_i h;rw[aE h];exact ih hb _ hv
   ·rename_i h;rw[aD h];exact hv
 | iface b t c ih =>
   intro β β' hb v hv
   simp only[cV] at hv ⊢
   split at hv
   ·rename_i h;rw[aE h];obtain ⟨u,hu,hr⟩:=hv;exact ⟨u,hu,ih hb _ hr⟩
   ·rename_i h;rw[aD h];exact hv
 | func fn k cap ih =>
   rintro β β' hb v ⟨vs,h1,h2,h3⟩
   exact ⟨vs,h1,h2,fun i hi=>ih i hb _ (h3 i hi)⟩
 | cond b c ih =>
   intro β β' hb v hv h
   exact ih hb _ (hv h)
 | self t b o =>
   rintro β β' hb v ⟨k,h1,h2⟩
   exact ⟨k,hb _ _ h1,h2⟩
 | map o =>
   rintro β β' hb v ⟨k,h1,h2⟩
   exact ⟨k,hb _ _ h1,h2⟩
 | tail o lo n =>
   rintro β β' hb v ⟨a,cap,h1,h2,h3⟩
   refine ⟨a,cap,h1,h2,?_⟩
   rcases h3 with h3 | ⟨k,h3,h4⟩
   ·exact .inl h3
   ·exact .inr ⟨k,hb _ _ h3,h4⟩
theorem cV.up {S S':Mem} {β β':dG} (h:jL S S') (hb:kK β β') {c:C} {v:Value} (hc:cV S β c v):cV S' β' c v :=
 cV.grow c hb v (cV.mono h c β v hc)
theorem cV.closed {S:Mem} {β:dG} {c:C} {v:Value} (hc:cV S pQ c v):cV S β c v:=cV.grow c (kK.pQ β) v hc
theorem eM.up {S S':Mem} {β β':dG} (h:jL S S') (hb:kK β β'):∀ {l:List C} {vs:List Value},eM S β l vs→eM S' β' l vs
 | [],_,hv=>hv
 | _::_,_,⟨v,r,h1,h2,h3⟩=>⟨v,r,h1,cV.up h hb h2,eM.up h hb h3⟩
theorem jT.up {S S':Mem} {β β':dG} (h:jL S S') (hb:kK β β'):∀ {d:D1} {v:Value},jT S β d v→jT S' β' d v
 | .c _,_,hv=>cV.up h hb hv
 | .agg _,_,⟨vs,h1,h2⟩=>⟨vs,h1,eM.up h hb h2⟩
theorem rC.up {S S':Mem} {β β':dG} (h:jL S S') (hb:kK β β'):∀ {l:List D1} {vs:List Value},rC S β l vs→rC S' β' l vs
 | [],_,hv=>hv
 | _::_,_,⟨v,r,h1,h2,h3⟩=>⟨v,r,h1,jT.up h hb h2,rC.up h hb h3⟩
theorem dR.up {S S':Mem} {β β':dG} (h:jL S S') (hb:kK β β'):∀ {d:D} {v:Value},dR S β d v→dR S' β' d v
 | .c _,_,hv=>cV.up h hb hv
 | .agg _,_,⟨vs,h1,h2⟩=>⟨vs,h1,eM.up h hb h2⟩
 | .jW _,_,⟨vs,h1,h2⟩=>⟨vs,h1,rC.up h hb h2⟩
theorem eM.length {S:Mem} {β:dG}:∀ {l:List C} {vs:List Value},eM S β l vs→vs.length=l.length
 | [],_,h=>by simp [eM] at h;simp [h]
 | _::_,_,⟨_,_,h1,_,h3⟩=>by subst h1;simp [eM.length h3]
theorem eM.get {S:Mem} {β:dG}:∀ {l:List C} {vs:List Value},eM S β l vs→∀ (i:Nat) (c:C),l[i]? = some c→∃ v,vs[i]? = some v∧cV S β c v
 | [],_,_,i,c,hi=>by simp at hi
 | _::_,_,⟨v,r,h1,h2,h3⟩,i,c,hi=>by
   subst h1
   cases i with
   | zero=>simp at hi;subst hi;exact ⟨v,by simp,h2⟩
   | succ i=>simp at hi;obtain ⟨u,hu,hr⟩:=eM.get h3 i c hi;exact ⟨u,by simpa using hu,hr⟩
theorem eM.rD {S:Mem} {β:dG}:∀ {l:List C} {vs:List Value},vs.length=l.length→(∀ (i:Nat) (c:C),l[i]? = some c→∃ v,vs[i]? = some v∧cV S β c v)→eM S β l vs
 | [],vs,hl,_=>by simpa [eM] using hl
 | c::l,[],hl,_=>by simp at hl
 | c::l,v::vs,hl,h=>by
   refine ⟨v,vs,rfl,?_,eM.rD (by simpa using hl) fun i c' hc=>?_⟩
   ·obtain ⟨u,hu,hr⟩:=h 0 c rfl
    simp at hu;subst hu;exact hr
   ·obtain ⟨u,hu,hr⟩:=h (i+1) c' (by simpa using hc)
    exact ⟨u,by simpa using hu,hr⟩
inductive Obj where
 | cells (l:List C)
 | row (e:TypeId) (w n:Nat) (get:Nat→Nat→C)
 | aA5 (e:TypeId) (bs:List UInt8)
 | map (zero:Value) (has:Int→Bool) (get:Int→Nat→C)
 | dead
def Obj.live:Obj→Bool
 | .dead=>false
 | _=>true
def Holds (S:Mem) (w:World):Prop:=∀ b i v,S b i=some v→w.cell? ⟨b,i,none⟩=some v∧v.oneCell'=true
def VC (S:Mem) (v:Value) (f:Nat→C):Prop:=∀ j u,v.cells[j]? = some u→cV S pQ (f j) u
theorem VC.mono {S S':Mem} (h:jL S S') {v:Value} {f:Nat→C} (hv:VC S v f):VC S' v f:=fun j u hu=>cV.mono h _ _ _ (hv j u hu)
def isKey (i:Int) (v:Value):Bool :=
 match v with
 | .int .i64 n=>n == i
 | _=>false
def iZ:List MapEntry→Int→Option Value
 | [],_=>none
 | e::r,i=>bif isKey i e.key then some e.val else iZ r i
def aBW (v z:Value):Prop :=
 match z with
 | .agg cs=>∃ ds,v = .agg ds∧ds.size=cs.size
 | .tuple _=>False
 | _=>v.oneCell'=true
def rE (S:Mem) (β:dG) (w:World) (o:Nat):Obj→Prop
 | .dead=>True
 | .cells l=>∃ k,β o=some (some k)∧k.w=l.length∧k.n=1∧k.cap=1 ∧
  ∃ vs:List Value,w.heap[k.b]? = some (.cells vs.toArray k.e (0,0))∧eM S β l vs∧∀ u∈vs,u.oneCell'=true
 | .row e wd n get=>(β o=some none∧n=0)∨∃ k,β o=some (some k)∧k.e=e∧k.w=wd∧k.n=n∧n≤k.cap∧k.cap≤maxLen ∧
  ∃ cur,w.heap[k.b]? = some (.cells cur e (0,0))∧cur.size=k.cap * wd ∧
    ∀ i j,i<n→j<wd→∃ u,cur[i * wd+j]? = some u∧u.oneCell'=true∧cV S pQ (get i j) u
 | .aA5 e bs=>∃ k,β o=some (some k)∧k.e=e∧k.w=1∧k.n=bs.length∧bs.length≤k.cap∧k.cap≤maxLen ∧
  ∃ cur fz,w.heap[k.b]? = some (.cells cur e fz)∧(fz=(0,0)∨k.cap≤fz.1)∧cur.size=k.cap ∧
    ∀ i,i<bs.length→cur[i]? = some (.int .u8 (Int.ofNat (bs.getD i 0).toNat))
 | .map z has get=>∃ k,β o=some (some k)∧∃ ms clock,w.heap[k.b]? = some (.map ms clock)∧(∀ e∈ms.toList,∃ n,e.key = .int .i64 n) ∧
  ∀ i,VC S ((iZ ms.toList i).getD z) (get i)∧(iZ ms.toList i).isSome=has i∧aBW ((iZ ms.toList i).getD z) z
structure j6 where
 S:Mem
 w:World
 M:Nat→Prop
 B:dG:=pQ
class dO where
 N:Nat
 I:World→Prop
 size:∀ w,I w→N≤w.heap.size
 keep:∀ w w':World,w.heap.size≤w'.heap.size→(∀ b,b<N→w'.heap[b]? = w.heap[b]?)→I w→I w'
variable [dO]
structure Frame (Γ:j6) (S:Mem) (w:World):Prop where
 os:w.os=Γ.w.os
 tape:w.tape=Γ.w.tape
 output:w.output=Γ.w.output
 size:Γ.w.heap.size≤w.heap.size
 block:∀ b,b<Γ.w.heap.size→¬ Γ.M b→w.heap[b]? = Γ.w.heap[b]?
 mem:∀ b i,b<Γ.w.heap.size→¬ Γ.M b→S b i=Γ.S b i
 le:jL Γ.S S
 aDS:∀ b,Γ.M b→dO.N≤b
 inv:dO.I Γ.w
structure Core (Γ:j6) (S:Mem) (β:dG) (w:World) (xs:List Obj):Prop where
 frame:Frame Γ S w
 holds:Holds S w
 cC:∀ o x,xs[o]? = some x→rE S β w o x
 out:∀ o,xs.length≤o→β o=none
 inj:∀ o o' k k' x x',xs[o]? = some x→xs[o']? = some x'→x.live=true→x'.live=true→β o=some (some k)→β o'=some (some k')→o≠o'→k.b≠k'.b
 sep:∀ o k x,xs[o]? = some x→x.live=true→β o=some (some k)→∀ i,S k.b i=none
 mine:∀ o k x,xs[o]? = some x→x.live=true→β o=some (some k)→k.b<w.heap.size∧(k.b<Γ.w.heap.size→Γ.M k.b)
structure St where
 tmps:List (Nat × D)
 cC:List Obj
 gd:List (Nat × List (Nat × Bool)):=[]
 h:Nat:=0
def dK {α:Type} (z:α):List (Nat × α)→Nat→α
 | [],_=>z
 | (i,d)::r,t=>bif Nat.beq i t then d else dK z r t
def St.get (st:St) (t:Nat):D:=dK (.c .bot) st.tmps t
def St.nE (st:St) (t:Nat):List (Nat × Bool):=dK [] st.gd t
def St.holds (st:St) (g:List (Nat × Bool)):Prop:=∀ p∈g,st.get p.1 = .c (.val (.bool p.2))
structure RR (Γ:j6) (S:Mem) (β:dG) (a:Act) (w:World) (n:Nat) (st:St):Prop where
 core:Core Γ S β w st.cC
 tm:∀ t,st.holds (st.nE t)→dR S β (st.get t) (a.tmps.getD t undef)
 un:∀ t,¬ st.holds (st.nE t)→a.tmps.getD t undef=undef
 size:a.tmps.size=n
 defers:a.defers=[]
 hand:∀ o k,o<st.h→Γ.B o=some k→β o=some k
end Go.Dl

namespace Go.Dl
variable [dO]
def aEV:Value→C
 | .string s=>bif Nat.ble s.data.toList.length 65536 then .str s.data.toList else .val (.string s)
 | .slice none 0 0=>.nil
 | v=>.val v
def cst:Value→D
 | .agg cs=>.agg (cs.toList.map aEV)
 | .tuple _=>.c .bot
 | v=>.c (aEV v)
def St.lv (st:St):Operand→D
 | .tmp t=>st.get t
 | .const v=>cst v
 | .global g=>.c (.val (.pointer (some ⟨g,0,none⟩)))
 | .func f=>.c (.func (.func f) 0 fun _=>.bot)
def cP (i:Int) (n:Nat):Bool:=decide (0≤i) && decide (i<n)
def room (n:Nat):Bool:=decide (n≤140737488355328)
abbrev Res:=Option (List Bool × D × List Obj)
def rF (P:Program) (t:TypeId):Bool :=
 match P.underlying t with
 | some (.struct _) | some (.array _ _)=>true
 | _=>false
def zS (P:Program) (t:TypeId) (d:D) (xs:List Obj):Res :=
 match d with
 | .c (.ptr o i j) =>
   (match xs[o]? with
   | some (.cells l) =>
     bif rF P t then (bif Nat.ble (j+P.cellsOf t) l.length then some ([],.agg ((l.drop j).take (P.cellsOf t)),xs) else none)
     else (l[j]?).elim none fun c=>some ([],.c c,xs)
   | some (.row _ w _ get) =>
     bif rF P t then (bif Nat.ble (j+P.cellsOf t) w then some ([],.agg ((List.range (P.cellsOf t)).map fun c=>get i (j+c)),xs) else none)
     else some ([],.c (get i j),xs)
   | _=>none)
 | .c (.nP w row j) =>
   bif rF P t then (bif Nat.ble (j+P.cellsOf t) w then some ([],.agg ((List.range (P.cellsOf t)).map fun c=>row (j+c)),xs) else none)
   else bif Nat.blt j w then some ([],.c (row j),xs) else none
 | _=>none
def D.cells:D→Option (List C)
 | .c x=>some [x]
 | .agg l=>some l
 | .jW _=>none
def C.good:C→Bool
 | .bot | .cond _ _=>false
 | .val v=>v.oneCell'
 | .opt _ c=>c.good
 | _=>true
def C.shut:C→Bool
 | .val v=>v.oneCell'
 | .str _ | .nil | .tree _ _ _ | .nP _ _ _=>true
 | .iface _ _ c=>c.shut
 | .opt _ c=>c.shut
 | .func _ k cap=>(List.range k).all fun i=>(cap i).shut
 | _=>false
def aEX (l:List C) (j:Nat) (cs:List C):List C:=l.take j++(cs++l.drop (j+cs.length))
def setRow (get:Nat→Nat→C) (i j:Nat) (l:List C):Nat→Nat→C:=fun i' j' =>
 bif Nat.beq i' i && (Nat.ble j j' && Nat.blt j' (j+l.length)) then l.getD (j' - j) .bot else get i' j'
def aD4 (P:Program) (e:TypeId) (w:Nat):Bool :=
 match P.info? e with
 | some i=>Nat.beq w i.size
 | none=>false
def aBs (P:Program) (t:TypeId) (d v:D) (xs:List Obj):Option (List Obj) :=
 match v.cells with
 | none=>none
 | some l =>
   bif aD4 P t l.length && l.all C.good then
    (match d with
    | .c (.ptr o i j) =>
      (match xs[o]? with
      | some (.cells cs)=>bif Nat.ble (j+l.length) cs.length then some (xs.set o (.cells (aEX cs j l))) else none
      | some (.row e w n get)=>bif Nat.ble (j+l.length) w && l.all C.shut then some (xs.set o (.row e w n (setRow get i j l))) else none
      | _=>none)
    | _=>none)
   else none
def aJ3 (P:Program) (t:TypeId) (v:D) (xs:List Obj):Res :=
 match v.cells with
 | some l=>bif l.all C.good && Nat.blt 0 l.length then some ([],.c (.ptr xs.length 0 0),xs++[.cells l]) else none
 | none=>none
def aFg (P:Program) (t:TypeId) (xs:List Obj):Res :=
 match (P.info? t).bind (·.zero) with
 | some z=>aJ3 P t (cst z) xs
 | none=>none
def pH (P:Program) (s:TypeId) (d:D) (f:Nat) (xs:List Obj):Res :=
 match P.underlying s with
 | some (.struct fs) =>
   (match fs[f]? with
   | some fd =>
     (match P.info? fd.type with
     | some fi =>
       bif Nat.blt 0 fi.size then
        (match d with
        | .c (.ptr o i j) =>
          (match xs[o]? with
          | some (.cells l)=>bif Nat.blt (j+fd.offset) l.length then some ([],.c (.ptr o i (j+fd.offset)),xs) else none
          | some (.row _ w _ _)=>bif Nat.blt (j+fd.offset) w then some ([],.c (.ptr o i (j+fd.offset)),xs) else none
          | _=>none)
        | .c (.nP w row j)=>some ([],.c (.nP w row (j+fd.offset)),xs)
        | _=>none)
       else none
     | none=>none)
   | none=>none)
 | _=>none
def aBu (P:Program) (s:TypeId) (d:D) (f:Nat) (xs:List Obj):Res :=
 match P.underlying s,d with
 | some (.struct fs),.agg l =>
   (match fs[f]? with
   | some fd =>
     bif rF P fd.type then (bif Nat.ble (fd.offset+P.cellsOf fd.type) l.length then some ([],.agg ((l.drop fd.offset).take (P.cellsOf fd.type)),xs) else none)
     else (l[fd.offset]?).elim none fun c=>some ([],.c c,xs)
   | none=>none)
 | _,_=>none
def pI (P:Program) (t:TypeId) (x ix:D) (xs:List Obj):Res :=
 match P.underlying t,x,ix with
 | some (.slice e),.c (.tree w n get),.c (.val (.int _ i)) =>
   bif aD4 P e w then some ([cP i n],.c (.nP w (get i.toNat) 0),xs) else none
 | some (.slice e),.c (.own o n),.c (.val (.int _ i)) =>
   (match xs[o]? with
   | some (.row _ w _ _)=>bif aD4 P e w && Nat.blt 0 w then some ([cP i n],.c (.ptr o i.toNat 0),xs) else none
   | _=>none)
 | some (.slice e),.c (.tail o lo n),.c (.val (.int _ i)) =>
   (match xs[o]? with
   | some (.row _ w _ _)=>bif aD4 P e w && Nat.blt 0 w then some ([cP i n],.c (.ptr o (lo+i.toNat) 0),xs) else none
   | _=>none)
 | some (.slice _),.c .nil,.c (.val (.int _ _))=>some ([false],.c .bot,xs)
 | some (.array len e),.c (.ptr o i j),.c (.val (.int _ k)) =>
   (match xs[o]? with
   | some (.cells l)=>bif aD4 P e (P.cellsOf e) && (Nat.blt (j+k.toNat * P.cellsOf e) l.length && Nat.blt 1 len) then some ([cP k len],.c (.ptr o i (j+k.toNat * P.cellsOf e)),xs) else none
   | _=>none)
 | _,_,_=>none
def aBv (P:Program) (t:TypeId) (x ix:D) (xs:List Obj):Res :=
 match P.underlying t,x,ix with
 | some .string,.c (.str l),.c (.val (.int _ i))=>some ([cP i l.length],.c (.val (.int .u8 (l.getD i.toNat 0).toNat)),xs)
 | _,_,_=>none
def bounds (n:Nat) (lo hi:Option D):Option (Int × Int) :=
 match lo,hi with
 | none,none=>some (0,n)
 | some (.c (.val (.int _ l))),none=>some (l,n)
 | none,some (.c (.val (.int _ h)))=>some (0,h)
 | some (.c (.val (.int _ l))),some (.c (.val (.int _ h)))=>some (l,h)
 | _,_=>none
def c5 (n:Nat) (l h:Int):Bool:=decide (0≤l) && decide (l≤h) && decide (h≤n)
def aBw (P:Program) (t:TypeId) (x:D) (lo hi:Option D) (xs:List Obj):Res :=
 match P.underlying t,x with
 | some .string,.c (.str s) =>
   (match bounds s.length lo hi with
   | some (l,h)=>some ([c5 s.length l h],.c (.str ((s.drop l.toNat).take (h.toNat - l.toNat))),xs)
   | none=>none)
 | some (.slice e),.c (.tree w n get) =>
   bif aD4 P e w then
    (match bounds n lo hi with
    | some (l,h)=>some ([c5 n l h],.c (.tree w (h.toNat - l.toNat) fun i j=>get (l.toNat+i) j),xs)
    | none=>none)
   else none
 | some (.slice e),.c (.own o n) =>
   bif (P.info? e).isSome then
    (match lo with
    | none =>
      (match bounds n none hi with
      | some (l,h)=>some ([c5 n l h],.c (.own o h.toNat),xs)
      | none=>none)
    | some d =>
      (match xs[o]?,bounds n (some d) hi with
      | some (.row _ w _ _),some (l,h)=>bif aD4 P e w then some ([c5 n l h],.c (.tail o l.toNat (h.toNat - l.toNat)),xs) else none
      | _,_=>none))
   else none
 | some (.slice e),.c .nil =>
   bif (P.info? e).isSome then
    (match bounds 0 lo hi with
    | some (l,h)=>some ([c5 0 l h],.c .nil,xs)
    | none=>none)
   else none
 | _,_=>none
def aZ7 (op:BinOp) (a b:Int):Option Bool :=
 match op with
 | .eql=>some (a == b)
 | .neq=>some (a != b)
 | .lss=>some (decide (a<b))
 | .leq=>some (decide (a≤b))
 | .gtr=>some (decide (a > b))
 | .geq=>some (decide (a ≥ b))
 | _=>none
def aUV (op:BinOp) (k:IntKind) (a b:Int):Option Int :=
 match op with
 | .and=>some (k.wrap (BitVec.ofInt k.bits a &&& BitVec.ofInt k.bits b).toNat)
 | .or=>some (k.wrap (BitVec.ofInt k.bits a ||| BitVec.ofInt k.bits b).toNat)
 | .xor=>some (k.wrap (BitVec.ofInt k.bits a ^^^ BitVec.ofInt k.bits b).toNat)
 | .andNot=>some (k.wrap (BitVec.ofInt k.bits a &&& ~~~ BitVec.ofInt k.bits b).toNat)
 | _=>none
def aJ4 (op:BinOp) (k:IntKind) (a:Int) (k':IntKind) (b:Int):Option (List Bool × C) :=
 match op with
 | .shl=>some ([decide (0≤b)],.val (.int k (k.wrap (a * 2 ^ min b.toNat k.bits))))
 | .shr=>some ([decide (0≤b)],.val (.int k (a.fdiv (2 ^ min b.toNat k.bits))))
 | op =>
   bif decide (k=k') then
    (match op with
    | .add=>some ([],.val (.int k (k.wrap (a+b))))
    | .sub=>some ([],.val (.int k (k.wrap (a - b))))
    | .mul=>some ([],.val (.int k (k.wrap (a * b))))
    | .quo=>some ([!(b == 0)],.val (.int k (k.wrap (a.tdiv b))))
    | .rem=>some ([!(b == 0)],.val (.int k (a.tmod b)))
    | op =>
      (match aZ7 op a b with
      | some r=>some ([],.val (.bool r))
      | none =>
        (match aUV op k a b with
        | some r=>some ([],.val (.int k r))
        | none=>none)))
   else none
def aJ5 (op:BinOp) (a b:List UInt8):Option (List Bool × C) :=
 match op with
 | .add=>some ([room (a.length+b.length)],.str (a++b))
 | .eql=>some ([],.val (.bool (a == b)))
 | .neq=>some ([],.val (.bool !(a == b)))
 | .lss=>some ([],.val (.bool (Op.bytesLess a b)))
 | .leq=>some ([],.val (.bool (Op.bytesLess a b || a == b)))
 | .gtr=>some ([],.val (.bool !(Op.bytesLess a b || a == b)))
 | .geq=>some ([],.val (.bool !Op.bytesLess a b))
 | _=>none
def a6C:C→C→Option Bool
 | .val (.int k a),.val (.int k' b)=>bif decide (k=k') then some (a == b) else none
 | .val (.bool a),.val (.bool b)=>some (a == b)
 | .str a,.str b=>some (a == b)
 | _,_=>none
def isConst:Operand→Bool
 | .const _=>true
 | _=>false
def vZ (P:Program) (t:TypeId) (a b:C):Option Bool :=
 match P.underlying t,a,b with
 | some (.int _),.val (.int k x),.val (.int k' y)=>bif decide (k=k') then some (x == y) else none
 | some .string,.str x,.str y=>some (x == y)
 | some .bool,.val (.bool x),.val (.bool y)=>some (x == y)
 | _,_,_=>none
def aGH (P:Program) (xs ys:List C) (fs:List Field):Option Bool :=
 fs.foldr (fun fd r=>bif !(fd.name == "_") then
  (bif rF P fd.type then none else
   (match xs[fd.offset]?,ys[fd.offset]? with
   | some a,some b=>(match vZ P fd.type a b,r with
     | some e,some q=>some (e && q)
     | _,_=>none)
   | _,_=>none))
  else r) (some true)
def aBz (P:Program) (xs ys:List C) (fd:Field):Option Bool :=
 bif rF P fd.type then
  (match P.underlying fd.type with
  | some (.struct fs)=>bif P.stoodInHeld fd.type then none else aGH P ((xs.drop fd.offset).take (P.cellsOf fd.type)) ((ys.drop fd.offset).take (P.cellsOf fd.type)) fs.toList
  | _=>none)
 else
  (match xs[fd.offset]?,ys[fd.offset]? with
  | some a,some b=>vZ P fd.type a b
  | _,_=>none)
def aCb (P:Program) (xs ys:List C) (fs:List Field):Option Bool :=
 fs.foldr (fun fd r=>bif !(fd.name == "_") then
  (match aBz P xs ys fd,r with
  | some e,some q=>some (e && q)
  | _,_=>none)
  else r) (some true)
def aLL (P:Program) (t:TypeId) (x y:Operand) (a b:D):Option Bool :=
 match P.underlying t,a,b with
 | some .bool,.c (.val (.bool x)),.c (.val (.bool y))=>some (x == y)
 | some (.interface _),.c (.iface b _ _),.c (.val .nilIface)=>bif isConst y then some (!b) else none
 | some (.interface _),.c (.val .nilIface),.c (.iface b _ _)=>bif isConst x then some (!b) else none
 | some (.interface _),.c (.val .nilIface),.c (.val .nilIface)=>bif isConst x || isConst y then some true else none
 | some (.pointer _),.c (.opt b (.ptr _ _ _)),.c (.val (.pointer none))=>some (!b)
 | some (.pointer _),.c (.opt b (.nP _ _ _)),.c (.val (.pointer none))=>some (!b)
 | some (.pointer _),.c (.ptr _ _ _),.c (.val (.pointer none))=>some false
 | some (.pointer _),.c (.nP _ _ _),.c (.val (.pointer none))=>some false
 | some (.pointer _),.c (.val (.pointer none)),.c (.val (.pointer none))=>some true
 | some (.slice _),.c .nil,.c .nil=>some true
 | some (.struct fs),.agg l,.agg m=>bif P.stoodInHeld t || P.eqGuardType P.depth t then none else aCb P l m fs.toList
 | _,_,_=>none
end Go.Dl

namespace Go.Dl
variable [dO]
def xE (ll:List (List C)):Nat→Nat→C:=fun i j=>(ll.getD i []).getD j .bot
def aBX (P:Program) (e:TypeId) (w:Nat) (d:D) (xs:List Obj):Option (Nat × (Nat→Nat→C)) :=
 match d with
 | .c .nil=>some (0,fun _ _=>.bot)
 | .c (.tree w' m g)=>bif Nat.beq w' w then some (m,g) else none
 | .c (.own o m) =>
   (match xs[o]? with
   | some (.row _ w' _ g)=>bif Nat.beq w' w then some (m,g) else none
   | _=>none)
 | .c (.str l) =>
   (match P.underlying e with
   | some (.int .u8)=>bif Nat.beq w 1 then some (l.length,fun i _=>.val (.int .u8 (l.getD i 0).toNat)) else none
   | _=>none)
 | _=>none
def qB (P:Program) (t:TypeId) (dst src:D) (xs:List Obj):Res :=
 match P.underlying t with
 | some (.slice e) =>
   (match P.info? e with
   | some i =>
     (match i.zero with
     | some z =>
       bif Nat.beq z.cells.size i.size && (Nat.blt 0 i.size && Nat.blt 0 i.bytes) then
        (match aBX P e i.size src xs with
        | some (m,g2) =>
          (match dst with
          | .c .nil=>some ([room (m * i.bytes)],.c (.own xs.length m),xs++[.row e i.size m g2])
          | .c (.own o n) =>
            (match xs[o]? with
            | some (.row e' w _ g) =>
              bif Nat.beq e' e && Nat.beq w i.size then
               some ([room ((n+m) * i.bytes)],.c (.own xs.length (n+m)),
                xs.set o .dead++[.row e i.size (n+m) fun i j=>bif Nat.blt i n then g i j else g2 (i - n) j])
              else none
            | _=>none)
          | _=>none)
        | none=>none)
       else none
     | none=>none)
   | none=>none)
 | _=>none
def D1.ofD:D→Option D1
 | .c x=>some (.c x)
 | .agg l=>some (.agg l)
 | .jW _=>none
def D1.toD:D1→D
 | .c x=>.c x
 | .agg l=>.agg l
def lM (P:Program) (place:Nat→Option (Nat × Nat)) (st:St):List C→List (Nat × Operand)→Option (List C)
 | cells,[]=>some cells
 | cells,(i,x)::rest =>
   (match place i,(st.lv x).cells with
   | some (off,size),some l =>
     bif Nat.beq l.length size && (Nat.ble (off+l.length) cells.length && l.all C.good) then lM P place st (aEX cells off l) rest else none
   | _,_=>none)
def xG (P:Program) (t:TypeId):Option (List C):=((P.info? t).bind (·.zero)).map fun z=>z.cells.toList.map aEV
def aBq (P:Program) (t:TypeId) (parts:List (Nat × Operand)) (st:St):Res :=
 match P.underlying t with
 | some (.struct fs) =>
   (match xG P t with
   | some z =>
     (match fs.toList.mapM (fun f=>(P.info? f.type).map fun i=>(f.offset,i.size)) with
     | some places =>
       (match lM P (fun i=>places[i]?) st z parts with
       | some l=>some ([],.agg l,st.cC)
       | none=>none)
     | none=>none)
   | none=>none)
 | _=>none
def chunk (w:Nat):Nat→List C→List (List C)
 | 0,_=>[]
 | n+1,l=>l.take w::chunk w n (l.drop w)
def nQ (P:Program) (t:TypeId) (len:Nat) (parts:List (Nat × Operand)) (st:St):Res :=
 match P.underlying t with
 | some (.slice e) =>
   (match P.info? e,xG P e with
   | some i,some z =>
     bif Nat.beq z.length i.size && (Nat.blt 0 i.size && Nat.blt 0 len && Nat.ble (len * i.size) 16777216) then
      (match lM P (fun k=>some (k * i.size,i.size)) st ((List.range (len * i.size)).map fun q=>z.getD (q % i.size) .bot) parts with
      | some l =>
        bif l.all C.shut then some ([],.c (.own st.cC.length len),st.cC++[.row e i.size len (xE (chunk i.size len l))]) else none
      | none=>none)
     else none
   | _,_=>none)
 | _=>none
def pF (P:Program) (t:TypeId) (l c:D) (xs:List Obj):Res :=
 match P.underlying t,l,c with
 | some (.slice e),.c (.val (.int .i64 l)),.c (.val (.int .i64 c)) =>
   (match P.info? e,xG P e with
   | some i,some z =>
     bif Nat.beq z.length i.size && (Nat.blt 0 i.size && Nat.blt 0 i.bytes && z.all C.shut) then
      some ([decide (0≤l) && decide (l≤c),room (c.toNat * i.bytes)],.c (.own xs.length l.toNat),xs++[.row e i.size c.toNat fun _ j=>z.getD j .bot])
     else none
   | _,_=>none)
 | _,_,_=>none
def aNz (d:D) (xs:List Obj):Res :=
 match d with
 | .c .nil=>some ([],.c (.val (.int .i64 0)),xs)
 | .c (.tree _ n _)=>some ([],.c (.val (.int .i64 n)),xs)
 | .c (.own _ n)=>some ([],.c (.val (.int .i64 n)),xs)
 | .c (.tail _ _ n)=>some ([],.c (.val (.int .i64 n)),xs)
 | _=>none
def aIx (d:D) (xs:List Obj):Res :=
 match d with
 | .c (.str l)=>some ([],.c (.val (.int .i64 l.length)),xs)
 | _=>none
def aE8 (P:Program) (t:TypeId) (d:D) (xs:List Obj):Res :=
 match P.underlying t with
 | some (.slice _)=>aNz d xs
 | some .string=>aIx d xs
 | _=>none
def aLP (isMax:Bool):Int→List D→Option Int
 | x,[]=>some x
 | x,.c (.val (.int .i64 y))::r=>aLP isMax (bif isMax then (if y > x then y else x) else (if y<x then y else x)) r
 | _,_=>none
def qE (isMax:Bool) (ds:List D) (xs:List Obj):Res :=
 match ds with
 | .c (.val (.int .i64 x))::r=>(aLP isMax x r).elim none fun y=>some ([],.c (.val (.int .i64 y)),xs)
 | _=>none
def uL (P:Program) (src dst:TypeId) (x:D) (xs:List Obj):Res :=
 match P.underlying src,P.underlying dst,x with
 | some (.int _),some (.int k),.c (.val (.int _ n))=>some ([],.c (.val (.int k (k.wrap n))),xs)
 | some .string,some .string,.c (.str l)=>some ([],.c (.str l),xs)
 | _,_,_=>none
def aSx (op:UnOp) (x:D) (xs:List Obj):Res :=
 match op,x with
 | .neg,.c (.val (.int k n))=>some ([],.c (.val (.int k (k.wrap (0 - n)))),xs)
 | .not,.c (.val (.bool b))=>some ([],.c (.val (.bool !b)),xs)
 | _,_=>none
def aJY (P:Program) (op:BinOp) (t:TypeId) (p q:Operand) (a b:D) (xs:List Obj):Res :=
 match a,b with
 | .c (.val (.int k x)),.c (.val (.int k' y))=>(aJ4 op k x k' y).elim none fun r=>some (r.1,.c r.2,xs)
 | .c (.str x),.c (.str y)=>(aJ5 op x y).elim none fun r=>some (r.1,.c r.2,xs)
 | a,b =>
   (match op with
   | .eql=>(aLL P t p q a b).elim none fun r=>some ([],.c (.val (.bool r)),xs)
   | .neq=>(aLL P t p q a b).elim none fun r=>some ([],.c (.val (.bool !r)),xs)
   | _=>none)
def pG:Operand→Bool
 | .const (.bool b)=>b
 | _=>false
def qC:Operand→Bool
 | .const (.bool b)=>!b
 | _=>false
def aEZ (c:D) (a b:Operand) (st:St):Res :=
 match c with
 | .c (.val (.bool x)) =>
   bif pG a then
    (match st.lv b with
    | .c (.val (.bool y))=>some ([],.c (.val (.bool (x || y))),st.cC)
    | _=>none)
   else bif qC b then
    (match st.lv a with
    | .c (.val (.bool y))=>some ([],.c (.val (.bool (x && y))),st.cC)
    | _=>none)
   else none
 | _=>none
def aGL (st:St):List Operand→Option (List C)
 | []=>some []
 | x::r =>
   (match st.lv x,aGL st r with
   | .c a,some l=>some (a::l)
   | _,_=>none)
def aJX (d:D) (xs:List Obj):Res :=
 match d with
 | .c (.ptr o i j)=>some ([],.c (.ptr o i j),xs)
 | .c (.nP w r j)=>some ([],.c (.nP w r j),xs)
 | .c (.opt b (.ptr o i j))=>some ([b],.c (.ptr o i j),xs)
 | .c (.opt b (.nP w r j))=>some ([b],.c (.nP w r j),xs)
 | .c (.func (.func f) k g)=>some ([],.c (.func (.func f) k g),xs)
 | _=>none
def aSL:Value→Value→Bool
 | .bool a,.bool b=>bif a then b else !b
 | .int k a,.int k' b=>decide (k=k') && decide (a=b)
 | .pointer none,.pointer none=>true
 | _,_=>false
def aSM:List Value→List Value→Bool
 | [],[]=>true
 | a::r,b::t=>aSL a b && aSM r t
 | _,_=>false
def eqV:Value→Value→Bool
 | .agg a,.agg b=>aSM a.toList b.toList
 | a,b=>aSL a b
def zc (z:Value):Nat→C:=fun j=>(z.cells.toList.map aEV).getD j .bot
def aLQ (z:Value) (g:Nat→C):Option D1 :=
 match z with
 | .agg cs=>some (.agg ((List.range cs.size).map g))
 | .tuple _=>none
 | _=>some (.c (g 0))
def aIH (z:Value) (d:D):Option (Nat→C) :=
 match z,d with
 | .agg cs,.agg l=>bif Nat.beq l.length cs.size && (l.all C.good && l.all C.shut) then some (fun j=>l.getD j .bot) else none
 | .agg _,_=>none
 | .tuple _,_=>none
 | _,.c x=>bif x.good && x.shut then some (fun j=>[x].getD j .bot) else none
 | _,_=>none
def aAb (P:Program) (t:TypeId) (r:Option Operand) (xs:List Obj):Res :=
 match r,P.underlying t with
 | none,some (.map _ et) =>
   (match (P.info? et).bind (·.zero) with
   | some z=>bif (aLQ z (zc z)).isSome then some ([],.c (.map xs.length),xs++[.map z (fun _=>false) (fun _=>zc z)]) else none
   | none=>none)
 | _,_=>none
def xQ (P:Program) (t:TypeId) (m k:D) (ok:Bool) (xs:List Obj):Res :=
 match P.underlying t,m,k with
 | some (.map kt et),.c (.map o),.c (.val (.int .i64 i)) =>
   (match P.underlying kt,(P.info? et).bind (·.zero),xs[o]? with
   | some (.int _),some z',some (.map z has get) =>
     bif eqV z z' then
      (match aLQ z (get i) with
      | some d=>bif ok then some ([],.jW [d,.c (.val (.bool (has i)))],xs) else some ([],d.toD,xs)
      | none=>none)
     else none
   | _,_,_=>none)
 | _,_,_=>none
def xO (P:Program) (t:TypeId) (m k v:D) (xs:List Obj):Option (List Obj) :=
 match P.underlying t,m,k with
 | some (.map kt _),.c (.map o),.c (.val (.int .i64 i)) =>
   (match P.underlying kt,xs[o]? with
   | some (.int _),some (.map z has get) =>
     (match aIH z v with
     | some f=>some (xs.set o (.map z (fun i'=>decide (i'=i) || has i') (fun i'=>bif decide (i'=i) then f else get i')))
     | none=>none)
   | _,_=>none)
 | _,_,_=>none
def aBt (P:Program) (t:TypeId) (x:D) (xs:List Obj):Option (List Obj) :=
 match P.underlying t,x with
 | some (.slice e),.c (.tail o lo n) =>
   (match xs[o]?,xG P e with
   | some (.row e' w m get),some z =>
     bif Nat.beq z.length w && (aD4 P e w && (z.all C.good && z.all C.shut)) then some (xs.set o (.row e' w m fun i j=>bif Nat.ble lo i && Nat.blt i (lo+n) then z.getD j .bot else get i j)) else none
   | _,_=>none)
 | _,_=>none
def aE0 (P:Program) (o:Oper) (st:St):Res :=
 match o.op with
 | .move x | .assign x=>some ([],st.lv x,st.cC)
 | .pick c a b=>aEZ (st.lv c) a b st
 | .alloc t=>aFg P t st.cC
 | .box t x=>aJ3 P t (st.lv x) st.cC
 | .build t parts=>aBq P t parts.toList st
 | .buildSlice t len parts=>nQ P t len parts.toList st
 | .load t a=>bif (P.underlying t).isSome then zS P t (st.lv a) st.cC else none
 | .store t a x=>(aBs P t (st.lv a) (st.lv x) st.cC).map fun xs=>([],.c .bot,xs)
 | .nilCheck x=>aJX (st.lv x) st.cC
 | .binOp op t x y _=>aJY P op t x y (st.lv x) (st.lv y) st.cC
 | .unOp op _ x=>aSx op (st.lv x) st.cC
 | .convert src dst x=>uL P src dst (st.lv x) st.cC
 | .makeInterface t x=>bif P.concrete t then (match st.lv x with
   | .c a=>some ([],.c (.iface true t a),st.cC)
   | _=>none) else none
 | .makeFunc fn first captured=>(match first.toList,aGL st captured.toList with
   | [],some l=>some ([],.c (.func fn l.length fun i=>l.getD i .bot),st.cC)
   | _,_=>none)
 | .makeSlice t l c=>pF P t (st.lv l) (st.lv c) st.cC
 | .slice t x lo hi mx=>(match mx with
   | none=>aBw P t (st.lv x) (lo.map st.lv) (hi.map st.lv) st.cC
   | some _=>none)
 | .fieldAddr s x f=>pH P s (st.lv x) f st.cC
 | .field s x f=>aBu P s (st.lv x) f st.cC
 | .indexAddr t x ix=>pI P t (st.lv x) (st.lv ix) st.cC
 | .index t x ix=>aBv P t (st.lv x) (st.lv ix) st.cC
 | .extract x i=>(match st.lv x with
   | .jW l=>(l[i]?).elim none fun d=>some ([],d.toD,st.cC)
   | _=>none)
 | .call c=>(match c.callee,c.args.toList,c.argTypes.toList with
   | .builtin .len,[x],t::_=>aE8 P t (st.lv x) st.cC
   | .builtin .append,[x,y],t::t'::_=>(match P.underlying t' with
     | some (.slice _)=>qB P t (st.lv x) (st.lv y) st.cC
     | some .string=>qB P t (st.lv x) (st.lv y) st.cC
     | _=>none)
   | .builtin .clear,[x],t::_=>(aBt P t (st.lv x) st.cC).map fun xs=>([],.jW [],xs)
   | .builtin .max,l,_=>qE true (l.map st.lv) st.cC
   | .builtin .min,l,_=>qE false (l.map st.lv) st.cC
   | _,_,_=>none)
 | .makeMap t r=>aAb P t r st.cC
 | .lookup t m k ok=>xQ P t (st.lv m) (st.lv k) ok st.cC
 | .mapUpdate t m k x=>(xO P t (st.lv m) (st.lv k) (st.lv x) st.cC).map fun xs=>([],.c .bot,xs)
 | _=>none
def gH:Op→Bool
 | .move _ | .assign _ | .pick _ _ _ | .load _ _ | .nilCheck _ | .binOp _ _ _ _ _ | .unOp _ _ _ | .fieldAddr _ _ _ | .field _ _ _ | .indexAddr _ _ _ | .index _ _ _ | .extract _ _ | .build _ _=>true
 | .slice _ _ _ _ _=>true
 | .lookup _ _ _ _=>true
 | .call { callee:=.builtin .len,.. } | .call { callee:=.builtin .max,.. } | .call { callee:=.builtin .min,.. }=>true
 | .convert _ _ _=>true
 | _=>false
def vU:Op→Bool
 | .move _ | .assign _ | .pick _ _ _ | .nilCheck _ | .binOp _ _ _ _ _ | .unOp _ _ _ | .fieldAddr _ _ _ | .field _ _ _ | .indexAddr _ _ _ | .index _ _ _ | .extract _ _ | .build _ _=>true
 | .slice _ _ _ _ _=>true
 | .call { callee:=.builtin .len,.. } | .call { callee:=.builtin .max,.. } | .call { callee:=.builtin .min,.. }=>true
 | .convert _ _ _=>true
 | _=>false
def gEq (a b:Nat × Bool):Bool:=Nat.beq a.1 b.1 && (bif a.2 then b.2 else !b.2)
def gIn (a:Nat × Bool) (l:List (Nat × Bool)):Bool:=l.any (gEq a)
def a5o:Operand→List Nat
 | .tmp t=>[t]
 | _=>[]
def guardOf (ops:Array Oper) (o:Oper) (st:St):Option (List (Nat × Bool)) :=
 match o.guard with
 | none=>some []
 | some (j,want) =>
   (match (ops[j]?).bind (·.dst) with
   | some t=>some ((t,want)::st.nE t)
   | none=>none)
def iW (st:St):List (Nat × Bool)→Option Bool
 | []=>some true
 | (t,want)::r =>
   (match st.get t,iW st r with
   | .c (.val (.bool b)),some x =>
     (match r with
     | []=>some (bif want then b else !b)
     | _=>some ((bif want then b else !b) && x))
   | _,_=>none)
def gA {α:Type} (t:Nat) (l:List (Nat × α)):List (Nat × α):=l.filter fun p=>!Nat.beq p.1 t
def St.put (st:St) (dst:Option Tmp) (d:D) (xs:List Obj) (g:List (Nat × Bool)):St :=
 match dst with
 | none=>⟨st.tmps,xs,st.gd,st.h⟩
 | some t=>⟨(t,d)::gA t st.tmps,xs,bif g.isEmpty then gA t st.gd else (t,g)::gA t st.gd,st.h⟩
def lQ (st:St) (t:Nat):Bool:=st.gd.all fun p=>p.2.all fun q=>!Nat.beq q.1 t
def St.zN (st:St) (g:List (Nat × Bool)):St :=
 bif st.gd.isEmpty then st else ⟨st.tmps.filter (fun p=>(st.nE p.1).all fun q=>gIn q g),st.cC,st.gd,st.h⟩
def aE7 (st:St) (g:List (Nat × Bool)) (c:Nat) (x y:Operand):Res :=
 match (st.zN g).get c with
 | .c (.val (.bool b)) =>
   bif pG x then
    (match (st.zN ((c,false)::g)).lv y with
    | .c (.val (.bool y))=>some ([],.c (.val (.bool (b || y))),st.cC)
    | _=>none)
   else bif qC y then
    (match (st.zN ((c,true)::g)).lv x with
    | .c (.val (.bool x))=>some ([],.c (.val (.bool (b && x))),st.cC)
    | _=>none)
   else none
 | _=>none
def xK (P:Program):Op→Bool
 | .field s _ f =>
   (match P.underlying s with
   | some (.struct fs)=>(fs[f]?).elim true fun fd=>(P.underlying fd.type).isSome
   | _=>true)
 | _=>true
def aAC (P:Program) (o:Oper) (st:St) (g:List (Nat × Bool)):Res :=
 match o.op with
 | .pick (.tmp c) x y=>aE7 st g c x y
 | _=>bif xK P o.op then aE0 P o (st.zN g) else none
def mC (P:Program) (n:Nat) (ops:Array Oper) (o:Oper) (st:St):Option (List Bool × St) :=
 match guardOf ops o st with
 | none=>none
 | some g =>
   bif o.dst.elim true fun t=>Nat.blt t n && (lQ st t && g.all fun q=>!Nat.beq q.1 t) then
    (match o.guard with
    | none =>
      (match aAC P o st g with
      | some (vs,d,xs)=>some (vs,st.put o.dst d xs g)
      | none=>none)
    | some _ =>
      bif gH o.op then
       (match aAC P o st g,iW st g with
       | some (vs,d,_),some b=>some (vs.map fun v=>!b || v,st.put o.dst d st.cC g)
       | _,_=>none)
      else none)
   else none
def iG (P:Program) (n:Nat) (ops:Array Oper):List Oper→St→Option (List Bool × St)
 | [],st=>some ([],st)
 | o::r,st =>
   (match mC P n ops o st with
   | some (v,dD) =>
     (match iG P n ops r dD with
     | some (vs,aSH)=>some (v++vs,aSH)
     | none=>none)
   | none=>none)
def fU (o:Nat):List Nat→Nat→Option Nat
 | [],_=>none
 | x::r,i=>bif Nat.beq x o then some i else fU o r (i+1)
def C.jP (om:List Nat):C→C
 | .own o n=>(fU o om 0).elim .bot fun o'=>.own o' n
 | .ptr o i j=>(fU o om 0).elim .bot fun o'=>.ptr o' i j
 | .self t b o=>(fU o om 0).elim .bot fun o'=>.self t b o'
 | .map o=>(fU o om 0).elim .bot fun o'=>.map o'
 | .tail o lo n=>(fU o om 0).elim .bot fun o'=>.tail o' lo n
 | .opt b c=>.opt b (c.jP om)
 | .iface b t c=>.iface b t (c.jP om)
 | .cond b c=>.cond b (c.jP om)
 | .func fn k cap =>
   let l:=(List.range k).map fun i=>(cap i).jP om
   .func fn k fun i=>l.getD i .bot
 | c=>c
def D1.jP (om:List Nat):D1→D1
 | .c x=>.c (x.jP om)
 | .agg l=>.agg (l.map (C.jP om))
def D.jP (om:List Nat):D→D
 | .c x=>.c (x.jP om)
 | .agg l=>.agg (l.map (C.jP om))
 | .jW l=>.jW (l.map (D1.jP om))
def Obj.jP (om:List Nat):Obj→Obj
 | .cells l=>.cells (l.map (C.jP om))
 | x=>x
def mD:List Nat→Bool
 | []=>true
 | x::r=>!(r.any (Nat.beq x)) && mD r
def aBx:Nat→Nat→List Nat→Bool
 | 0,_,_=>true
 | _+1,_,[]=>false
 | k+1,i,x::r=>Nat.beq x i && aBx k (i+1) r
def St.keep (st:St) (l om:List Nat):Option St :=
 let gd:=st.gd.filter fun p=>l.any (Nat.beq p.1)
 bif gd.all (fun p=>p.2.all fun q=>l.any (Nat.beq q.1)) && (mD om && aBx st.h 0 om) then
  some ⟨l.map fun t=>(t,(st.get t).jP om),om.map fun o=>(st.cC.getD o .dead).jP om,gd,st.h⟩ else none
def iN (P:Program) (n:Nat) (ops:Array Oper) (l:List Oper) (st:St) (keep om:List Nat):Option (List Bool × St) :=
 match iG P n ops l st with
 | some (vs,dD)=>(dD.keep keep om).map fun s=>(vs,s)
 | none=>none
end Go.Dl

namespace Go.Dl
variable [dO]
def gG (β:dG) (o:Nat) (x:Option Bk):dG:=fun o'=>if o'=o then some x else β o'
theorem kK.gG {β:dG} {o:Nat} {x:Option Bk} (h:β o=none):kK β (gG β o x):=by
 intro o' k hk
 unfold Dl.gG
 split
 ·rename_i he;subst he;rw[h] at hk;cases hk
 ·exact hk
theorem rE.keep {S S':Mem} {β β':dG} {w w':World} {o:Nat} {x:Obj} (h:rE S β w o x) (hs:jL S S') (hb:kK β β')
 (hw:∀ k,x.live=true→β o=some (some k)→w'.heap[k.b]? = w.heap[k.b]?):rE S' β' w' o x:=by
 cases x with
 | dead=>trivial
 | cells l =>
   obtain ⟨k,h1,h2,h3,h4,vs,h5,h6,h7⟩:=h
   exact ⟨k,hb _ _ h1,h2,h3,h4,vs,by rw[hw k rfl h1];exact h5,eM.up hs hb h6,h7⟩
 | aA5 e bs =>
   obtain ⟨k,h1,h2,h3,h4,h5,h6,cur,fz,h7,h8,h9⟩:=h
   exact ⟨k,hb _ _ h1,h2,h3,h4,h5,h6,cur,fz,by rw[hw k rfl h1];exact h7,h8,h9⟩
 | map z has get =>
   obtain ⟨k,h1,ms,clock,h2,h3,h4⟩:=h
   exact ⟨k,hb _ _ h1,ms,clock,by rw[hw k rfl h1];exact h2,h3,fun i=>⟨(h4 i).1.mono hs,(h4 i).2⟩⟩
 | row e wd n get =>
   rcases h with ⟨h1,h2⟩ | ⟨k,h1,h2,h3,h4,h5,h6,cur,h7,h8,h9⟩
   ·exact .inl ⟨hb _ _ h1,h2⟩
   ·refine .inr ⟨k,hb _ _ h1,h2,h3,h4,h5,h6,cur,by rw[hw k rfl h1];exact h7,h8,fun i j hi hj=>?_⟩
    obtain ⟨u,hu,h1,hr⟩:=h9 i j hi hj
    exact ⟨u,hu,h1,cV.mono hs _ _ _ hr⟩
theorem Holds.keep {S:Mem} {w w':World} (h:Holds S w) (hw:∀ b,(∃ i,(S b i).isSome=true)→w'.heap[b]? = w.heap[b]?):Holds S w':=by
 intro b i v hv
 obtain ⟨h1,h2⟩:=h b i v hv
 refine ⟨?_,h2⟩
 have:w'.cell? ⟨b,i,none⟩=w.cell? ⟨b,i,none⟩:=World.cell?_of_block (w:=w) (hw b ⟨i,by simp [hv]⟩)
 rw[this];exact h1
theorem Holds.lt {S:Mem} {w:World} (h:Holds S w) {b i:Nat} (hs:(S b i).isSome=true):b<w.heap.size:=by
 obtain ⟨v,hv⟩:=bI.1 hs
 exact World.block_lt_of_cell? w ⟨b,i,none⟩ (h b i v hv).1
theorem Frame.ext {Γ:j6} {S:Mem} {w w':World} (h:Frame Γ S w) (ho:w'.os=w.os) (ht:w'.tape=w.tape) (hu:w'.output=w.output)
 (hz:w.heap.size≤w'.heap.size) (hb:∀ b,b<Γ.w.heap.size→¬ Γ.M b→w'.heap[b]? = w.heap[b]?):Frame Γ S w' :=
 ⟨ho.trans h.os,ht.trans h.tape,hu.trans h.output,aS h.size hz,fun b h1 h2=>(hb b h1 h2).trans (h.block b h1 h2),h.mem,h.le,h.aDS,h.inv⟩
theorem getElem?_concat {α:Type} (l:List α) (x:α) (o:Nat) (y:α) (h:(l++[x])[o]? = some y):l[o]? = some y∨(o=l.length∧y=x):=by
 rcases Nat.lt_trichotomy o l.length with h1 | h1 | h1
 ·rw[List.getElem?_append_left h1] at h;exact .inl h
 ·subst h1;simp at h;exact .inr ⟨rfl,h.symm⟩
 ·rw[bB (by simp;omega)] at h;cases h
theorem Core.drew {Γ:j6} {S:Mem} {β:dG} {w:World} {xs:List Obj} (h:Core Γ S β w xs):Core Γ S β w.drew xs :=
 ⟨h.frame.ext rfl rfl rfl (aM _) fun _ _ _=>rfl,h.holds.keep fun _ _=>rfl,fun o x hx=>(h.cC o x hx).keep (jL.refl _) (kK.refl _) fun _ _ _=>rfl,
  h.out,h.inj,h.sep,h.mine⟩
theorem Core.push {Γ:j6} {S:Mem} {β:dG} {w w':World} {xs:List Obj} (h:Core Γ S β w xs) (ob:Go.Obj) (x:Obj) (k:Option Bk)
 (hk:k=none∧w'=w∨(∃ k0,k=some k0∧k0.b=w.heap.size)∧w'=w.alloc ob)
 (hx:rE S (gG β xs.length k) w' xs.length x):Core Γ S (gG β xs.length k) w' (xs++[x])∧kK β (gG β xs.length k):=by
 have hle:kK β (gG β xs.length k):=kK.gG (h.out _ (aM _))
 have hold:∀ b,b<w.heap.size→w'.heap[b]? = w.heap[b]?:=by
  intro b hb
  rcases hk with ⟨_,rfl⟩ | ⟨_,rfl⟩
  ·rfl
  ·exact heap_alloc_old w ob b hb
 have hsz:w.heap.size≤w'.heap.size:=by
  rcases hk with ⟨_,rfl⟩ | ⟨_,rfl⟩
  ·exact aM _
  ·simp
 have hot:w'.os=w.os∧w'.tape=w.tape∧w'.output=w.output:=by
  rcases hk with ⟨_,rfl⟩ | ⟨_,rfl⟩ <;> exact ⟨rfl,rfl,rfl⟩
 have hne:∀ o x,xs[o]? = some x→o≠xs.length:=fun o x ho he=>by
  subst he;simp at ho
 have hb':∀ o x,xs[o]? = some x→gG β xs.length k o=β o:=fun o x ho=>by
  unfold gG;rw[aD (hne o x ho)]
 have hbn:gG β xs.length k xs.length=some k:=by unfold gG;simp
 refine ⟨⟨?_,?_,?_,?_,?_,?_,?_⟩,hle⟩
 ·exact h.frame.ext hot.1 hot.2.1 hot.2.2 hsz fun b hb _=>hold b (bH hb h.frame.size)
 ·exact h.holds.keep fun b ⟨i,hi⟩=>hold b (h.holds.lt hi)
 ·intro o y hy
  rcases getElem?_concat _ _ _ _ hy with hy | ⟨rfl,rfl⟩
  ·exact (h.cC o y hy).keep (jL.refl _) hle fun k hl hk=>hold _ (h.mine o k y hy hl hk).1
  ·exact hx
 ·intro o ho
  simp at ho
  unfold gG
  rw[aD (by omega)]
  exact h.out o (by omega)
 ·intro o o' k1 k2 y y' hy hy' hl hl' h1 h2 hno
  have ka:=getElem?_concat _ _ _ _ hy
  have kb:=getElem?_concat _ _ _ _ hy'
  clear hy hy'
  rcases ka with qa | ⟨ra,ra'⟩
  ·rcases kb with qb | ⟨rb,rb'⟩
   ·rw[hb' o y qa] at h1;rw[hb' o' y' qb] at h2
    exact h.inj o o' k1 k2 y y' qa qb hl hl' h1 h2 hno
   ·subst rb
    rw[hb' o y qa] at h1;rw[hbn] at h2
    have hlt:=(h.mine o k1 y qa hl h1).1
    rcases hk with ⟨rfl,_⟩ | ⟨⟨k0,rfl,h0⟩,_⟩
    ·cases h2
    ·simp only[aA] at h2;subst h2;omega
  ·subst ra
   rcases kb with qb | ⟨rb,rb'⟩
   ·rw[hb' o' y' qb] at h2;rw[hbn] at h1
    have hlt:=(h.mine o' k2 y' qb hl' h2).1
    rcases hk with ⟨rfl,_⟩ | ⟨⟨k0,rfl,h0⟩,_⟩
    ·cases h1
    ·simp only[aA] at h1;subst h1;omega
   ·exact absurd rb.symm hno
 ·intro o k1 y hy hl h1 i
  rcases getElem?_concat _ _ _ _ hy with hy | ⟨rfl,rfl⟩
  ·rw[hb' o y hy] at h1
   exact h.sep o k1 y hy hl h1 i
  ·rw[hbn] at h1
   rcases hk with ⟨rfl,_⟩ | ⟨⟨k0,rfl,h0⟩,_⟩
   ·cases h1
   ·simp only[aA] at h1;subst h1
    rw[h0]
    cases hs:S w.heap.size i with
    | none=>rfl
    | some v=>exact absurd (h.holds.lt (i:=i) (by simp [hs])) (Nat.lt_irrefl _)
 ·intro o k1 y hy hl h1
  rcases getElem?_concat _ _ _ _ hy with hy | ⟨rfl,rfl⟩
  ·rw[hb' o y hy] at h1
   have:=h.mine o k1 y hy hl h1
   exact ⟨bH this.1 hsz,this.2⟩
  ·rw[hbn] at h1
   rcases hk with ⟨rfl,_⟩ | ⟨⟨k0,rfl,h0⟩,rfl⟩
   ·cases h1
   ·simp only[aA] at h1;subst h1
    refine ⟨by simp;omega,fun hlt=>?_⟩
    have:=h.frame.size
    omega
theorem Core.write {Γ:j6} {S:Mem} {β:dG} {w w':World} {xs:List Obj} (h:Core Γ S β w xs) (o:Nat) (x x':Obj) (k:Bk)
 (hx:xs[o]? = some x) (hl:x.live=true) (hk:β o=some (some k))
 (ho:w'.os=w.os) (ht:w'.tape=w.tape) (hu:w'.output=w.output) (hz:w'.heap.size=w.heap.size)
 (hb:∀ b,b≠k.b→w'.heap[b]? = w.heap[b]?) (hx':rE S β w' o x'):Core Γ S β w' (xs.set o x'):=by
 have hm:=h.mine o k x hx hl hk
 have get:∀ o' y,(xs.set o x')[o']? = some y→(o'=o∧y=x')∨(o'≠o∧xs[o']? = some y):=by
  intro o' y hy
  rw[List.getElem?_set] at hy
  split at hy
  ·rename_i he
   split at hy
   ·simp at hy;exact .inl ⟨he.symm,hy.symm⟩
   ·cases hy
  ·rename_i he;exact .inr ⟨fun e=>he e.symm,hy⟩
 have other:∀ o' y,o'≠o→xs[o']? = some y→∀ k',y.live=true→β o'=some (some k')→w'.heap[k'.b]? = w.heap[k'.b]? :=
  fun o' y hne hy k' hl' hk'=>hb _ (h.inj o' o k' k y x hy hx hl' hl hk' hk hne)
 refine ⟨?_,?_,?_,?_,?_,?_,?_⟩
 ·refine h.frame.ext ho ht hu (by omega) fun b hlt hnm=>hb b fun e=>?_
  subst e
  exact hnm (hm.2 hlt)
 ·refine h.holds.keep fun b ⟨i,hi⟩=>hb b fun e=>?_
  subst e
  rw[h.sep o k x hx hl hk i] at hi
  simp at hi
 ·intro o' y hy
  rcases get o' y hy with ⟨rfl,rfl⟩ | ⟨hne,hy⟩
  ·exact hx'
  ·exact (h.cC o' y hy).keep (jL.refl _) (kK.refl _) fun k' hl' hk'=>other o' y hne hy k' hl' hk'
 ·intro o' ho'
  exact h.out o' (by simpa using ho')
 ·intro o1 o2 k1 k2 y1 y2 hy1 hy2 hl1 hl2 hk1 hk2 hne
  have l1:∃ z,xs[o1]? = some z∧z.live=true:=by
   rcases get o1 y1 hy1 with ⟨rfl,rfl⟩ | ⟨_,hy⟩
   ·exact ⟨x,hx,hl⟩
   ·exact ⟨y1,hy,hl1⟩
  have l2:∃ z,xs[o2]? = some z∧z.live=true:=by
   rcases get o2 y2 hy2 with ⟨rfl,rfl⟩ | ⟨_,hy⟩
   ·exact ⟨x,hx,hl⟩
   ·exact ⟨y2,hy,hl2⟩
  obtain ⟨z1,hz1,a5q⟩:=l1
  obtain ⟨z2,hz2,a5r⟩:=l2
  exact h.inj o1 o2 k1 k2 z1 z2 hz1 hz2 a5q a5r hk1 hk2 hne
 ·intro o1 k1 y1 hy1 hl1 hk1
  rcases get o1 y1 hy1 with ⟨rfl,rfl⟩ | ⟨_,hy⟩
  ·exact h.sep o1 k1 x hx hl hk1
  ·exact h.sep o1 k1 y1 hy hl1 hk1
 ·intro o1 k1 y1 hy1 hl1 hk1
  rw[hz]
  rcases get o1 y1 hy1 with ⟨rfl,rfl⟩ | ⟨_,hy⟩
  ·exact h.mine o1 k1 x hx hl hk1
  ·exact h.mine o1 k1 y1 hy hl1 hk1
theorem Core.kill {Γ:j6} {S:Mem} {β:dG} {w:World} {xs:List Obj} (h:Core Γ S β w xs) (o:Nat):Core Γ S β w (xs.set o Obj.dead):=by
 have get:∀ (o':Nat) (y:Obj),(xs.set o Obj.dead)[o']? = some y→y.live=true→xs[o']? = some y:=by
  intro o' y hy hl
  rw[List.getElem?_set] at hy
  split at hy
  ·split at hy
   ·simp at hy;subst hy;cases hl
   ·cases hy
  ·exact hy
 refine ⟨h.frame,h.holds,?_,?_,?_,?_,?_⟩
 ·intro o' y hy
  cases hl:y.live with
  | true=>exact h.cC o' y (get o' y hy hl)
  | false=>cases y <;> first | trivial | cases hl
 ·intro o' ho'
  exact h.out o' (by simpa using ho')
 ·intro o1 o2 k1 k2 y1 y2 hy1 hy2 hl1 hl2
  exact h.inj o1 o2 k1 k2 y1 y2 (get _ _ hy1 hl1) (get _ _ hy2 hl2) hl1 hl2
 ·intro o1 k1 y1 hy1 hl1
  exact h.sep o1 k1 y1 (get _ _ hy1 hl1) hl1
 ·intro o1 k1 y1 hy1 hl1
  exact h.mine o1 k1 y1 (get _ _ hy1 hl1) hl1
end Go.Dl

namespace Go.Dl
variable [dO]
open Go.RowKit
def pE (P:Program) (s:Sem Value) (Γ:j6) (S:Mem) (β:dG) (w:World) (d:D) (xs:List Obj):Prop :=
 ∃ v w' S' β',s.run P w = .ok v w'∧dR S' β' d v∧jL S S'∧kK β β'∧Core Γ S' β' w' xs
def Up (w w':World):Prop:=Below w.heap.size w w'
theorem Up.refl (w:World):Up w w:=Below.refl _ _
theorem Up.trans {a b c:World} (h:Up a b) (k:Up b c):Up a c:=Below.trans h (Below.mono k h.size)
theorem Up.cell {w w':World} (h:Up w w') {a:Addr} {v:Value} (hc:w.cell? a=some v):w'.cell? a=some v :=
 (Below.cell h (block_lt_of_cell hc)).trans hc
def eG (P:Program) (p:Bool) (s:Sem Value) (Γ:j6) (S:Mem) (β:dG) (w:World) (d:D) (xs:List Obj):Prop :=
 ∃ v,(∀ w',p=true∨Up w w'→s.run P w' = .ok v w')∧dR S β d v∧Core Γ S β w xs
section
variable {P:Program} {Γ:j6} {S:Mem} {β:dG} {w:World} {xs:List Obj}
theorem eG.same {p:Bool} {s:Sem Value} {d:D} (v:Value) (h:∀ w',p=true∨Up w w'→s.run P w' = .ok v w') (hd:dR S β d v) (hc:Core Γ S β w xs):eG P p s Γ S β w d xs:=⟨v,h,hd,hc⟩
theorem eG.aAR {s:Sem Value} {d:D} (v:Value) (h:∀ w',Up w w'→s.run P w' = .ok v w') (hd:dR S β d v) (hc:Core Γ S β w xs):eG P false s Γ S β w d xs:=⟨v,fun w' j8=>h w' (j8.resolve_left (by simp)),hd,hc⟩
theorem pE.same {s:Sem Value} {d:D} (v:Value) (h:s.run P w = .ok v w) (hd:dR S β d v) (hc:Core Γ S β w xs):pE P s Γ S β w d xs :=
 ⟨v,w,S,β,h,hd,jL.refl _,kK.refl _,hc⟩
theorem eG.toV {p:Bool} {s:Sem Value} {d:D} (h:eG P p s Γ S β w d xs):pE P s Γ S β w d xs:=by
 obtain ⟨v,h1,h2,h3⟩:=h
 exact pE.same v (h1 w (.inr (Up.refl w))) h2 h3
theorem info_of_underlying {t:TypeId} {d:TypeDesc} (h:P.underlying t=some d):∃ i,P.info? t=some i:=by
 unfold Program.underlying at h
 cases hi:P.info? t with
 | none=>simp [hi] at h
 | some i=>exact ⟨i,rfl⟩
theorem qI {t:TypeId} {d:TypeDesc} (h:P.underlying t=some d) (w:World):(isAgg t).run P w = .ok (rF P t) w:=by
 unfold isAgg rF
 rw[Sem.run_bind,run_underlying h,Result.andThen_ok,h]
 cases d <;> rfl
theorem iO {t:TypeId} {i:TypeInfo} (h:P.info? t=some i) (w:World):(typeInfo t).run P w = .ok i w:=by
 unfold typeInfo
 rw[Sem.run_bind,run_program,Result.andThen_ok,h]
 rfl
theorem iF {t:TypeId} {i:TypeInfo} (h:P.info? t=some i) (w:World):(sizeOf t).run P w = .ok i.size w:=by
 unfold sizeOf
 rw[Sem.run_bind,iO h]
 rfl
theorem wD {t:TypeId} {i:TypeInfo} (h:P.info? t=some i):P.cellsOf t=i.size:=by
 unfold Program.cellsOf
 rw[h];rfl
theorem add_lit (b o n:Nat):(⟨b,o,none⟩:Addr).add n=⟨b,o+n,none⟩:=by
 unfold Addr.add
 split
 ·rename_i h;subst h;rfl
 ·rfl
theorem aCo (b off n:Nat) (g:Nat→C) (h:∀ c,c<n→∃ u,w.cell? ⟨b,off+c,none⟩=some u∧cV S β (g c) u) :
 ∃ vs:List Value,(∀ w',Up w w'→(loadCells ⟨b,off,none⟩ n).run P w' = .ok vs.toArray w')∧eM S β ((List.range n).map g) vs:=by
 let f:Nat→Value:=fun c=>(w.cell? ⟨b,off+c,none⟩).getD undef
 refine ⟨(List.range n).map f,fun w' j8=>run_loadCells w' _ n f fun j hj=>?_,eM.rD (by simp) fun i c hc=>?_⟩
 ·rw[add_lit]
  obtain ⟨u,hu,_⟩:=h j hj
  rw[j8.cell hu]
  simp [f,hu]
 ·rw[bG] at hc ⊢
  rcases bE i n with hi | hi
  ·rw[List.getElem?_range hi] at hc ⊢
   simp only[Option.map_some,aA] at hc ⊢
   subst hc
   obtain ⟨u,hu,hr⟩:=h i hi
   exact ⟨_,rfl,by simpa [f,hu] using hr⟩
  ·rw[bB (by simpa using hi)] at hc
   simp at hc
theorem cell_of_heap {b j:Nat} {cs:Array Value} {t:TypeId} {fr:Nat × Nat} (h:w.heap[b]? = some (.cells cs t fr)) :
 w.cell? ⟨b,j,none⟩=cs[j]?:=by
 simp [World.cell?,h]
theorem mF {t:TypeId} {d:TypeDesc} (h:P.underlying t=some d) (a:Addr) (w:World) :
 (Instr.loadAt t (.pointer (some a))).run P w =
  if rF P t=true then ((loadCells a (P.cellsOf t)).run P w).andThen fun vs w'=>.ok (.agg vs) w' else (load a).run P w:=by
 obtain ⟨i,hi⟩:=info_of_underlying h
 unfold Instr.loadAt Instr.sureAddr loadVar
 simp only[pure_bind]
 rw[Sem.run_bind,qI h,Result.andThen_ok]
 split
 ·rw[Sem.run_bind,iF hi,Result.andThen_ok,Sem.run_bind,wD hi]
  rfl
 ·rfl
theorem bZ {α:Type} {b:Bool} {x:Option α} {y:α} (h:(bif b then x else none)=some y):b=true∧x=some y:=by
 cases b <;> simp_all
theorem xL {t:TypeId} {d:D} {v:Value} {vs:List Bool} {d':D} {xs':List Obj} (ht:∃ td,P.underlying t=some td)
 (hc:Core Γ S β w xs) (hd:dR S β d v) (h:zS P t d xs=some (vs,d',xs')):eG P false (Instr.loadAt t v) Γ S β w d' xs':=by
 obtain ⟨td,ht⟩:=ht
 obtain ⟨ti,hi⟩:=info_of_underlying ht
 unfold zS at h
 split at h
 ·rename_i o i j
  obtain ⟨k,hk,hin,hjw,rfl⟩:=hd
  cases hx:xs[o]? with
  | none=>simp [hx] at h
  | some x =>
    have ho:=hc.cC o x hx
    cases x with
    | dead=>simp [hx] at h
    | aA5 e bs=>simp [hx] at h
    | map z has get=>simp [hx] at h
    | cells l =>
      simp only[hx] at h
      obtain ⟨k',hk',hw,hn,hcap,us,hh,hl,h1⟩:=ho
      rw[hk] at hk';simp only[aA] at hk';subst hk'
      have hi0:i=0:=by omega
      subst hi0
      cases tM:rF P t with
      | true =>
        simp only[tM,cond_true] at h
        obtain ⟨hle,h⟩:=bZ h
        simp only[aA,aI] at h
        obtain ⟨_,rfl,rfl⟩:=h
        have hle:=aX hle
        obtain ⟨vs',hr,hrel⟩:=aCo (P:=P) (S:=S) (β:=β) (w:=w) k.b (0 * k.w+j) (P.cellsOf t) (fun c=>l.getD (j+c) .bot) (fun c rB=>by
         have hlt:j+c<l.length:=by omega
         obtain ⟨u,hu,hr⟩:=eM.get hl (j+c) _ (aF hlt)
         refine ⟨u,?_,?_⟩
         ·rw[cell_of_heap hh]
          simpa using hu
         ·simpa [List.getD,aF hlt] using hr)
        refine eG.aAR (.agg vs'.toArray) (fun w' j8=>?_) ⟨vs',rfl,?_⟩ hc
        ·rw[mF ht,aE tM,hr w' j8];rfl
        ·have:(l.drop j).take (P.cellsOf t)=(List.range (P.cellsOf t)).map (fun c=>l.getD (j+c) .bot):=by
          apply List.ext_getElem?
          intro q
          rw[List.getElem?_take,bG]
          rcases bE q (P.cellsOf t) with hq | hq
          ·have hlt:j+q<l.length:=by omega
           rw[aE hq,List.getElem?_range hq,List.getElem?_drop,Option.map_some,aF hlt]
           simp [List.getD,aF hlt]
          ·rw[aD (by omega),bB (by simpa using hq)]
           rfl
         rw[this];exact hrel
      | false =>
        simp only[tM,cond_false] at h
        cases hlj:l[j]? with
        | none=>simp [hlj] at h
        | some c =>
          simp only[hlj,Option.elim,aA,aI] at h
          obtain ⟨_,rfl,rfl⟩:=h
          obtain ⟨u,hu,hr⟩:=eM.get hl j c hlj
          refine eG.aAR u (fun w' j8=>?_) hr hc
          have:w.cell? ⟨k.b,0 * k.w+j,none⟩=some u:=by rw[cell_of_heap hh];simpa using hu
          rw[mF ht,aD (by simp [tM]),run_load,j8.cell this]
    | row e wd n get =>
      simp only[hx] at h
      rcases ho with ⟨hn,_⟩ | ⟨k',hk',he,hw,hn,hcap,uJ,cur,hh,hsz,hcell⟩
      ·rw[hk] at hn;cases hn
      rw[hk] at hk';simp only[aA] at hk';subst hk'
      subst hw;subst hn
      cases tM:rF P t with
      | true =>
        simp only[tM,cond_true] at h
        obtain ⟨hle,h⟩:=bZ h
        simp only[aA,aI] at h
        obtain ⟨_,rfl,rfl⟩:=h
        have hle:=aX hle
        obtain ⟨vs',hr,hrel⟩:=aCo (P:=P) (S:=S) (β:=β) (w:=w) k.b (i * k.w+j) (P.cellsOf t) (fun c=>get i (j+c)) (fun c rB=>by
         obtain ⟨u,hu,_,hr⟩:=hcell i (j+c) hin (by omega)
         exact ⟨u,by rw[cell_of_heap hh,← hu,Nat.add_assoc],hr.closed⟩)
        refine eG.aAR (.agg vs'.toArray) (fun w' j8=>?_) ⟨vs',rfl,hrel⟩ hc
        rw[mF ht,aE tM,hr w' j8];rfl
      | false =>
        simp only[tM,cond_false,aA,aI] at h
        obtain ⟨_,rfl,rfl⟩:=h
        obtain ⟨u,hu,_,hr⟩:=hcell i j hin hjw
        refine eG.aAR u (fun w' j8=>?_) hr.closed hc
        have:w.cell? ⟨k.b,i * k.w+j,none⟩=some u:=by rw[cell_of_heap hh,hu]
        rw[mF ht,aD (by simp [tM]),run_load,j8.cell this]
 ·rename_i wd row j
  obtain ⟨b,off,rfl,hcell⟩:=hd
  cases tM:rF P t with
  | true =>
    simp only[tM,cond_true] at h
    obtain ⟨hle,h⟩:=bZ h
    simp only[aA,aI] at h
    obtain ⟨_,rfl,rfl⟩:=h
    have hle:=aX hle
    obtain ⟨vs',hr,hrel⟩:=aCo (P:=P) (S:=S) (β:=β) (w:=w) b (off+j) (P.cellsOf t) (fun c=>row (j+c)) (fun c rB=>by
     obtain ⟨u,hu,hr⟩:=hcell (j+c) (by omega)
     exact ⟨u,by rw[Nat.add_assoc];exact (hc.holds _ _ _ hu).1,hr.closed⟩)
    refine eG.aAR (.agg vs'.toArray) (fun w' j8=>?_) ⟨vs',rfl,hrel⟩ hc
    rw[mF ht,aE tM,hr w' j8];rfl
  | false =>
    simp only[tM,cond_false] at h
    obtain ⟨hlt,h⟩:=bZ h
    simp only[aA,aI] at h
    obtain ⟨_,rfl,rfl⟩:=h
    obtain ⟨u,hu,hr⟩:=hcell j (by simpa [aW] using hlt)
    refine eG.aAR u (fun w' j8=>?_) hr.closed hc
    rw[mF ht,aD (by simp [tM]),run_load,j8.cell (hc.holds _ _ _ hu).1]
 ·cases h
end
end Go.Dl

namespace Go.Dl
variable [dO]
section
variable {p:Bool} {P:Program} {Γ:j6} {S:Mem} {β:dG} {w:World} {xs:List Obj}
theorem c7 {vs:List Bool} {d d':D} {ys ys':List Obj} {vs':List Bool} (h:some (vs,d,ys)=some (vs',d',ys')):vs=vs'∧d=d'∧ys=ys':=by
 simpa using h
theorem yE {i:Int} {n:Nat} (h:cP i n=true):0≤i∧i<n:=by
 simpa [cP] using h
theorem xM {s:TypeId} {d:D} {v:Value} {f:Nat} {vs:List Bool} {d':D} {xs':List Obj}
 (hc:Core Γ S β w xs) (hd:dR S β d v) (h:pH P s d f xs=some (vs,d',xs')):eG P p (Instr.fieldAt s v f) Γ S β w d' xs':=by
 unfold pH at h
 cases hu:P.underlying s with
 | none=>simp [hu] at h
 | some u =>
   cases u with
   | struct fs =>
     simp only[hu] at h
     cases hf:fs[f]? with
     | none=>simp [hf] at h
     | some fd =>
       simp only[hf] at h
       cases hi:P.info? fd.type with
       | none=>simp [hi] at h
       | some fi =>
         simp only[hi] at h
         obtain ⟨hpos,h⟩:=bZ h
         have hpos:0<fi.size:=by simpa [aW] using hpos
         have hrun:∀ b o w',p=true∨Up w w'→(Instr.fieldAt s (.pointer (some ⟨b,o,none⟩)) f).run P w' = .ok (.pointer (some ⟨b,o+fd.offset,none⟩)) w':=by
          intro b o w' _
          unfold Instr.fieldAt
          rw[Sem.run_bind,run_underlying hu,Result.andThen_ok]
          simp only[hf,Instr.sureAddr,pure_bind]
          rw[Sem.run_bind]
          unfold fieldPlace
          rw[Sem.run_bind,iF hi,Result.andThen_ok,aD (by omega),add_lit]
          rfl
         split at h
         ·rename_i o i j _
          obtain ⟨k,hk,hin,hjw,rfl⟩:=hd
          cases hx:xs[o]? with
          | none=>simp [hx] at h
          | some x =>
            have ho:=hc.cC o x hx
            cases x with
            | dead=>simp [hx] at h
            | aA5 e bs=>simp [hx] at h
            | map z has get=>simp [hx] at h
            | cells l =>
              simp only[hx] at h
              obtain ⟨hlt,h⟩:=bZ h
              obtain ⟨_,rfl,rfl⟩:=c7 h
              obtain ⟨k',hk',hw,_⟩:=ho
              rw[hk] at hk';simp only[aA] at hk';subst hk'
              refine eG.same _ (hrun _ _) ⟨k,hk,hin,?_,?_⟩ hc
              ·rw[hw];simpa [aW] using hlt
              ·rw[Nat.add_assoc]
            | row e wd n get =>
              simp only[hx] at h
              obtain ⟨hlt,h⟩:=bZ h
              obtain ⟨_,rfl,rfl⟩:=c7 h
              rcases ho with ⟨hn,_⟩ | ⟨k',hk',_,hw,_⟩
              ·rw[hk] at hn;cases hn
              rw[hk] at hk';simp only[aA] at hk';subst hk'
              refine eG.same _ (hrun _ _) ⟨k,hk,hin,?_,?_⟩ hc
              ·rw[hw];simpa [aW] using hlt
              ·rw[Nat.add_assoc]
         ·rename_i wd row j _
          obtain ⟨_,rfl,rfl⟩:=c7 h
          obtain ⟨b,off,rfl,hcell⟩:=hd
          exact eG.same _ (hrun _ _) ⟨b,off,by rw[Nat.add_assoc],hcell⟩ hc
         ·cases h
   | _=>simp [hu] at h
theorem nT {us:List Value} {l:List C} (h:eM S β l us) (a n:Nat):eM S β ((l.drop a).take n) ((us.drop a).take n):=by
 refine eM.rD (by simp [eM.length h]) fun i c hc=>?_
 rw[List.getElem?_take] at hc ⊢
 split at hc
 ·rename_i hlt
  rw[List.getElem?_drop] at hc ⊢
  obtain ⟨u,hu,hr⟩:=eM.get h _ _ hc
  exact ⟨u,by rw[aE hlt];exact hu,hr⟩
 ·cases hc
theorem aDZ {s:TypeId} {d:D} {v:Value} {f:Nat} {vs:List Bool} {d':D} {xs':List Obj}
 (hc:Core Γ S β w xs) (hd:dR S β d v) (h:aBu P s d f xs=some (vs,d',xs')) (hty:∀ fs fd,P.underlying s=some (.struct fs)→fs[f]? = some fd→∃ td,P.underlying fd.type=some td) :
 eG P p (Instr.field s v f) Γ S β w d' xs':=by
 unfold aBu at h
 cases hu:P.underlying s with
 | none=>simp [hu] at h
 | some u =>
   cases u with
   | struct fs =>
     cases d with
     | agg l =>
       simp only[hu] at h
       obtain ⟨us,rfl,hl⟩:=hd
       cases hf:fs[f]? with
       | none=>simp [hf] at h
       | some fd =>
         simp only[hf] at h
         obtain ⟨td,htd⟩:=hty fs fd hu hf
         obtain ⟨ti,hti⟩:=info_of_underlying htd
         have hbase:∀ w,(Instr.field s (.agg us.toArray) f).run P w=(part fd.type us.toArray fd.offset).run P w:=by
          intro w
          unfold Instr.field
          rw[Sem.run_bind,run_underlying hu,Result.andThen_ok]
          simp only[hf]
          rfl
         cases tM:rF P fd.type with
         | true =>
           simp only[tM,cond_true] at h
           obtain ⟨hle,h⟩:=bZ h
           obtain ⟨_,rfl,rfl⟩:=c7 h
           refine eG.same (.agg ((us.drop fd.offset).take (P.cellsOf fd.type)).toArray) (fun w' j8=>?_) ⟨_,rfl,nT hl _ _⟩ hc
           rw[hbase]
           unfold part
           rw[Sem.run_bind,qI htd,Result.andThen_ok,aE tM,Sem.run_bind,iF hti,wD hti]
           simp [List.take_drop,Nat.add_comm]
         | false =>
           simp only[tM,cond_false] at h
           cases hlj:l[fd.offset]? with
           | none=>simp [hlj] at h
           | some c =>
             simp only[hlj,Option.elim] at h
             obtain ⟨_,rfl,rfl⟩:=c7 h
             obtain ⟨u,hu',hr⟩:=eM.get hl _ _ hlj
             refine eG.same u (fun w' j8=>?_) hr hc
             rw[hbase]
             unfold part
             rw[Sem.run_bind,qI htd,Result.andThen_ok,aD (by simp [tM])]
             have:(us.toArray)[fd.offset]? = some u:=by simpa using hu'
             rw[this];rfl
     | _=>simp [hu] at h
   | _=>simp [hu] at h
theorem lH {e:TypeId} {n:Nat} (h:aD4 P e n=true):∃ i,P.info? e=some i∧i.size=n:=by
 unfold aD4 at h
 cases hi:P.info? e with
 | none=>simp [hi] at h
 | some i=>simp only[hi] at h;exact ⟨i,rfl,(aH h).symm⟩
theorem run_indexAt_slice {t e:TypeId} {i:Int} {k:IntKind} {b off n cap:Nat} {ei:TypeInfo} (hu:P.underlying t=some (.slice e)) (hei:P.info? e=some ei) (hb:0≤i∧i<n) :
 (Instr.indexAt t (.slice (some ⟨b,off,none⟩) n cap) (.int k i)).run P w = .ok (.pointer (some ⟨b,off+i.toNat * ei.size,none⟩)) w:=by
 unfold Instr.indexAt
 simp only[asIntOf,pure_bind]
 rw[Sem.run_bind,run_underlying hu,Result.andThen_ok]
 simp only[pure_bind]
 rw[Sem.run_bind,run_underlying hu,Result.andThen_ok]
 simp only[pure_bind,aE hb]
 rw[Sem.run_bind,iF hei,Result.andThen_ok,add_lit]
 rfl
theorem xN {t:TypeId} {x ix:D} {v vi:Value} {vs:List Bool} {d':D} {xs':List Obj}
 (hc:Core Γ S β w xs) (hx:dR S β x v) (hi:dR S β ix vi) (h:pI P t x ix xs=some (vs,d',xs')) (hvs:∀ b∈vs,b=true) :
 eG P p (Instr.indexAt t v vi) Γ S β w d' xs':=by
 unfold pI at h
 split at h
 ·rename_i e wd n get k i hu
  have h2:=bZ h
  clear h
  obtain ⟨hw,h⟩:=h2
  obtain ⟨rfl,rfl,rfl⟩:=c7 h
  obtain ⟨ei,hei,rfl⟩:=lH hw
  have hb:=yE (i:=i) (n:=n) (hvs _ (by simp))
  obtain ⟨a,cap,rfl,hle,_,hz⟩:=hx
  obtain rfl:vi = .int k i:=hi
  rcases hz with hz | ⟨b,off,rfl,hcell⟩
  ·omega
  exact eG.same _ (fun _ _=>run_indexAt_slice hu hei hb) ⟨b,off+i.toNat * ei.size,by simp,fun j hj=>hcell i.toNat j (by omega) hj⟩ hc
 ·rename_i e o n k i hu
  cases nN:xs[o]? with
  | none=>simp [nN] at h
  | some x =>
    cases x with
    | row e' wd n' get =>
      simp only[nN] at h
      have h2:=bZ h
      clear h
      obtain ⟨hw,h⟩:=h2
      obtain ⟨rfl,rfl,rfl⟩:=c7 h
      simp only[aC] at hw
      obtain ⟨hw,hpos⟩:=hw
      obtain ⟨ei,hei,rfl⟩:=lH hw
      have hpos:0<ei.size:=by simpa [aW] using hpos
      have hb:=yE (i:=i) (n:=n) (hvs _ (by simp))
      obtain rfl:vi = .int k i:=hi
      have ho:=hc.cC o _ nN
      simp only[dR,cV] at hx
      rcases ho with ⟨hn,_⟩ | ⟨kb,hk,he,j8,hn,hcap,uJ,cur,hh,hsz,hcell⟩
      ·rw[hn] at hx;omega
      rw[hk] at hx
      obtain ⟨hle,_,rfl⟩:=hx
      refine eG.same _ (fun _ _=>run_indexAt_slice hu hei hb) ⟨kb,hk,?_,by omega,?_⟩ hc
      ·omega
      ·rw[j8];simp
    | _=>simp [nN] at h
 ·rename_i e o lo n k i hu
  cases nN:xs[o]? with
  | none=>simp [nN] at h
  | some x =>
    cases x with
    | row e' wd n' get =>
      simp only[nN] at h
      have h2:=bZ h
      clear h
      obtain ⟨hw,h⟩:=h2
      obtain ⟨rfl,rfl,rfl⟩:=c7 h
      simp only[aC] at hw
      obtain ⟨hw,hpos⟩:=hw
      obtain ⟨ei,hei,rfl⟩:=lH hw
      have hpos:0<ei.size:=by simpa [aW] using hpos
      have hb:=yE (i:=i) (n:=n) (hvs _ (by simp))
      obtain rfl:vi = .int k i:=hi
      obtain ⟨a,cap,rfl,hle,hz⟩:=hx
      rcases hz with hz | ⟨kb,hk,hlo,rfl⟩
      ·omega
      have ho:=hc.cC o _ nN
      rcases ho with ⟨hn,_⟩ | ⟨kb',hk',he,j8,hn,hcap,uJ,cur,hh,hsz,hcell⟩
      ·rw[hk] at hn;cases hn
      rw[hk] at hk';simp only[aA] at hk';subst hk'
      refine eG.same _ (fun _ _=>run_indexAt_slice hu hei hb) ⟨kb,hk,?_,by omega,?_⟩ hc
      ·omega
      ·rw[j8];simp [Nat.add_mul]
    | _=>simp [nN] at h
 ·obtain ⟨rfl,rfl,rfl⟩:=c7 h
  exact absurd (hvs false (by simp)) (by simp)
 ·rename_i len e o i0 j kk k hu
  cases nN:xs[o]? with
  | none=>simp [nN] at h
  | some x =>
    cases x with
    | cells l =>
      simp only[nN] at h
      have h2:=bZ h
      clear h
      obtain ⟨hw,h⟩:=h2
      obtain ⟨rfl,rfl,rfl⟩:=c7 h
      simp only[aC,aW] at hw
      obtain ⟨hw,hlt,hlen⟩:=hw
      obtain ⟨ei,hei,hes⟩:=lH hw
      have hb:=yE (i:=k) (n:=len) (hvs _ (by simp))
      obtain rfl:vi = .int kk k:=hi
      obtain ⟨kb,hk,hin,hjw,rfl⟩:=hx
      obtain ⟨k',hk',hwl,hn,hcap,us,hh,hl,h1⟩:=hc.cC o _ nN
      rw[hk] at hk';simp only[aA] at hk';subst hk'
      refine eG.same (.pointer (some ⟨kb.b,i0 * kb.w+j+k.toNat * P.cellsOf e,none⟩)) (fun w' j8=>?_) ⟨kb,hk,hin,by omega,by rw[Nat.add_assoc]⟩ hc
      unfold Instr.indexAt
      simp only[asIntOf,pure_bind]
      rw[Sem.run_bind,run_underlying hu,Result.andThen_ok]
      simp only[Instr.sureAddr,pure_bind]
      rw[Sem.run_bind,run_underlying hu,Result.andThen_ok]
      simp only[pure_bind,aE hb]
      rw[Sem.run_bind,iF hei,Result.andThen_ok,add_lit,hes]
      rfl
    | _=>simp [nN] at h
 ·cases h
theorem aD0 {t:TypeId} {x ix:D} {v vi:Value} {vs:List Bool} {d':D} {xs':List Obj}
 (hc:Core Γ S β w xs) (hx:dR S β x v) (hi:dR S β ix vi) (h:aBv P t x ix xs=some (vs,d',xs')) (hvs:∀ b∈vs,b=true) :
 eG P p (Instr.index t v vi) Γ S β w d' xs':=by
 unfold aBv at h
 split at h
 ·rename_i l k i hu
  obtain ⟨rfl,rfl,rfl⟩:=c7 h
  have hb:=yE (i:=i) (n:=l.length) (hvs _ (by simp))
  obtain ⟨rfl,_⟩:v = .string ⟨l.toArray⟩∧l.length≤maxLen:=hx
  obtain rfl:vi = .int k i:=hi
  have hlt:i.toNat<l.length:=by omega
  refine eG.same _ (fun w' j8=>?_) rfl hc
  unfold Instr.index
  simp only[asIntOf,pure_bind]
  rw[Sem.run_bind,run_underlying hu,Result.andThen_ok]
  have hg:(⟨l.toArray⟩:ByteArray)[i.toNat]? = some (l.getD i.toNat 0):=by
   have:(⟨l.toArray⟩:ByteArray).size=l.length:=by simp [ByteArray.size]
   rw[getElem?_pos _ _ (by rw[this];exact hlt)]
   simp only[aA]
   show l.toArray[i.toNat]'(by simpa using hlt)=_
   simp [List.getD,aF hlt]
  simp only[aE hb.1,hg]
  rfl
 ·cases h
end
end Go.Dl

namespace Go.Dl
variable [dO]
section
variable {pb:Bool} {P:Program} {Γ:j6} {S:Mem} {β:dG} {w:World} {xs:List Obj}
theorem n6 {n:Nat} {l h:Int} (e:c5 n l h=true):0≤l∧l≤h∧h≤n:=by
 simp [c5] at e
 omega
theorem run_sliceBound {k:IntKind} {i:Int} {y:Nat} {c:BoundsCode} (h:0≤i∧i≤y) (w:World) :
 (Instr.sliceBound (.int k i) y c).run P w = .ok i.toNat w:=by
 unfold Instr.sliceBound
 simp only[asIntOf,pure_bind,aE h]
 rfl
def aGw (S:Mem) (β:dG):Option D→Option Value→Prop
 | none,v=>v=none
 | some d,v=>∃ u,v=some u∧dR S β d u
theorem gR {lo hi:Option D} {vlo vhi:Option Value} {n cap:Nat} {l h:Int} {isS:Bool} (hlo:aGw S β lo vlo) (hhi:aGw S β hi vhi)
 (hb:bounds n lo hi=some (l,h)) (hok:c5 n l h=true) (hcap:n≤cap) (w:World) :
 (Instr.sliceBounds isS n cap vlo vhi none).run P w = .ok (l.toNat,h.toNat,cap) w:=by
 obtain ⟨h1,h2,h3⟩:=n6 hok
 unfold bounds at hb
 unfold Instr.sliceBounds
 split at hb
 ·simp only[aA,aI] at hb
  obtain ⟨rfl,rfl⟩:=hb
  obtain rfl:vlo=none:=hlo
  obtain rfl:vhi=none:=hhi
  simp [pure,Sem.run,bind,Sem.bind]
 ·rename_i k l'
  simp only[aA,aI] at hb
  obtain ⟨rfl,rfl⟩:=hb
  obtain ⟨u,rfl,hu⟩:=hlo
  obtain rfl:u = .int k l':=hu
  obtain rfl:vhi=none:=hhi
  simp only[pure_bind,Sem.run_bind,run_sliceBound (P:=P) (y:=n) ⟨h1,h2⟩,Result.andThen_ok]
  simp [pure,Sem.run]
 ·rename_i k h'
  simp only[aA,aI] at hb
  obtain ⟨rfl,rfl⟩:=hb
  obtain ⟨u,rfl,hu⟩:=hhi
  obtain rfl:u = .int k h':=hu
  obtain rfl:vlo=none:=hlo
  simp only[pure_bind,Sem.run_bind,run_sliceBound (P:=P) (i:=h') (y:=cap) ⟨h2,by omega⟩,Result.andThen_ok]
  simp [pure,Sem.run]
 ·rename_i k l' k' h'
  simp only[aA,aI] at hb
  obtain ⟨rfl,rfl⟩:=hb
  obtain ⟨u,rfl,hu⟩:=hhi
  obtain rfl:u = .int k' h':=hu
  obtain ⟨u,rfl,hu⟩:=hlo
  obtain rfl:u = .int k l':=hu
  simp only[pure_bind,Sem.run_bind,run_sliceBound (P:=P) (i:=h') (y:=cap) ⟨by omega,by omega⟩,Result.andThen_ok]
  simp only[run_sliceBound (P:=P) (i:=l') (y:=h'.toNat) ⟨h1,by omega⟩,Result.andThen_ok]
  simp [pure,Sem.run]
 ·cases hb
theorem aCy {t:TypeId} {d:TypeDesc} (hu:P.underlying t=some d) (hd:∀ n e,d≠.array n e) (x:Value) (lo hi:Option Value) (w:World) :
 (Instr.sliceAt t x lo hi none).run P w=(Instr.slice t x lo hi none).run P w:=by
 unfold Instr.sliceAt
 rw[Sem.run_bind,run_underlying hu,Result.andThen_ok]
 cases d <;> first | rfl | exact absurd rfl (hd _ _)
theorem iE {t e:TypeId} {ei:TypeInfo} {a:Option Addr} {n cap l h:Nat} {vlo vhi:Option Value} (hu:P.underlying t=some (.slice e)) (hei:P.info? e=some ei)
 (hb:(Instr.sliceBounds true n cap vlo vhi none).run P w = .ok (l,h,cap) w) :
 (Instr.sliceAt t (.slice a n cap) vlo vhi none).run P w = .ok (.slice (if cap=l then a else a.map (·.add (l * ei.size))) (h - l) (cap - l)) w:=by
 rw[aCy hu (by intro _ _ h;cases h)]
 unfold Instr.slice
 rw[Sem.run_bind,run_underlying hu,Result.andThen_ok]
 simp only
 rw[Sem.run_bind,hb,Result.andThen_ok]
 simp only
 rw[Sem.run_bind,iF hei,Result.andThen_ok]
 rfl
theorem aDY {t:TypeId} {x:D} {lo hi:Option D} {v:Value} {vlo vhi:Option Value} {vs:List Bool} {d':D} {xs':List Obj}
 (hc:Core Γ S β w xs) (hx:dR S β x v) (hlo:aGw S β lo vlo) (hhi:aGw S β hi vhi)
 (h:aBw P t x lo hi xs=some (vs,d',xs')) (hvs:∀ b∈vs,b=true):eG P pb (Instr.sliceAt t v vlo vhi none) Γ S β w d' xs':=by
 unfold aBw at h
 split at h
 ·rename_i s hu
  cases hb:bounds s.length lo hi with
  | none=>simp [hb] at h
  | some p =>
    obtain ⟨l,hh⟩:=p
    simp only[hb] at h
    obtain ⟨rfl,rfl,rfl⟩:=c7 h
    have hok:c5 s.length l hh=true:=hvs _ (by simp)
    obtain ⟨b1,b2,b3⟩:=n6 hok
    obtain ⟨rfl,hmx⟩:v = .string ⟨s.toArray⟩∧s.length≤maxLen:=hx
    refine eG.same (.string ((⟨s.toArray⟩:ByteArray).extract l.toNat hh.toNat)) (fun w' j8=>?_) ?_ hc
    ·rw[aCy hu (by intro _ _ h;cases h)]
     unfold Instr.slice
     rw[Sem.run_bind,run_underlying hu,Result.andThen_ok]
     simp only[Option.isSome_none,aR,if_false]
     have hz:(⟨s.toArray⟩:ByteArray).size=s.length:=by simp [ByteArray.size]
     rw[hz,Sem.run_bind,gR (S:=S) (β:=β) hlo hhi hb hok (aM _),Result.andThen_ok]
     rfl
    ·refine ⟨?_,by simp only[aK,bM];omega⟩
     congr 1
     have:=Lib.extract_data ⟨s.toArray⟩ l.toNat hh.toNat
     apply ByteArray.ext
     apply Array.ext'
     rw[this]
 ·rename_i e wd n get hu
  have h2:=bZ h
  clear h
  obtain ⟨hw,h⟩:=h2
  obtain ⟨ei,hei,rfl⟩:=lH hw
  cases hb:bounds n lo hi with
  | none=>simp [hb] at h
  | some p =>
    obtain ⟨l,hh⟩:=p
    simp only[hb] at h
    obtain ⟨rfl,rfl,rfl⟩:=c7 h
    have hok:c5 n l hh=true:=hvs _ (by simp)
    obtain ⟨b1,b2,b3⟩:=n6 hok
    obtain ⟨a,cap,rfl,hle,uJ,hz⟩:=hx
    refine eG.same _ (fun w' _=>iE hu hei (gR (S:=S) (β:=β) hlo hhi hb hok hle w')) ?_ hc
    refine ⟨_,_,rfl,by omega,by omega,?_⟩
    by_cases hzero:hh.toNat - l.toNat=0
    ·exact .inl hzero
    ·right
     rcases hz with hz | ⟨b,off,rfl,hcell⟩
     ·omega
     rw[aD (by omega)]
     refine ⟨b,off+l.toNat * ei.size,by simp [add_lit],fun i j hi hj=>?_⟩
     have:=hcell (l.toNat+i) j (by omega) hj
     rwa [show off+(l.toNat+i) * ei.size+j=off+l.toNat * ei.size+i * ei.size+j by rw[Nat.add_mul];omega] at this
 ·rename_i e o n hu
  have h2:=bZ h
  clear h
  obtain ⟨hw,h⟩:=h2
  obtain ⟨ei,hei⟩:=bI.1 hw
  cases lo with
  | some d =>
    simp only at h
    cases nN:xs[o]? with
    | none=>simp [nN] at h
    | some x =>
    cases x with
    | row e' wd n' get =>
      simp only[nN] at h
      cases hb:bounds n (some d) hi with
      | none=>simp [hb] at h
      | some p =>
        obtain ⟨l,hh⟩:=p
        simp only[hb] at h
        have h2:=bZ h
        clear h
        obtain ⟨hwd,h⟩:=h2
        obtain ⟨rfl,rfl,rfl⟩:=c7 h
        obtain ⟨ei',aW8,hes⟩:=lH hwd
        rw[hei] at aW8;simp only[aA] at aW8;subst aW8
        have hok:c5 n l hh=true:=hvs _ (by simp)
        obtain ⟨b1,b2,b3⟩:=n6 hok
        have ho:=hc.cC o _ nN
        simp only[dR,cV] at hx
        cases hk:β o with
        | none=>simp [hk] at hx
        | some k =>
          rw[hk] at hx
          cases k with
          | none =>
            obtain ⟨hn,rfl⟩:=hx
            subst hn
            have hr:=fun (w':World) (_:pb=true∨Up w w')=>iE (w:=w') (a:=none) (cap:=0) hu hei (gR (S:=S) (β:=β) (isS:=true) (cap:=0) hlo hhi hb hok (aM _) w')
            refine eG.same _ hr ?_ hc
            have e1:l.toNat=0:=by omega
            have e2:hh.toNat=0:=by omega
            exact ⟨_,_,rfl,by omega,.inl (by omega)⟩
          | some kb =>
            obtain ⟨hle,hnc,rfl⟩:=hx
            have hr:=fun (w':World) (_:pb=true∨Up w w')=>iE (w:=w') (a:=some ⟨kb.b,0,none⟩) hu hei (gR (S:=S) (β:=β) (isS:=true) hlo hhi hb hok hnc w')
            refine eG.same _ hr ⟨_,_,rfl,by omega,?_⟩ hc
            by_cases hzero:hh.toNat - l.toNat=0
            ·exact .inl hzero
            ·right
             rcases ho with ⟨hn,_⟩ | ⟨kb',hk',he,j8,hn,hcap,uJ,cur,hhp,hsz,hcell⟩
             ·rw[hk] at hn;cases hn
             rw[hk] at hk';simp only[aA] at hk';subst hk'
             rw[aD (by omega)]
             refine ⟨kb,hk,by omega,?_⟩
             rw[j8,← hes];simp [Addr.add_lit]
    | _=>simp [nN] at h
  | none =>
    simp only at h
    cases hb:bounds n none hi with
    | none=>simp [hb] at h
    | some p =>
      obtain ⟨l,hh⟩:=p
      simp only[hb] at h
      obtain ⟨rfl,rfl,rfl⟩:=c7 h
      have hok:c5 n l hh=true:=hvs _ (by simp)
      obtain ⟨b1,b2,b3⟩:=n6 hok
      have hl0:l=0:=by
       unfold bounds at hb
       split at hb <;> simp_all
      subst hl0
      obtain rfl:vlo=none:=hlo
      simp only[dR,cV] at hx
      cases hk:β o with
      | none=>simp [hk] at hx
      | some k =>
        rw[hk] at hx
        cases k with
        | none =>
          obtain ⟨hn,rfl⟩:=hx
          subst hn
          have hr:=fun (w':World) (_:pb=true∨Up w w')=>iE (w:=w') (a:=none) (cap:=0) hu hei (gR (S:=S) (β:=β) (isS:=true) (cap:=0) (vlo:=none) (lo:=none) rfl hhi hb hok (aM _) w')
          refine eG.same _ hr ?_ hc
          simp only[dR,cV,hk]
          have:hh.toNat=0:=by omega
          simp [this]
        | some kb =>
          obtain ⟨hle,hnc,rfl⟩:=hx
          have hr:=fun (w':World) (_:pb=true∨Up w w')=>iE (w:=w') (a:=some ⟨kb.b,0,none⟩) hu hei (gR (S:=S) (β:=β) (isS:=true) (vlo:=none) (lo:=none) rfl hhi hb hok hnc w')
          refine eG.same _ hr ?_ hc
          simp only[dR,cV,hk]
          refine ⟨by omega,by omega,?_⟩
          simp [Addr.add]
 ·rename_i e hu
  have h2:=bZ h
  clear h
  obtain ⟨hw,h⟩:=h2
  obtain ⟨ei,hei⟩:=bI.1 hw
  cases hb:bounds 0 lo hi with
  | none=>simp [hb] at h
  | some p =>
    obtain ⟨l,hh⟩:=p
    simp only[hb] at h
    obtain ⟨rfl,rfl,rfl⟩:=c7 h
    have hok:c5 0 l hh=true:=hvs _ (by simp)
    obtain ⟨b1,b2,b3⟩:=n6 hok
    obtain rfl:v = .slice none 0 0:=hx
    have hr:=fun (w':World) (_:pb=true∨Up w w')=>iE (w:=w') (a:=none) (cap:=0) hu hei (gR (S:=S) (β:=β) (isS:=true) (cap:=0) hlo hhi hb hok (aM _) w')
    refine eG.same _ hr ?_ hc
    have e1:l.toNat=0:=by omega
    have e2:hh.toNat=0:=by omega
    simp [dR,cV,e1,e2]
 ·cases h
theorem aGX {op:BinOp} {t:TypeId} {k k':IntKind} {a b:Int} {vs:List Bool} {c:C} (h:aJ4 op k a k' b=some (vs,c)) (hvs:∀ b∈vs,b=true) :
 ∃ v,(∀ w,(binOp op t (.int k a) (.int k' b)).run P w = .ok v w)∧c = .val v:=by
 unfold aJ4 at h
 have hs:∀ (y:Int),decide (0≤y)=true→¬ y<0:=by intro y hy;simp at hy;omega
 cases op <;> simp only[] at h
 case shl =>
  simp only[aA,aI] at h
  obtain ⟨rfl,rfl⟩:=h
  refine ⟨_,fun w=>?_,rfl⟩
  simp only[binOp,Op.shift]
  rw[aD (hs b (hvs _ (by simp)))]
  rfl
 case shr =>
  simp only[aA,aI] at h
  obtain ⟨rfl,rfl⟩:=h
  refine ⟨_,fun w=>?_,rfl⟩
  simp only[binOp,Op.shift]
  rw[aD (hs b (hvs _ (by simp)))]
  rfl
 all_goals
  have h2:=bZ h
  clear h
  obtain ⟨hk,h⟩:=h2
  have hk:k=k':=by simpa using hk
  subst hk
  simp only[aZ7,aUV,aA,aI] at h
  obtain ⟨rfl,rfl⟩:=h
  refine ⟨_,fun w=>?_,rfl⟩
  simp only[binOp,ne_eq,not_true_eq_false,if_false]
 case quo =>
  have:b≠0:=by have:=hvs _ (aJ.2 rfl);simpa using this
  unfold Op.intDiv
  rw[aD this]
  rfl
 case rem =>
  have:b≠0:=by have:=hvs _ (aJ.2 rfl);simpa using this
  unfold Op.intDiv
  rw[aD this]
  rfl
 all_goals rfl
theorem aGY {op:BinOp} {t:TypeId} {a b:List UInt8} {vs:List Bool} {c:C} (h:aJ5 op a b=some (vs,c)) (hvs:∀ b∈vs,b=true) :
 ∃ v,(∀ w,(binOp op t (.string ⟨a.toArray⟩) (.string ⟨b.toArray⟩)).run P w = .ok v w)∧cV S β c v:=by
 unfold aJ5 at h
 have e1:(⟨a.toArray⟩:ByteArray).toList=a:=ByteArray.toList_mk a
 have e2:(⟨b.toArray⟩:ByteArray).toList=b:=ByteArray.toList_mk b
 cases op <;> simp only[aA,aI,reduceCtorEq] at h
 all_goals
  obtain ⟨rfl,rfl⟩:=h
 case add =>
  have hr:a.length+b.length≤140737488355328:=by have:=hvs _ (aJ.2 rfl);simpa [room] using this
  have z1:(⟨a.toArray⟩:ByteArray).size=a.length:=by simp [ByteArray.size]
  have z2:(⟨b.toArray⟩:ByteArray).size=b.length:=by simp [ByteArray.size]
  refine ⟨.string ((⟨a.toArray⟩:ByteArray)++⟨b.toArray⟩),fun w=>?_,?_⟩
  ·simp only[binOp,Op.stringOp]
   rw[aD ?_]
   ·rfl
   ·rw[z1,z2]
    have:IntKind.i64.max=9223372036854775807:=by decide
    rw[this]
    omega
  ·exact ⟨by congr 1,by simp only[aG,maxLen];omega⟩
 all_goals
  refine ⟨_,fun _=>rfl,?_⟩
  simp only[e1,e2]
  rfl
theorem eE (op:BinOp) (t:TypeId) (x y:Operand) (a b:Value) (w:World) (h1:¬ (a = .nilIface∧b = .nilIface)) (h2:∀ l m,¬ (a = .agg l∧b = .agg m)) :
 (eqGuard op t x y a b).run P w = .ok () w:=by
 unfold eqGuard
 cases a <;> cases b <;> first | (cases op <;> rfl) | exact absurd ⟨rfl,rfl⟩ h1 | exact absurd ⟨rfl,rfl⟩ (h2 _ _)
theorem nI (op:BinOp) (t:TypeId) (x y:Operand) (w:World) (h:(isConst x || isConst y)=true) :
 (eqGuard op t x y .nilIface .nilIface).run P w = .ok () w:=by
 unfold eqGuard
 cases x <;> cases y <;> simp [isConst] at h <;> cases op <;> rfl
theorem gP {t:TypeId} {d:TypeDesc} (hu:P.underlying t=some d) (a b:Value) (r:Bool)
 (h:match d,a,b with
  | .bool,.bool x,.bool y=>r=(x == y)
  | .interface _,.nilIface,.nilIface=>r=true
  | .interface _,.nilIface,.iface _ _=>r=false
  | .interface _,.iface _ _,.nilIface=>r=false
  | .pointer _,.pointer none,.pointer y=>r=y.isNone
  | .pointer _,.pointer (some _),.pointer none=>r=false
  | .slice _,.slice none _ _,.slice y _ _=>r=y.isNone
  | _,_,_=>False) (w:World):(Op.equal t a b).run P w = .ok r w:=by
 show (Op.equalIn (9999+1) t a b).run P w=_
 unfold Op.equalIn
 rw[Sem.run_bind,run_underlying hu,Result.andThen_ok]
 split at h <;> first | (subst h;rfl) | exact h.elim
theorem yF {t:TypeId} {a b:C} {v u:Value} {r:Bool} {d:Nat} (h:vZ P t a b=some r) (hx:cV S β a v) (hy:cV S β b u) (w:World):(Op.equalIn (d+1) t v u).run P w = .ok r w:=by
 unfold vZ at h
 split at h
 ·rename_i k0 k a k' b hu
  obtain rfl:v = .int k a:=hx
  obtain rfl:u = .int k' b:=hy
  have h2:=bZ h
  clear h
  obtain ⟨hk,h⟩:=h2
  have hk:k=k':=by simpa using hk
  subst hk
  simp only[aA] at h;subst h
  unfold Op.equalIn;rw[Sem.run_bind,run_underlying hu]
  simp only[Result.andThen_ok,if_true]
  rfl
 ·rename_i a b hu
  obtain ⟨rfl,_⟩:=hx
  obtain ⟨rfl,_⟩:=hy
  simp only[aA] at h;subst h
  unfold Op.equalIn;rw[Sem.run_bind,run_underlying hu]
  simp only[Result.andThen_ok]
  show Result.ok ((⟨a.toArray⟩:ByteArray) == ⟨b.toArray⟩) w=_
  rw[beq_toListBytes,ByteArray.toList_mk,ByteArray.toList_mk]
 ·rename_i a b hu
  obtain rfl:v = .bool a:=hx
  obtain rfl:u = .bool b:=hy
  simp only[aA] at h;subst h
  unfold Op.equalIn;rw[Sem.run_bind,run_underlying hu];rfl
 ·cases h
theorem mO {t:TypeId} {d:TypeDesc} (h:P.underlying t=some d) (tM:rF P t=false) {cs:List Value} {off:Nat} {v:Value} (hv:cs[off]? = some v) (w:World) :
 (part t cs.toArray off).run P w = .ok v w:=by
 unfold part
 rw[Sem.run_bind,qI h,Result.andThen_ok,aD (by simp [tM])]
 have:cs.toArray[off]? = some v:=by simpa using hv
 rw[this];rfl
theorem eM.at {l:List C} {vs:List Value} (h:eM S β l vs):∀ {j:Nat} {c:C},l[j]? = some c→∃ v,vs[j]? = some v∧cV S β c v:=by
 induction l generalizing vs with
 | nil=>intro j c hj;simp at hj
 | cons a r ih =>
   intro j c hj
   obtain ⟨v,us,rfl,h1,h2⟩:=h
   cases j with
   | zero =>
     simp only[List.getElem?_cons_zero,aA] at hj
     subst hj
     exact ⟨v,rfl,h1⟩
   | succ j=>exact ih h2 (by simpa using hj)
theorem tO {d:Nat} {xs ys:List C} {vs us:List Value} (hx:eM S β xs vs) (hy:eM S β ys us):∀ {fs:List Field} {r:Bool},aGH P xs ys fs=some r→∀ w,(Op.eqFields (d+1) vs.toArray us.toArray fs).run P w = .ok r w
 | [],r,h,w=>by
   simp only[aGH,List.foldr_nil,aA] at h
   subst h
   rfl
 | fd::fs,r,h,w=>by
   unfold aGH at h
   rw[List.foldr_cons] at h
   unfold Op.eqFields
   cases hn:(fd.name == "_") with
   | true =>
     rw[hn] at h
     have hne:¬ (fd.name≠ "_"):=by simpa using hn
     rw[aD hne]
     exact tO hx hy h w
   | false =>
     rw[hn] at h
     simp only[Bool.not_false,cond_true] at h
     have hne:fd.name≠ "_":=by simpa using hn
     rw[aE hne]
     cases tM:rF P fd.type with
     | true=>rw[tM] at h;cases h
     | false =>
       rw[tM,cond_false] at h
       cases ha:xs[fd.offset]? with
       | none=>simp [ha] at h
       | some a =>
         cases hb:ys[fd.offset]? with
         | none=>simp [ha,hb] at h
         | some b =>
           rw[ha,hb] at h
           simp only at h
           obtain ⟨v,hv,hra⟩:=hx.at ha
           obtain ⟨u,hu,hrb⟩:=hy.at hb
           cases he:vZ P fd.type a b with
           | none=>rw[he] at h;cases h
           | some e =>
             rw[he] at h
             have hd:∃ td,P.underlying fd.type=some td:=by
              unfold vZ at he
              cases hud:P.underlying fd.type with
              | none=>rw[hud] at he;cases he
              | some td=>exact ⟨td,rfl⟩
             obtain ⟨td,hd⟩:=hd
             generalize hq:fs.foldr _ (some true)=q at h
             have ih:∀ {r:Bool},q=some r→∀ w,(Op.eqFields (d+1) vs.toArray us.toArray fs).run P w = .ok r w:=by
              intro r hr w
              subst hr
              exact tO hx hy (by unfold aGH;exact hq) w
             cases q with
             | none=>cases h
             | some q =>
               simp only[aA] at h
               subst h
               rw[Sem.run_bind,mO hd tM hv,Result.andThen_ok,Sem.run_bind,mO hd tM hu,Result.andThen_ok,Sem.run_bind,yF he hra hrb,Result.andThen_ok]
               cases e with
               | true =>
                 simp only[Bool.not_true,aR,if_false,Bool.true_and]
                 exact ih rfl w
               | false=>rfl
theorem yG {t:TypeId} {d:TypeDesc} (h:P.underlying t=some d) (tM:rF P t=true) {vs:List Value} {off:Nat} (w:World) :
 (part t vs.toArray off).run P w = .ok (.agg ((vs.drop off).take (P.cellsOf t)).toArray) w:=by
 obtain ⟨ti,hti⟩:=info_of_underlying h
 unfold part
 rw[Sem.run_bind,qI h,Result.andThen_ok,aE tM,Sem.run_bind,iF hti,wD hti]
 simp [List.take_drop,Nat.add_comm]
theorem aD9 {d:Nat} {xs ys:List C} {vs us:List Value} (hx:eM S β xs vs) (hy:eM S β ys us) {fd:Field} {e:Bool} (h:aBz P xs ys fd=some e) (w:World) :
 ((do let a ← part fd.type vs.toArray fd.offset;let b ← part fd.type us.toArray fd.offset;Op.equalIn (d+2) fd.type a b):Sem Bool).run P w = .ok e w:=by
 unfold aBz at h
 cases tM:rF P fd.type with
 | true =>
   rw[tM,cond_true] at h
   split at h
   ·rename_i fs hu
    cases hg:P.stoodInHeld fd.type with
    | true=>rw[hg] at h;cases h
    | false =>
      rw[hg,cond_false] at h
      have hfs:P.fieldsOf fd.type=fs:=by unfold Program.fieldsOf;rw[hu]
      rw[Sem.run_bind,yG hu tM,Result.andThen_ok,Sem.run_bind,yG hu tM,Result.andThen_ok,run_equalIn_struct w _ _ _ _ (by rw[hfs];exact hu) hg,hfs]
      exact tO (nT hx _ _) (nT hy _ _) h w
   ·cases h
 | false =>
   rw[tM,cond_false] at h
   split at h
   ·rename_i a b ha hb
    obtain ⟨v,hv,hra⟩:=hx.at ha
    obtain ⟨u,hu,hrb⟩:=hy.at hb
    have hd:∃ td,P.underlying fd.type=some td:=by
     unfold vZ at h
     cases hud:P.underlying fd.type with
     | none=>rw[hud] at h;cases h
     | some td=>exact ⟨td,rfl⟩
    obtain ⟨td,hd⟩:=hd
    rw[Sem.run_bind,mO hd tM hv,Result.andThen_ok,Sem.run_bind,mO hd tM hu,Result.andThen_ok,yF h hra hrb]
   ·cases h
theorem rI {d:Nat} {xs ys:List C} {vs us:List Value} (hx:eM S β xs vs) (hy:eM S β ys us):∀ {fs:List Field} {r:Bool},aCb P xs ys fs=some r→∀ w,(Op.eqFields (d+2) vs.toArray us.toArray fs).run P w = .ok r w
 | [],r,h,w=>by
   simp only[aCb,List.foldr_nil,aA] at h
   subst h
   rfl
 | fd::fs,r,h,w=>by
   unfold aCb at h
   rw[List.foldr_cons] at h
   unfold Op.eqFields
   cases hn:(fd.name == "_") with
   | true =>
     rw[hn] at h
     have hne:¬ (fd.name≠ "_"):=by simpa using hn
     rw[aD hne]
     exact rI hx hy h w
   | false =>
     rw[hn] at h
     simp only[Bool.not_false,cond_true] at h
     have hne:fd.name≠ "_":=by simpa using hn
     rw[aE hne]
     cases he:aBz P xs ys fd with
     | none=>rw[he] at h;cases h
     | some e =>
       rw[he] at h
       generalize hq:fs.foldr _ (some true)=q at h
       have ih:∀ {r:Bool},q=some r→∀ w,(Op.eqFields (d+2) vs.toArray us.toArray fs).run P w = .ok r w:=by
        intro r hr w
        subst hr
        exact rI hx hy (by unfold aCb;exact hq) w
       cases q with
       | none=>cases h
       | some q =>
         simp only[aA] at h
         subst h
         have hf:=aD9 (d:=d) hx hy he w
         simp only[Sem.run_bind] at hf ⊢
         cases h1:(part fd.type vs.toArray fd.offset).run P w with
         | halt a b=>rw[h1] at hf;cases hf
         | ok a w1 =>
           rw[h1] at hf
           simp only[Result.andThen_ok] at hf ⊢
           cases h2:(part fd.type us.toArray fd.offset).run P w1 with
           | halt a b=>rw[h2] at hf;cases hf
           | ok b w2 =>
             rw[h2] at hf
             simp only[Result.andThen_ok] at hf ⊢
             rw[hf]
             cases e with
             | true =>
               simp only[Result.andThen_ok,Bool.not_true,aR,if_false,Bool.true_and]
               exact ih rfl w
             | false=>rfl
theorem aCz {op:BinOp} {t:TypeId} {p q:Operand} {x y:D} {v u:Value} {r:Bool} (hop:op = .eql∨op = .neq)
 (hx:dR S β x v) (hy:dR S β y u) (h:aLL P t p q x y=some r) (w:World) :
 (do eqGuard op t p q v u;binOp op t v u:Sem Value).run P w = .ok (.bool (if op = .eql then r else !r)) w:=by
 have fin:∀ (hg:(eqGuard op t p q v u).run P w = .ok () w) (he:(Op.equal t v u).run P w = .ok r w)
  (hb1:binOp .eql t v u=(do pure (.bool (← Op.equal t v u)))) (hb2:binOp .neq t v u=(do pure (.bool (!(← Op.equal t v u))))),
  (do eqGuard op t p q v u;binOp op t v u:Sem Value).run P w = .ok (.bool (if op = .eql then r else !r)) w:=by
  intro hg he hb1 hb2
  rw[Sem.run_bind,hg,Result.andThen_ok]
  rcases hop with rfl | rfl
  ·rw[hb1,Sem.run_bind,he];rfl
  ·rw[hb2,Sem.run_bind,he];rfl
 unfold aLL at h
 split at h
 ·rename_i a b hu
  simp only[aA] at h
  obtain rfl:v = .bool a:=hx
  obtain rfl:u = .bool b:=hy
  exact fin (eE _ _ _ _ _ _ _ (by simp) (by simp)) (gP hu _ _ _ h.symm _) rfl rfl
 ·rename_i b tt c hu
  have h2:=bZ h
  obtain ⟨aN3,h⟩:=h2
  simp only[aA] at h
  obtain rfl:u = .nilIface:=hy
  simp only[dR,cV] at hx
  cases b with
  | true =>
    simp only[if_true] at hx
    obtain ⟨z,rfl,_⟩:=hx
    exact fin (eE _ _ _ _ _ _ _ (by simp) (by simp)) (gP hu _ _ _ (by simpa using h.symm) _) rfl rfl
  | false =>
    simp only[aR,if_false] at hx
    subst hx
    exact fin (nI _ _ _ _ _ (by simp [aN3])) (gP hu _ _ _ (by simpa using h.symm) _) rfl rfl
 ·rename_i b tt c hu
  have h2:=bZ h
  obtain ⟨aN3,h⟩:=h2
  simp only[aA] at h
  obtain rfl:v = .nilIface:=hx
  simp only[dR,cV] at hy
  cases b with
  | true =>
    simp only[if_true] at hy
    obtain ⟨z,rfl,_⟩:=hy
    exact fin (eE _ _ _ _ _ _ _ (by simp) (by simp)) (gP hu _ _ _ (by simpa using h.symm) _) rfl rfl
  | false =>
    simp only[aR,if_false] at hy
    subst hy
    exact fin (nI _ _ _ _ _ (by simp [aN3])) (gP hu _ _ _ (by simpa using h.symm) _) rfl rfl
 ·rename_i hu
  have h2:=bZ h
  obtain ⟨aN3,h⟩:=h2
  simp only[aA] at h
  obtain rfl:v = .nilIface:=hx
  obtain rfl:u = .nilIface:=hy
  exact fin (nI _ _ _ _ _ aN3) (gP hu _ _ _ h.symm _) rfl rfl
 ·rename_i b o i j hu
  simp only[aA] at h
  obtain rfl:u = .pointer none:=hy
  simp only[dR,cV] at hx
  cases b with
  | true =>
    simp only[if_true] at hx
    obtain ⟨k,_,_,_,rfl⟩:=hx
    exact fin (eE _ _ _ _ _ _ _ (by simp) (by simp)) (gP hu _ _ _ (by simpa using h.symm) _) rfl rfl
  | false =>
    simp only[aR,if_false] at hx
    subst hx
    exact fin (eE _ _ _ _ _ _ _ (by simp) (by simp)) (gP hu _ _ _ (by simpa using h.symm) _) rfl rfl
 ·rename_i b ww row j hu
  simp only[aA] at h
  obtain rfl:u = .pointer none:=hy
  simp only[dR,cV] at hx
  cases b with
  | true =>
    simp only[if_true] at hx
    obtain ⟨_,_,rfl,_⟩:=hx
    exact fin (eE _ _ _ _ _ _ _ (by simp) (by simp)) (gP hu _ _ _ (by simpa using h.symm) _) rfl rfl
  | false =>
    simp only[aR,if_false] at hx
    subst hx
    exact fin (eE _ _ _ _ _ _ _ (by simp) (by simp)) (gP hu _ _ _ (by simpa using h.symm) _) rfl rfl
 ·rename_i o i j hu
  simp only[aA] at h
  obtain rfl:u = .pointer none:=hy
  obtain ⟨k,_,_,_,rfl⟩:=hx
  exact fin (eE _ _ _ _ _ _ _ (by simp) (by simp)) (gP hu _ _ _ h.symm _) rfl rfl
 ·rename_i ww row j hu
  simp only[aA] at h
  obtain rfl:u = .pointer none:=hy
  obtain ⟨_,_,rfl,_⟩:=hx
  exact fin (eE _ _ _ _ _ _ _ (by simp) (by simp)) (gP hu _ _ _ h.symm _) rfl rfl
 ·rename_i hu
  simp only[aA] at h
  obtain rfl:v = .pointer none:=hx
  obtain rfl:u = .pointer none:=hy
  exact fin (eE _ _ _ _ _ _ _ (by simp) (by simp)) (gP hu _ _ _ h.symm _) rfl rfl
 ·rename_i hu
  simp only[aA] at h
  obtain rfl:v = .slice none 0 0:=hx
  obtain rfl:u = .slice none 0 0:=hy
  exact fin (eE _ _ _ _ _ _ _ (by simp) (by simp)) (gP hu _ _ _ h.symm _) rfl rfl
 ·rename_i fs l m hu
  cases hg:(P.stoodInHeld t || P.eqGuardType P.depth t) with
  | true=>rw[hg] at h;cases h
  | false =>
    rw[hg,cond_false] at h
    simp only[Bool.or_eq_false_iff] at hg
    obtain ⟨vs,rfl,hvs⟩:=hx
    obtain ⟨us,rfl,hus⟩:=hy
    have hfs:P.fieldsOf t=fs:=by unfold Program.fieldsOf;rw[hu]
    refine fin (run_eqGuard_agg w op t p q _ _ hg.2) ?_ rfl rfl
    show (Op.equalIn (9997+1+1+1) t _ _).run P w=_
    rw[run_equalIn_struct w _ t _ _ (by rw[hfs];exact hu) hg.1,hfs]
    exact rI hvs hus h w
 ·cases h
theorem aGy {op:BinOp} {t:TypeId} {p q:Operand} {x y:D} {v u:Value} {vs:List Bool} {d':D} {xs':List Obj}
 (hc:Core Γ S β w xs) (hx:dR S β x v) (hy:dR S β y u) (h:aJY P op t p q x y xs=some (vs,d',xs')) (hvs:∀ b∈vs,b=true) :
 eG P pb (do eqGuard op t p q v u;binOp op t v u) Γ S β w d' xs':=by
 unfold aJY at h
 split at h
 ·rename_i k a k' b
  obtain rfl:v = .int k a:=hx
  obtain rfl:u = .int k' b:=hy
  cases he:aJ4 op k a k' b with
  | none=>simp [he] at h
  | some r =>
    simp only[he,Option.elim] at h
    obtain ⟨rfl,rfl,rfl⟩:=c7 h
    obtain ⟨z,hz,hcz⟩:=aGX (P:=P) (t:=t) (vs:=r.1) (c:=r.2) he hvs
    refine eG.same z (fun w' j8=>?_) ?_ hc
    ·rw[Sem.run_bind,eE _ _ _ _ _ _ _ (by simp) (by simp),Result.andThen_ok,hz]
    ·rw[hcz];rfl
 ·rename_i a b
  obtain ⟨rfl,_⟩:v = .string ⟨a.toArray⟩∧a.length≤maxLen:=hx
  obtain ⟨rfl,_⟩:u = .string ⟨b.toArray⟩∧b.length≤maxLen:=hy
  cases he:aJ5 op a b with
  | none=>simp [he] at h
  | some r =>
    simp only[he,Option.elim] at h
    obtain ⟨rfl,rfl,rfl⟩:=c7 h
    obtain ⟨z,hz,hcz⟩:=aGY (P:=P) (S:=S) (β:=β) (t:=t) (vs:=r.1) (c:=r.2) he hvs
    refine eG.same z (fun w' j8=>?_) hcz hc
    rw[Sem.run_bind,eE _ _ _ _ _ _ _ (by simp) (by simp),Result.andThen_ok,hz]
 ·split at h
  ·rename_i heq
   cases he:aLL P t p q x y with
   | none=>simp [he] at h
   | some r =>
     simp only[he,Option.elim] at h
     obtain ⟨rfl,rfl,rfl⟩:=c7 h
     exact eG.same _ (fun w' _=>aCz (op:=.eql) (.inl rfl) hx hy he w') rfl hc
  ·cases he:aLL P t p q x y with
   | none=>simp [he] at h
   | some r =>
     simp only[he,Option.elim] at h
     obtain ⟨rfl,rfl,rfl⟩:=c7 h
     exact eG.same _ (fun w' _=>aCz (op:=.neq) (.inr rfl) hx hy he w') rfl hc
  ·cases h
theorem aIv {op:UnOp} {x:D} {v:Value} {vs:List Bool} {d':D} {xs':List Obj}
 (hc:Core Γ S β w xs) (hx:dR S β x v) (h:aSx op x xs=some (vs,d',xs')):eG P pb (Op.unary op v) Γ S β w d' xs':=by
 unfold aSx at h
 split at h
 ·obtain ⟨rfl,rfl,rfl⟩:=c7 h
  obtain rfl:=hx
  exact eG.same _ (fun _ _=>rfl) rfl hc
 ·obtain ⟨rfl,rfl,rfl⟩:=c7 h
  obtain rfl:=hx
  exact eG.same _ (fun _ _=>rfl) rfl hc
 ·cases h
theorem run_len_slice {t e:TypeId} (hu:P.underlying t=some (.slice e)) (ts:Array TypeId) (ty:TypeId) (h0:ts[0]? = some t) (a:Option Addr) (n c:Nat) (w:World) :
 (Builtin.len_ ts ty #[.slice a n c]).run P w = .ok (goInt n) w:=by
 unfold Builtin.len_
 simp only[h0,List.getElem?_toArray,List.getElem?_cons_zero]
 rw[Sem.run_bind,run_underlying hu,Result.andThen_ok]
 rfl
theorem run_len_string {t:TypeId} (hu:P.underlying t=some .string) (ts:Array TypeId) (ty:TypeId) (h0:ts[0]? = some t) (s:ByteArray) (w:World) :
 (Builtin.len_ ts ty #[.string s]).run P w = .ok (goInt s.size) w:=by
 unfold Builtin.len_
 simp only[h0,List.getElem?_toArray,List.getElem?_cons_zero]
 rw[Sem.run_bind,run_underlying hu,Result.andThen_ok]
 rfl
theorem aE3 {t:TypeId} {x:D} {v:Value} {vs:List Bool} {d':D} {xs':List Obj} (ts:Array TypeId) (ty:TypeId) (h0:ts[0]? = some t)
 (hc:Core Γ S β w xs) (hx:dR S β x v) (h:aE8 P t x xs=some (vs,d',xs')):eG P pb (Builtin.len_ ts ty #[v]) Γ S β w d' xs':=by
 unfold aE8 at h
 split at h
 ·rename_i e hu
  unfold aNz at h
  split at h
  ·obtain ⟨rfl,rfl,rfl⟩:=c7 h
   obtain rfl:=hx
   exact eG.same _ (fun _ _=>run_len_slice hu ts ty h0 _ _ _ _) rfl hc
  ·obtain ⟨rfl,rfl,rfl⟩:=c7 h
   obtain ⟨a,cap,rfl,_⟩:=hx
   exact eG.same _ (fun _ _=>run_len_slice hu ts ty h0 _ _ _ _) rfl hc
  ·rename_i o n
   obtain ⟨rfl,rfl,rfl⟩:=c7 h
   simp only[dR,cV] at hx
   cases hk:β o with
   | none=>simp [hk] at hx
   | some k =>
     rw[hk] at hx
     cases k with
     | none=>obtain ⟨rfl,rfl⟩:=hx;exact eG.same _ (fun _ _=>run_len_slice hu ts ty h0 _ _ _ _) rfl hc
     | some kb=>obtain ⟨_,_,rfl⟩:=hx;exact eG.same _ (fun _ _=>run_len_slice hu ts ty h0 _ _ _ _) rfl hc
  ·obtain ⟨rfl,rfl,rfl⟩:=c7 h
   obtain ⟨a,cap,rfl,_⟩:=hx
   exact eG.same _ (fun _ _=>run_len_slice hu ts ty h0 _ _ _ _) rfl hc
  ·cases h
 ·rename_i hu
  unfold aIx at h
  split at h
  ·obtain ⟨rfl,rfl,rfl⟩:=c7 h
   obtain ⟨rfl,_⟩:=hx
   exact eG.same _ (fun _ _=>run_len_string hu ts ty h0 _ _) rfl hc
  ·cases h
 ·cases h
end
end Go.Dl

namespace Go.Dl
variable [dO]
section
variable {p:Bool} {P:Program} {Γ:j6} {S:Mem} {β:dG} {w:World} {xs:List Obj}
def fT (S:Mem) (β:dG):List D→List Value→Prop
 | [],vs=>vs=[]
 | d::ds,vs=>∃ v r,vs=v::r∧dR S β d v∧fT S β ds r
theorem wH {isMax:Bool}:∀ {l:List D} {us:List Value} {x y:Int},fT S β l us→aLP isMax x l=some y→∀ w:World,
 (us.foldlM (if isMax then Builtin.max2 else Builtin.min2) (.int .i64 x)).run P w = .ok (.int .i64 y) w
 | [],us,x,y,hv,h,w=>by
   obtain rfl:us=[]:=hv
   simp only[aLP,aA] at h
   subst h
   rfl
 | d::l,us,x,y,hv,h,w=>by
   obtain ⟨v,r,rfl,hd,hr⟩:=hv
   have hq:∃ q,d = .c (.val (.int .i64 q))∧aLP isMax (bif isMax then (if q > x then q else x) else (if q<x then q else x)) l=some y:=by
    cases d with
    | c cc =>
      cases cc with
      | val vv =>
        cases vv with
        | int k q=>cases k <;> first | exact ⟨q,rfl,h⟩ | cases h
        | _=>cases h
      | _=>cases h
    | _=>cases h
   obtain ⟨q,rfl,h⟩:=hq
   obtain rfl:v = .int .i64 q:=hd
   rw[List.foldlM_cons,Sem.run_bind]
   cases isMax with
   | true =>
     simp only[if_true]
     rw[show (Builtin.max2 (.int .i64 x) (.int .i64 q)).run P w = .ok (.int .i64 (if q > x then q else x)) w from rfl,Result.andThen_ok]
     exact wH (isMax:=true) hr h w
   | false =>
     simp only[aR,if_false]
     rw[show (Builtin.min2 (.int .i64 x) (.int .i64 q)).run P w = .ok (.int .i64 (if q<x then q else x)) w from rfl,Result.andThen_ok]
     exact wH (isMax:=false) hr h w
theorem tB {isMax:Bool} {ds:List D} {us:List Value} {vs:List Bool} {d':D} {xs':List Obj} (ts:Array TypeId) (ty:TypeId)
 (hc:Core Γ S β w xs) (hx:fT S β ds us) (h:qE isMax ds xs=some (vs,d',xs')) :
 eG P p (if isMax then Builtin.max_ ts ty us.toArray else Builtin.min_ ts ty us.toArray) Γ S β w d' xs':=by
 unfold qE at h
 split at h
 ·rename_i x r
  obtain ⟨v,rr,rfl,hd,hr⟩:=hx
  obtain rfl:v = .int .i64 x:=hd
  cases hm:aLP isMax x r with
  | none=>simp [hm] at h
  | some y =>
    simp only[hm,Option.elim] at h
    obtain ⟨rfl,rfl,rfl⟩:=c7 h
    refine eG.same (.int .i64 y) (fun w' j8=>?_) rfl hc
    have:=wH (P:=P) hr hm w'
    cases isMax <;> simpa [Builtin.max_,Builtin.min_] using this
 ·cases h
theorem aA8 {src dst:TypeId} {x:D} {v:Value} {vs:List Bool} {d':D} {xs':List Obj}
 (hc:Core Γ S β w xs) (hx:dR S β x v) (h:uL P src dst x xs=some (vs,d',xs')):eG P p (convert src dst v) Γ S β w d' xs':=by
 unfold uL at h
 split at h
 ·rename_i k0 k k1 n h1 h2
  obtain ⟨rfl,rfl,rfl⟩:=c7 h
  obtain rfl:=hx
  refine eG.same _ (fun w' j8=>?_) rfl hc
  unfold convert
  rw[Sem.run_bind,run_underlying h1,Result.andThen_ok,Sem.run_bind,run_underlying h2,Result.andThen_ok]
  rfl
 ·rename_i l h1 h2
  obtain ⟨rfl,rfl,rfl⟩:=c7 h
  obtain ⟨rfl,hmx⟩:=hx
  refine eG.same _ (fun w' j8=>?_) ⟨rfl,hmx⟩ hc
  unfold convert
  rw[Sem.run_bind,run_underlying h1,Result.andThen_ok,Sem.run_bind,run_underlying h2,Result.andThen_ok]
  rfl
 ·cases h
def aJT:Value→Prop
 | .pointer (some _)=>True
 | .func (.func _) _ _=>True
 | _=>False
theorem aGx {x:D} {v:Value} {vs:List Bool} {d':D} {xs':List Obj}
 (hx:dR S β x v) (h:aJX x xs=some (vs,d',xs')) (hvs:∀ b∈vs,b=true):dR S β d' v∧xs'=xs∧aJT v:=by
 unfold aJX at h
 split at h
 ·obtain ⟨rfl,rfl,rfl⟩:=c7 h
  obtain ⟨k,h1,h2,h3,rfl⟩:=hx
  exact ⟨⟨k,h1,h2,h3,rfl⟩,rfl,trivial⟩
 ·obtain ⟨rfl,rfl,rfl⟩:=c7 h
  obtain ⟨b,off,rfl,hh⟩:=hx
  exact ⟨⟨b,off,rfl,hh⟩,rfl,trivial⟩
 ·rename_i b o i j
  obtain ⟨rfl,rfl,rfl⟩:=c7 h
  have hb:b=true:=hvs _ (by simp)
  simp only[dR,cV,hb,if_true] at hx
  obtain ⟨k,h1,h2,h3,rfl⟩:=hx
  exact ⟨⟨k,h1,h2,h3,rfl⟩,rfl,trivial⟩
 ·rename_i b ww r j
  obtain ⟨rfl,rfl,rfl⟩:=c7 h
  have hb:b=true:=hvs _ (by simp)
  simp only[dR,cV,hb,if_true] at hx
  obtain ⟨b',off,rfl,hh⟩:=hx
  exact ⟨⟨b',off,rfl,hh⟩,rfl,trivial⟩
 ·obtain ⟨rfl,rfl,rfl⟩:=c7 h
  obtain ⟨us,rfl,h2,h3⟩:=hx
  exact ⟨⟨us,rfl,h2,h3⟩,rfl,trivial⟩
 ·cases h
theorem rC.get:∀ {l:List D1} {us:List Value},rC S β l us→∀ (i:Nat) (d:D1),l[i]? = some d→∃ u,us[i]? = some u∧jT S β d u
 | [],_,_,i,d,hi=>by simp at hi
 | _::_,_,⟨v,r,h1,h2,h3⟩,i,d,hi=>by
   subst h1
   cases i with
   | zero=>simp at hi;subst hi;exact ⟨v,by simp,h2⟩
   | succ i=>simp at hi;obtain ⟨u,hu,hr⟩:=rC.get h3 i d hi;exact ⟨u,by simpa using hu,hr⟩
theorem jT.toD {d:D1} {v:Value} (h:jT S β d v):dR S β d.toD v:=by
 cases d <;> exact h
theorem aD1 {l:List D1} {v:Value} {i:Nat} {d:D1} (hc:Core Γ S β w xs) (hx:dR S β (.jW l) v) (h:l[i]? = some d) :
 eG P p (Instr.extract v i) Γ S β w d.toD xs:=by
 obtain ⟨us,rfl,hl⟩:=hx
 obtain ⟨u,hu,hr⟩:=rC.get hl i d h
 refine eG.same u (fun w' j8=>?_) hr.toD hc
 unfold Instr.extract
 have:us.toArray[i]? = some u:=by simpa using hu
 simp only[this]
 rfl
theorem aAA {st:St} {a:Act} (hv:∀ x,dR S β (st.lv x) (a.eval x)):∀ {l:List Operand} {cs:List C},aGL st l=some cs→eM S β cs (l.map a.eval)
 | [],cs,h=>by simp only[aGL,aA] at h;subst h;rfl
 | x::r,cs,h=>by
   unfold aGL at h
   split at h
   ·rename_i c l h1 h2
    simp only[aA] at h
    subst h
    refine ⟨_,_,rfl,?_,aAA hv h2⟩
    have:=hv x
    rw[h1] at this
    exact this
   ·cases h
theorem aE2 {fn:Fn} {cs:List C} {us:List Value} (h:eM S β cs us):cV S β (.func fn cs.length fun i=>cs.getD i .bot) (.func fn #[] us.toArray):=by
 refine ⟨us.toArray,rfl,by simp [h.length],fun i hi=>?_⟩
 obtain ⟨u,hu,hr⟩:=h.get i _ (aF hi)
 have e1:cs.getD i .bot=cs[i]:=by simp [List.getD,aF hi]
 have e2:us.toArray.getD i undef=u:=by
  have hlt:i<us.length:=by rw[h.length];exact hi
  rw[aF hlt] at hu
  simp only[aA] at hu
  simp [Array.getD,hlt,hu]
 show cV S β (cs.getD i .bot) _
 rw[e1,e2]
 exact hr
theorem u7 {t:TypeId} {c:C} {v:Value} (hu:P.concrete t=true)
 (hc:Core Γ S β w xs) (hx:dR S β (.c c) v):eG P p (Instr.makeInterface t v) Γ S β w (.c (.iface true t c)) xs:=by
 refine eG.same (.iface t v) (fun w' _=>run_makeInterface w' t v hu) ?_ hc
 show cV S β _ _
 simp only[cV,if_true]
 exact ⟨v,rfl,hx⟩
theorem xH (v:Value):cV S β (aEV v) v:=by
 unfold aEV
 split
 ·rename_i s
  cases hb:Nat.ble s.data.toList.length 65536 with
  | true =>
    have:=aX hb
    exact ⟨by simp,by simp only[maxLen];omega⟩
  | false=>rfl
 ·rfl
 ·rfl
theorem aE6 (v:Value):dR S β (cst v) v:=by
 unfold cst
 split
 ·rename_i cs
  refine ⟨cs.toList,by simp,eM.rD (by simp) fun i c hc=>?_⟩
  rw[bG] at hc
  cases hi:cs.toList[i]? with
  | none=>simp [hi] at hc
  | some u =>
    simp only[hi,Option.map_some,aA] at hc
    subst hc
    exact ⟨u,rfl,xH u⟩
 ·trivial
 ·exact xH _
end
end Go.Dl

namespace Go.Dl
variable [dO]
section
variable {P:Program} {Γ:j6} {S:Mem} {β:dG} {w:World} {xs:List Obj}
theorem s8:∀ {c:C} {β:dG} {v:Value},c.good=true→cV S β c v→v.oneCell'=true:=by
 intro c
 induction c with
 | bot=>intro _ _ h;cases h
 | val u=>intro _ _ h hv;obtain rfl:=hv;exact h
 | str l=>intro _ _ _ hv;obtain ⟨rfl,_⟩:=hv;rfl
 | nil=>intro _ _ _ hv;obtain rfl:=hv;rfl
 | tree w n get ih=>rintro _ _ _ ⟨a,cap,rfl,_⟩;rfl
 | own o n =>
   intro β _ _ hv
   simp only[cV] at hv
   cases hk:β o with
   | none=>simp [hk] at hv
   | some k =>
     rw[hk] at hv
     cases k with
     | none=>obtain ⟨_,rfl⟩:=hv;rfl
     | some kb=>obtain ⟨_,_,rfl⟩:=hv;rfl
 | ptr o i j=>rintro _ _ _ ⟨_,_,_,_,rfl⟩;rfl
 | self t b o =>
   rintro _ _ _ ⟨_,_,_,rfl⟩
   cases b <;> rfl
 | nP w row j ih=>rintro _ _ _ ⟨_,_,rfl,_⟩;rfl
 | map o=>rintro _ _ _ ⟨_,_,rfl⟩;rfl
 | tail o lo n=>rintro _ _ _ ⟨_,_,rfl,_⟩;rfl
 | opt b c ih =>
   intro _ _ h hv
   simp only[cV] at hv
   split at hv
   ·exact ih h hv
   ·subst hv;rfl
 | iface b t c ih =>
   intro _ _ _ hv
   simp only[cV] at hv
   split at hv
   ·obtain ⟨_,rfl,_⟩:=hv;rfl
   ·subst hv;rfl
 | func fn k cap ih=>rintro _ _ _ ⟨_,rfl,_⟩;rfl
 | cond b c ih=>intro _ _ h;cases h
theorem aAd {v:Value} (h:v.oneCell'=true):v.cells = #[v]:=by
 cases v <;> first | rfl | cases h
theorem aCr:∀ {l:List C} {us:List Value},l.all C.good=true→eM S β l us→∀ u∈us,u.oneCell'=true
 | [],_,_,h=>by simp [eM] at h;simp [h]
 | c::l,us,hg,⟨v,r,h1,h2,h3⟩=>by
   subst h1
   simp only[List.all_cons,aC] at hg
   intro u hu
   rcases aY.1 hu with rfl | hu
   ·exact s8 hg.1 h2
   ·exact aCr hg.2 h3 u hu
theorem p9 {d:D} {l:List C} {v:Value} (hd:dR S β d v) (h:d.cells=some l) (hg:l.all C.good=true) :
 eM S β l v.cells.toList∧∀ u∈v.cells.toList,u.oneCell'=true:=by
 cases d with
 | c x =>
   simp only[D.cells,aA] at h
   subst h
   have h1:v.oneCell'=true:=s8 (by simpa using hg) hd
   rw[aAd h1]
   exact ⟨⟨v,[],rfl,hd,rfl⟩,by simp [h1]⟩
 | agg l' =>
   simp only[D.cells,aA] at h
   subst h
   obtain ⟨us,rfl,hl⟩:=hd
   exact ⟨hl,aCr hg hl⟩
 | jW l'=>cases h
theorem lN:∀ {c:C} {β:dG} {v:Value},c.shut=true→cV S β c v→cV S pQ c v:=by
 intro c
 induction c with
 | val u=>intro _ _ _ hv;exact hv
 | str l=>intro _ _ _ hv;exact hv
 | nil=>intro _ _ _ hv;exact hv
 | tree w n get ih=>intro _ _ _ hv;exact hv
 | nP w row j ih=>intro _ _ _ hv;exact hv
 | opt b c ih =>
   intro _ _ h hv
   simp only[cV] at hv ⊢
   split at hv
   ·rename_i hb;rw[aE hb];exact ih h hv
   ·rename_i hb;rw[aD hb];exact hv
 | iface b t c ih =>
   intro _ _ h hv
   simp only[cV] at hv ⊢
   split at hv
   ·rename_i hb;rw[aE hb];obtain ⟨u,hu,hr⟩:=hv;exact ⟨u,hu,ih h hr⟩
   ·rename_i hb;rw[aD hb];exact hv
 | func fn k cap ih =>
   rintro _ _ h ⟨vs,h1,h2,h3⟩
   refine ⟨vs,h1,h2,fun i hi=>?_⟩
   simp only[C.shut,aN] at h
   exact ih i (h i (by simpa using hi)) (h3 i hi)
 | _=>intro _ _ h;cases h
theorem eM.append:∀ {l m:List C} {us vs:List Value},eM S β l us→eM S β m vs→eM S β (l++m) (us++vs)
 | [],_,_,_,h,k=>by obtain rfl:=h;exact k
 | _::_,_,_,_,⟨v,r,h1,h2,h3⟩,k=>by subst h1;exact ⟨v,r++_,rfl,h2,eM.append h3 k⟩
theorem eM.take {l:List C} {us:List Value} (h:eM S β l us) (n:Nat):eM S β (l.take n) (us.take n):=by
 have:=nT h 0 n
 simpa using this
theorem eM.drop:∀ {l:List C} {us:List Value},eM S β l us→∀ n,eM S β (l.drop n) (us.drop n)
 | l,us,h,0=>h
 | [],us,h,n+1=>by obtain rfl:=h;exact rfl
 | _::_,us,⟨v,r,h1,h2,h3⟩,n+1=>by subst h1;exact eM.drop h3 n
theorem aGu {l cs:List C} {us vs:List Value} (h:eM S β l us) (k:eM S β cs vs) (j:Nat) :
 eM S β (aEX l j cs) (us.take j++(vs++us.drop (j+vs.length))):=by
 unfold aEX
 rw[k.length]
 exact (h.take j).append (k.append (h.drop _))
theorem gM (β:dG) (o:Nat) (x:Option Bk):gG β o x o=some x:=by unfold gG;simp
theorem aIR (hc:Core Γ S β w xs) {l:List C} {us:List Value} (t:TypeId) (hl:eM S β l us) (h1:∀ u∈us,u.oneCell'=true) :
 ∃ β',kK β β'∧Core Γ S β' (w.alloc (.cells us.toArray t)) (xs++[.cells l]) ∧
   β' xs.length=some (some ⟨w.heap.size,t,l.length,1,1⟩):=by
 let k:Bk:=⟨w.heap.size,t,l.length,1,1⟩
 have hle:kK β (gG β xs.length (some k)):=kK.gG (hc.out _ (aM _))
 have:=hc.push (.cells us.toArray t) (.cells l) (some k) (w':=w.alloc (.cells us.toArray t)) (.inr ⟨⟨k,rfl,rfl⟩,rfl⟩)
  ⟨k,gM _ _ _,rfl,rfl,rfl,us,heap_alloc_new w _,eM.up (jL.refl _) hle hl,h1⟩
 exact ⟨_,this.2,this.1,gM _ _ _⟩
theorem aSW {l:List C} (hpos:0<l.length) {β':dG} {n:Nat} {t:TypeId} {b:Nat} (h:β' n=some (some ⟨b,t,l.length,1,1⟩)) :
 cV S β' (.ptr n 0 0) (.pointer (some ⟨b,0,none⟩)) :=
 ⟨_,h,Nat.zero_lt_one,hpos,by simp⟩
theorem aAz {t:TypeId} {x:D} {v:Value} {vs:List Bool} {d':D} {xs':List Obj}
 (hc:Core Γ S β w xs) (hx:dR S β x v) (h:aJ3 P t x xs=some (vs,d',xs')):pE P (Instr.box t v) Γ S β w d' xs':=by
 unfold aJ3 at h
 cases rB:x.cells with
 | none=>simp [rB] at h
 | some l =>
   simp only[rB] at h
   have h2:=bZ h
   clear h
   obtain ⟨hg,h⟩:=h2
   simp only[aC,aW] at hg
   obtain ⟨rfl,rfl,rfl⟩:=c7 h
   obtain ⟨hl,h1⟩:=p9 hx rB hg.1
   obtain ⟨β',hle,nM,hk⟩:=aIR (S:=S) hc t hl h1
   refine ⟨.pointer (some ⟨w.heap.size,0,none⟩),_,S,β',?_,aSW (S:=S) hg.2 hk,jL.refl _,hle,nM⟩
   simp [Instr.box,newVar,newRow]
theorem aDW {t:TypeId} {v:Value} {vs:List Bool} {d':D} {xs':List Obj}
 (hc:Core Γ S β w xs) (h:aFg P t xs=some (vs,d',xs')):pE P (Instr.alloc t true v) Γ S β w d' xs':=by
 unfold aFg at h
 cases hz:(P.info? t).bind (·.zero) with
 | none=>simp [hz] at h
 | some z =>
   simp only[hz] at h
   cases hi:P.info? t with
   | none=>simp [hi] at hz
   | some i =>
     simp only[hi,Option.bind_some] at hz
     obtain ⟨v',w',S',β',hr,rY⟩:=aAz (P:=P) hc (aE6 z) h
     refine ⟨v',w',S',β',?_,rY⟩
     rw[← hr]
     unfold Instr.alloc Instr.box
     have hzr:(zeroValue t).run P w = .ok z w:=by
      unfold zeroValue
      rw[Sem.run_bind,iO hi,Result.andThen_ok,hz]
      rfl
     rw[Sem.run_bind,hzr,Result.andThen_ok]
theorem aKc {cur:Array Value} {us:List Value} {a q:Nat} (hle:a+us.length≤cur.size) :
 (cur.toList.take a++us++cur.toList.drop (a+us.length)).toArray[q]? = if a≤q∧q<a+us.length then us[q - a]? else cur[q]?:=by
 rw[List.getElem?_toArray]
 have hlen:(cur.toList.take a).length=a:=by simp;omega
 rcases bE q a with h | h
 ·rw[aD (by omega),bJ,List.getElem?_append_left (by omega),List.getElem?_take,aE h]
  simp
 ·rcases bE q (a+us.length) with h2 | h2
  ·rw[aE ⟨h,h2⟩,bJ,List.getElem?_append_right (by omega),List.getElem?_append_left (by omega),hlen]
  ·rw[aD (by omega),List.getElem?_append_right (by simp;omega),List.getElem?_drop]
   have:a+us.length+(q - (cur.toList.take a++us).length)=q:=by
    rw[aG,hlen];omega
   rw[this]
   simp
theorem aDX {t:TypeId} {d x:D} {a v:Value} {xs':List Obj}
 (hc:Core Γ S β w xs) (hd:dR S β d a) (hx:dR S β x v) (h:aBs P t d x xs=some xs') :
 ∃ w',(Instr.storeAt t a v).run P w = .ok () w'∧Core Γ S β w' xs':=by
 unfold aBs at h
 cases rB:x.cells with
 | none=>simp [rB] at h
 | some l =>
   simp only[rB] at h
   have h2:=bZ h
   clear h
   obtain ⟨hg,h⟩:=h2
   simp only[aC] at hg
   obtain ⟨hsz,hg⟩:=hg
   obtain ⟨ti,hti,hts⟩:=lH hsz
   obtain ⟨hl,h1⟩:=p9 hx rB hg
   have hlen:v.cells.size=l.length:=by have:=hl.length;simpa using this
   split at h
   ·rename_i o i j
    obtain ⟨k,hk,hin,hjw,rfl⟩:=hd
    have hrun:∀ (cur:Array Value) (e:TypeId),w.heap[k.b]? = some (.cells cur e (0,0))→i * k.w+j+l.length≤cur.size →
     (Instr.storeAt t (.pointer (some ⟨k.b,i * k.w+j,none⟩)) v).run P w =
      .ok () (w.setRow k.b (cur.toList.take (i * k.w+j)++v.cells.toList++cur.toList.drop (i * k.w+j+v.cells.toList.length)).toArray):=by
     intro cur e hh hle
     unfold Instr.storeAt Instr.sureAddr
     simp only[pure_bind]
     unfold storeVar
     rw[Sem.run_bind,iF hti,Result.andThen_ok,aD (by rw[hlen,hts];simp)]
     have:=run_storeCells_at P k.b (i * k.w+j) e v.cells.toList 0 cur w hh (by simpa [hlen] using hle) h1
     simpa using this
    cases nN:xs[o]? with
    | none=>simp [nN] at h
    | some ob =>
      have ho:=hc.cC o ob nN
      cases ob with
      | dead=>simp [nN] at h
      | aA5 e bs=>simp [nN] at h
      | map z has get=>simp [nN] at h
      | cells cs =>
        simp only[nN] at h
        have h2:=bZ h
        clear h
        obtain ⟨hle,h⟩:=h2
        have hle:=aX hle
        simp only[aA] at h;subst h
        obtain ⟨k',hk',hw,hn,hcap,us,hh,hus,hu1⟩:=ho
        rw[hk] at hk';simp only[aA] at hk';subst hk'
        have hi0:i=0:=by omega
        subst hi0
        have hcs:=hus.length
        refine ⟨_,hrun us.toArray k.e hh (by simp;omega),hc.write o (.cells cs) _ k nN rfl hk rfl rfl rfl (by simp) (fun b hb=>setRow_other w k.b b _ hb) ?_⟩
        refine ⟨k,hk,?_,hn,hcap,us.take j++(v.cells.toList++us.drop (j+v.cells.toList.length)),?_,aGu hus hl j,?_⟩
        ·rw[hw];unfold aEX;simp;omega
        ·rw[setRow_heap w k.b us.toArray _ k.e (0,0) hh]
         simp [bJ]
        ·intro u hu
         rcases aZ.1 hu with hu | hu
         ·exact hu1 u (List.mem_of_mem_take hu)
         ·rcases aZ.1 hu with hu | hu
          ·exact h1 u hu
          ·exact hu1 u (List.mem_of_mem_drop hu)
      | row e wd n get =>
        simp only[nN] at h
        have h2:=bZ h
        clear h
        obtain ⟨hle,h⟩:=h2
        simp only[aC] at hle
        obtain ⟨hle,jA⟩:=hle
        have hle:=aX hle
        simp only[aA] at h;subst h
        rcases ho with ⟨hn,_⟩ | ⟨k',hk',he,hw,hn,hcap,uJ,cur,hh,hcs,hcell⟩
        ·rw[hk] at hn;cases hn
        rw[hk] at hk';simp only[aA] at hk';subst hk'
        subst hw
        have hbig:i * k.w+k.w≤cur.size:=by
         rw[hcs]
         have:(i+1) * k.w≤k.cap * k.w:=aV _ (by omega)
         rw[Nat.add_mul] at this
         omega
        have hvl:v.cells.toList.length=l.length:=hl.length
        refine ⟨_,hrun cur e hh (by omega),hc.write o (.row e k.w n get) _ k nN rfl hk rfl rfl rfl (by simp) (fun b hb=>setRow_other w k.b b _ hb) ?_⟩
        refine .inr ⟨k,hk,he,rfl,hn,hcap,uJ,_,setRow_heap w k.b cur _ e (0,0) hh,?_,fun i' j' hi' hj'=>?_⟩
        ·simp only[List.size_toArray,aG,aK,bM,Array.length_toList]
         omega
        ·rw[aKc (by omega),hvl]
         unfold setRow
         by_cases hii:i'=i
         ·subst hii
          by_cases hj:j≤j'∧j'<j+l.length
          ·rw[aE (by omega)]
           have:(Nat.beq i' i' && (Nat.ble j j' && Nat.blt j' (j+l.length)))=true:=by
            simp [Nat.beq_eq,Nat.ble_eq,aW,hj.1,hj.2]
           rw[this,cond_true]
           have hidx:i' * k.w+j' - (i' * k.w+j)=j' - j:=by omega
           rw[hidx]
           have hlt:j' - j<l.length:=by omega
           obtain ⟨u,hu,hr⟩:=hl.get (j' - j) _ (aF hlt)
           refine ⟨u,hu,h1 u (bL hu),?_⟩
           have hgd:l.getD (j' - j) .bot=l[j' - j]:=by simp [List.getD,aF hlt]
           rw[hgd]
           exact lN (by rw[aN] at jA;exact jA _ (List.getElem_mem hlt)) hr
          ·rw[aD (by omega)]
           have:(Nat.beq i' i' && (Nat.ble j j' && Nat.blt j' (j+l.length)))=false:=by
            cases hb1:Nat.ble j j' with
            | false=>simp
            | true =>
              cases hb2:Nat.blt j' (j+l.length) with
              | false=>simp
              | true =>
                have q1:=aX hb1
                have q2:j'<j+l.length:=by simpa [aW] using hb2
                exact absurd ⟨q1,q2⟩ hj
           rw[this,cond_false]
           exact hcell i' j' hi' hj'
         ·have aWX:¬ (i * k.w+j≤i' * k.w+j'∧i' * k.w+j'<i * k.w+j+l.length):=by
           intro a5C
           rcases Nat.lt_or_gt_of_ne hii with hq | hq
           ·have:(i'+1) * k.w≤i * k.w:=aV _ hq
            rw[Nat.add_mul] at this;omega
           ·have:(i+1) * k.w≤i' * k.w:=aV _ hq
            rw[Nat.add_mul] at this;omega
          rw[aD aWX]
          have:Nat.beq i' i=false:=by
           cases hb:Nat.beq i' i with
           | false=>rfl
           | true=>exact absurd (aH hb) hii
          rw[this,Bool.false_and,cond_false]
          exact hcell i' j' hi' hj'
   ·cases h
end
end Go.Dl

namespace Go.Dl
variable [dO]
section
variable {p:Bool} {P:Program} {Γ:j6} {S:Mem} {β:dG} {w:World} {xs:List Obj}
theorem aLG (L:List Value) (p:Nat) (x:Value) (l:List Value) (h:p<L.length) :
 (L.set p x).take (p+1)++(l++(L.set p x).drop (p+1+l.length))=L.take p++((x::l)++L.drop (p+(l.length+1))):=by
 have e1:(L.set p x).take (p+1)=L.take p++[x]:=by
  rw[List.take_add_one,List.take_set_of_le (aM _)]
  simp [h]
 have e2:(L.set p x).drop (p+1+l.length)=L.drop (p+(l.length+1)):=by
  rw[List.drop_set_of_lt (by omega)]
  congr 1
  omega
 rw[e1,e2]
 simp
theorem aEu:∀ (l:List Value) (k off:Nat) (cs:Array Value),off+k+l.length≤cs.size →
 (l.zipIdx k).foldl (fun cs (p:Value × Nat)=>cs.setIfInBounds (off+p.2) p.1) cs=(cs.toList.take (off+k)++(l++cs.toList.drop (off+k+l.length))).toArray
 | [],k,off,cs,_=>by simp
 | x::l,k,off,cs,h=>by
   simp only[List.length_cons] at h
   rw[List.zipIdx_cons,List.foldl_cons,aEu l (k+1) off _ (by simp;omega)]
   apply Array.ext'
   simp only[Array.toList_setIfInBounds,List.length_cons]
   have:=aLG cs.toList (off+k) x l (by simp;omega)
   rw[← this]
   rfl
theorem pR {st:St} {a:Act} (hv:∀ x,dR S β (st.lv x) (a.eval x)) {place:Nat→Option (Nat × Nat)} :
 ∀ {parts:List (Nat × Operand)} {cells:List C} {us:List Value} {l:List C},eM S β cells us→lM P place st cells parts=some l →
   ∃ us':List Value,Instr.fill place us.toArray (parts.map fun p=>(p.1,a.eval p.2))=some us'.toArray∧eM S β l us'
 | [],cells,us,l,hc,h=>by
   simp only[lM,aA] at h
   subst h
   exact ⟨us,rfl,hc⟩
 | (i,x)::rest,cells,us,l,hc,h=>by
   unfold lM at h
   cases hp:place i with
   | none=>simp [hp] at h
   | some pl =>
     obtain ⟨off,size⟩:=pl
     cases rB:(st.lv x).cells with
     | none=>simp [hp,rB] at h
     | some m =>
       simp only[hp,rB] at h
       have h2:=bZ h
       clear h
       obtain ⟨hg,h⟩:=h2
       simp only[aC] at hg
       obtain ⟨hsz,hle,vK⟩:=hg
       have hsz:=aH hsz
       have hle:=aX hle
       obtain ⟨hm,_⟩:=p9 (hv x) rB vK
       have uJ:(a.eval x).cells.toList.length=m.length:=hm.length
       have hms:(a.eval x).cells.size=m.length:=by simpa using uJ
       have hcs:=hc.length
       obtain ⟨us',hf,hr⟩:=pR hv (aGu hc hm off) h
       refine ⟨us',?_,hr⟩
       rw[List.map_cons]
       unfold Instr.fill
       simp only[hp]
       rw[aD (by simp [hms,hsz];omega)]
       rw[← hf]
       congr 1
       have:=aEu (a.eval x).cells.toList 0 off us.toArray (by simp [hms];omega)
       rw[← Array.foldl_toList,Array.toList_zipIdx]
       simpa using this
theorem o9 {t:TypeId} {z:List C} (h:xG P t=some z):∃ i v,P.info? t=some i∧i.zero=some v∧z=v.cells.toList.map aEV∧eM S β z v.cells.toList:=by
 unfold xG at h
 cases hi:P.info? t with
 | none=>simp [hi] at h
 | some i =>
   cases hz:i.zero with
   | none=>simp [hi,hz] at h
   | some v =>
     simp only[hi,hz,Option.bind_some,Option.map_some,aA] at h
     refine ⟨i,v,rfl,hz,h.symm,?_⟩
     subst h
     refine eM.rD (by simp) fun q c hc=>?_
     rw[bG] at hc
     cases hq:v.cells.toList[q]? with
     | none=>simp [hq] at hc
     | some u =>
       simp only[hq,Option.map_some,aA] at hc
       subst hc
       exact ⟨u,rfl,xH u⟩
theorem s6 {t:TypeId} {i:TypeInfo} {v:Value} (hi:P.info? t=some i) (hz:i.zero=some v) (w:World):(zeroValue t).run P w = .ok v w:=by
 unfold zeroValue
 rw[Sem.run_bind,iO hi,Result.andThen_ok,hz]
 rfl
theorem aDU {st:St} {a:Act} {t:TypeId} {parts:Array (Nat × Operand)} {vs:List Bool} {d':D} {xs':List Obj}
 (hv:∀ x,dR S β (st.lv x) (a.eval x)) (hc:Core Γ S β w st.cC) (h:aBq P t parts.toList st=some (vs,d',xs')) :
 eG P p (Instr.build t (parts.map fun (i,x)=>(i,a.eval x))) Γ S β w d' xs':=by
 unfold aBq at h
 cases hu:P.underlying t with
 | none=>simp [hu] at h
 | some td =>
   cases td with
   | struct fs =>
     simp only[hu] at h
     cases hz:xG P t with
     | none=>simp [hz] at h
     | some z =>
       simp only[hz] at h
       cases hp:fs.toList.mapM (fun f=>(P.info? f.type).map fun i=>(f.offset,i.size)) with
       | none=>simp [hp] at h
       | some places =>
         simp only[hp] at h
         cases he:lM P (fun i=>places[i]?) st z parts.toList with
         | none=>simp [he] at h
         | some l =>
           simp only[he] at h
           obtain ⟨rfl,rfl,rfl⟩:=c7 h
           obtain ⟨i,v,hi,hzi,_,hzr⟩:=o9 (S:=S) (β:=β) hz
           obtain ⟨us',hf,hr⟩:=pR hv hzr he
           refine eG.same (.agg us'.toArray) (fun w' j8=>?_) ⟨us',rfl,hr⟩ hc
           have hf':Instr.fill (fun x=>places[x]?) v.cells (List.map (fun x=>(x.fst,a.eval x.snd)) parts.toList)=some us'.toArray:=by
            simpa using hf
           simp [Instr.build,run_underlying hu,s6 hi hzi,Array.mapM_eq_mapM_toList,run_places w' _ _ hp,hf']
   | _=>simp [hu] at h
theorem aGv (hc:Core Γ S β w xs) {e:TypeId} {wd n cap:Nat} {get:Nat→Nat→C} {cur:Array Value} (hcap:n≤cap) (uJ:cap≤maxLen) (hsz:cur.size=cap * wd)
 (hcell:∀ i j,i<n→j<wd→∃ u,cur[i * wd+j]? = some u∧u.oneCell'=true∧cV S pQ (get i j) u) :
 ∃ β',kK β β'∧Core Γ S β' (w.alloc (.cells cur e)) (xs++[.row e wd n get])∧β' xs.length=some (some ⟨w.heap.size,e,wd,n,cap⟩):=by
 let k:Bk:=⟨w.heap.size,e,wd,n,cap⟩
 have hle:kK β (gG β xs.length (some k)):=kK.gG (hc.out _ (aM _))
 have:=hc.push (.cells cur e) (.row e wd n get) (some k) (w':=w.alloc (.cells cur e)) (.inr ⟨⟨k,rfl,rfl⟩,rfl⟩)
  (.inr ⟨k,gM _ _ _,rfl,rfl,rfl,hcap,uJ,cur,heap_alloc_new w _,hsz,hcell⟩)
 exact ⟨_,this.2,this.1,gM _ _ _⟩
theorem aJQ {β':dG} {o n m:Nat} {k:Bk} (h:β' o=some (some k)) (h1:m≤k.n) (h2:m≤k.cap):cV S β' (.own o m) (.slice (some ⟨k.b,0,none⟩) m k.cap):=by
 simp only[cV,h]
 exact ⟨h1,h2,trivial⟩
theorem aEv:∀ (wd n:Nat) (l:List C) (i j:Nat),i<n→j<wd→(xE (chunk wd n l)) i j=l.getD (i * wd+j) .bot
 | wd,0,l,i,j,hi,_=>by omega
 | wd,n+1,l,0,j,_,hj=>by
   simp only[xE,chunk,List.getD_cons_zero,Nat.zero_mul,Nat.zero_add]
   simp [List.getD,List.getElem?_take,hj]
 | wd,n+1,l,i+1,j,hi,hj=>by
   have:=aEv wd n (l.drop wd) i j (by omega) hj
   simp only[xE,chunk] at this ⊢
   rw[List.getD_cons_succ,this]
   simp only[List.getD,List.getElem?_drop]
   congr 2
   rw[Nat.add_mul]
   omega
theorem aEw:∀ {c:C},c.shut=true→c.good=true:=by
 intro c
 induction c with
 | opt b c ih=>intro h;exact ih h
 | val u=>intro h;exact h
 | _=>intro h;first | rfl | cases h
theorem s7 {st:St} {place:Nat→Option (Nat × Nat)}:∀ {parts:List (Nat × Operand)} {cells l:List C},lM P place st cells parts=some l→l.length=cells.length
 | [],cells,l,h=>by simp only[lM,aA] at h;subst h;rfl
 | (i,x)::rest,cells,l,h=>by
   unfold lM at h
   cases hp:place i with
   | none=>simp [hp] at h
   | some pl =>
     obtain ⟨off,size⟩:=pl
     cases rB:(st.lv x).cells with
     | none=>simp [hp,rB] at h
     | some m =>
       simp only[hp,rB] at h
       have h2:=bZ h
       clear h
       obtain ⟨hg,h⟩:=h2
       simp only[aC] at hg
       have hle:=aX hg.2.1
       rw[s7 h]
       unfold aEX
       simp
       omega
theorem oB {st:St} {a:Act} {t:TypeId} {len:Nat} {parts:Array (Nat × Operand)} {vs:List Bool} {d':D} {xs':List Obj}
 (hv:∀ x,dR S β (st.lv x) (a.eval x)) (hc:Core Γ S β w st.cC) (h:nQ P t len parts.toList st=some (vs,d',xs')) :
 pE P (Instr.buildSlice t len (parts.map fun (i,x)=>(i,a.eval x))) Γ S β w d' xs':=by
 unfold nQ at h
 cases hu:P.underlying t with
 | none=>simp [hu] at h
 | some td =>
   cases td with
   | slice e =>
     simp only[hu] at h
     cases hi:P.info? e with
     | none=>simp [hi] at h
     | some ei =>
       cases hz:xG P e with
       | none=>simp [hi,hz] at h
       | some z =>
         simp only[hi,hz] at h
         have h2:=bZ h
         clear h
         obtain ⟨hg,h⟩:=h2
         simp only[aC,aW] at hg
         obtain ⟨hzl,⟨hpos,hlen⟩,hsmall⟩:=hg
         have hzl:=aH hzl
         have hsmall:=aX hsmall
         cases he:lM P (fun k=>some (k * ei.size,ei.size)) st ((List.range (len * ei.size)).map fun q=>z.getD (q % ei.size) .bot) parts.toList with
         | none=>rw[he] at h;cases h
         | some l =>
           rw[he] at h
           dsimp only at h
           have h2:=bZ h
           clear h
           obtain ⟨jA,h⟩:=h2
           obtain ⟨rfl,rfl,rfl⟩:=c7 h
           obtain ⟨i',v,hi',hzi,hzv,hzr⟩:=o9 (S:=S) (β:=β) hz
           rw[hi] at hi';simp only[aA] at hi';subst hi'
           have hvs:v.cells.size=ei.size:=by have:=hzr.length;simp at this;omega
           have hbase:eM S β ((List.range (len * ei.size)).map fun q=>z.getD (q % ei.size) .bot) ((List.range (len * ei.size)).map fun q=>v.cells[q % v.cells.size]!):=by
            refine eM.rD (by simp) fun q c hcq=>?_
            rw[bG] at hcq ⊢
            rcases bE q (len * ei.size) with hq | hq
            ·rw[List.getElem?_range hq] at hcq ⊢
             simp only[Option.map_some,aA] at hcq ⊢
             subst hcq
             have hm:q % ei.size<z.length:=by rw[hzl];exact Nat.mod_lt _ hpos
             obtain ⟨u,hu',hr⟩:=hzr.get (q % ei.size) _ (aF hm)
             refine ⟨_,rfl,?_⟩
             have e1:z.getD (q % ei.size) .bot=z[q % ei.size]:=by simp [List.getD,aF hm]
             have e2:v.cells[q % v.cells.size]! = u:=by
              rw[hvs]
              have hlt:q % ei.size<v.cells.size:=by rw[hvs];exact Nat.mod_lt _ hpos
              rw[getElem!_pos v.cells _ hlt]
              simpa [aF,hlt] using hu'
             rw[e1,e2];exact hr
            ·rw[bB (by simpa using hq)] at hcq
             simp at hcq
           obtain ⟨us',hf,hr⟩:=pR hv hbase he
           have aWw:eM S pQ l us':=by
            refine eM.rD hr.length fun q c hcq=>?_
            obtain ⟨u,hu',hru⟩:=hr.get q c hcq
            exact ⟨u,hu',lN (by rw[aN] at jA;exact jA _ (bL hcq)) hru⟩
           have hus:us'.length=len * ei.size:=by
            have:=hr.length
            have h3:l.length=len * ei.size:=by
             have q:=s7 he
             simpa using q
            omega
           have uJ:len≤maxLen:=by
            have:len * 1≤len * ei.size:=Nat.mul_le_mul_left _ hpos
            simp only[maxLen];omega
           obtain ⟨β',hle,nM,hk⟩:=aGv (S:=S) (β:=β) (e:=e) (wd:=ei.size) (n:=len) (cap:=len) (get:=xE (chunk ei.size len l)) (cur:=us'.toArray) hc (aM _) uJ (by simpa using hus)
            (fun i j hi hj=>by
             have hlt:i * ei.size+j<l.length:=by
              rw[← hr.length,hus]
              have:(i+1) * ei.size≤len * ei.size:=aV _ hi
              rw[Nat.add_mul] at this;omega
             obtain ⟨u,hu',hru⟩:=aWw.get _ _ (aF hlt)
             refine ⟨u,by simpa using hu',s8 (aEw (by rw[aN] at jA;exact jA _ (List.getElem_mem hlt))) hru,?_⟩
             rw[aEv ei.size len l i j hi hj]
             simpa [List.getD,aF hlt] using hru)
           refine ⟨.slice (some ⟨w.heap.size,0,none⟩) len len,_,S,β',?_,aJQ (S:=S) (n:=len) hk (aM _) (aM _),jL.refl _,hle,nM⟩
           refine run_buildSlice w t e len _ us'.toArray ei v hu hi hzi (by simp;omega) ?_ ?_
           ·have:0<len * ei.size:=Nat.mul_pos hlen hpos
            omega
           ·rw[← hf]
            congr 1
            ·apply Array.ext'
             simp
            ·simp
   | _=>simp [hu] at h
end
end Go.Dl

namespace Go.Dl
variable [dO]
section
variable {P:Program} {Γ:j6} {S:Mem} {β:dG} {w:World} {xs:List Obj}
theorem wrap_i64 {n:Int} (h0:0≤n) (h1:n≤140737488355328):IntKind.i64.wrap n=n:=by
 have hm:n % (2 ^ 64:Int)=n:=Int.emod_eq_of_lt h0 (by omega)
 simp only[IntKind.wrap,IntKind.bits,IntKind.signed,hm]
 rw[aD]
 simp only[Bool.true_and,aB,Int.not_le]
 omega
theorem rX {t:TypeId} {l c:D} {vl vc:Value} {vs:List Bool} {d':D} {xs':List Obj}
 (hc:Core Γ S β w xs) (hl:dR S β l vl) (hcap:dR S β c vc) (h:pF P t l c xs=some (vs,d',xs')) (hvs:∀ b∈vs,b=true) :
 ∃ v w' S' β',(Instr.makeSlice t vl vc).run P w = .ok v w'∧dR S' β' d' v∧jL S S'∧kK β β'∧Core Γ S' β' w' xs'∧Up w w':=by
 unfold pF at h
 split at h
 ·rename_i e l c hu
  obtain rfl:vl = .int .i64 l:=hl
  obtain rfl:vc = .int .i64 c:=hcap
  cases hi:P.info? e with
  | none=>simp [hi] at h
  | some ei =>
    cases hz:xG P e with
    | none=>simp [hi,hz] at h
    | some z =>
      simp only[hi,hz] at h
      have h2:=bZ h
      clear h
      obtain ⟨hg,h⟩:=h2
      simp only[aC,aW] at hg
      obtain ⟨hzl,⟨hpos,hby⟩,jA⟩:=hg
      have hzl:=aH hzl
      obtain ⟨rfl,rfl,rfl⟩:=c7 h
      have hb1:0≤l∧l≤c:=by have:=hvs (decide (0≤l) && decide (l≤c)) (by simp);simpa using this
      have hb2:c.toNat * ei.bytes≤140737488355328:=by have:=hvs (room (c.toNat * ei.bytes)) (by simp);simpa [room] using this
      have hcs:c.toNat≤140737488355328:=aS (Nat.le_mul_of_pos_right _ hby) hb2
      obtain ⟨i',v,hi',hzi,hzv,hzr⟩:=o9 (S:=S) (β:=pQ) hz
      rw[hi] at hi';simp only[aA] at hi';subst hi'
      have a4W:v.cells.size=ei.size:=by have:=hzr.length;simp at this;omega
      have hwl:IntKind.i64.wrap l=l:=wrap_i64 hb1.1 (by omega)
      have hwc:IntKind.i64.wrap c=c:=wrap_i64 (by omega) (by omega)
      have hbig:¬ ((ei.bytes:Int) * c > 2 ^ 48):=by
       have:(ei.bytes:Int) * c=((c.toNat * ei.bytes:Nat):Int):=by
        rw[Int.natCast_mul,Int.toNat_of_nonneg (by omega),Int.mul_comm]
       rw[this];omega
      let cur:Array Value:=(Array.range (c.toNat * ei.size)).map (fun q=>(if c.toNat * ei.size=0 then #[] else v.cells)[q % (if c.toNat * ei.size=0 then #[] else v.cells:Array Value).size]!)
      have a4Y:cur.size=c.toNat * ei.size:=by simp [cur]
      have vK:∀ q,q<ei.size→∃ u,v.cells[q]? = some u∧u.oneCell'=true∧cV S pQ (z.getD q .bot) u:=by
       intro q hq
       have hlt:q<z.length:=by omega
       obtain ⟨u,hu',hr⟩:=hzr.get q _ (aF hlt)
       have hsh:(z[q]).shut=true:=by rw[aN] at jA;exact jA _ (List.getElem_mem hlt)
       refine ⟨u,by simpa using hu',s8 (aEw hsh) hr,?_⟩
       simpa [List.getD,aF hlt] using lN hsh hr
      obtain ⟨β',hle,nM,hk⟩:=aGv (S:=S) (β:=β) (e:=e) (wd:=ei.size) (n:=c.toNat) (cap:=c.toNat) (get:=fun _ j=>z.getD j .bot) (cur:=cur) hc (aM _)
       (by simp only[maxLen];omega) a4Y
       (fun i j hi hj=>by
        have aZY:c.toNat * ei.size≠0:=by
         have:0<c.toNat * ei.size:=Nat.mul_pos (by omega) hpos
         omega
        have hlt:i * ei.size+j<c.toNat * ei.size:=by
         have:(i+1) * ei.size≤c.toNat * ei.size:=aV _ hi
         rw[Nat.add_mul] at this;omega
        obtain ⟨u,hu',h1,hr⟩:=vK j hj
        refine ⟨u,?_,h1,hr⟩
        have hm:(i * ei.size+j) % ei.size=j:=by
         rw[Nat.mul_comm,Nat.mul_add_mod,Nat.mod_eq_of_lt hj]
        have aZZ:j<v.cells.size:=by omega
        have hvj:v.cells[j]! = u:=by
         rw[getElem!_pos v.cells j aZZ]
         simpa [aZZ] using hu'
        simp only[cur,aD aZY,a4W,Array.getElem?_map]
        rw[Array.getElem?_range,aE hlt]
        simp only[Option.map_some,hm,hvj])
      refine ⟨.slice (some ⟨w.heap.size,0,none⟩) l.toNat c.toNat,_,S,β',?_,aJQ (S:=S) (n:=c.toNat) hk (by show l.toNat≤c.toNat;omega) (by show l.toNat≤c.toNat;omega),jL.refl _,hle,nM,(Go.RowKit.Below.refl _ _).alloc (aM _) _⟩
      unfold Instr.makeSlice
      rw[Sem.run_bind,run_underlying hu,Result.andThen_ok]
      simp only[asInt,asIntOf,pure_bind]
      rw[Sem.run_bind,iO hi,Result.andThen_ok]
      simp only[hwl,hwc]
      rw[aD]
      ·rw[Sem.run_bind,run_askRoom,Result.andThen_ok,Sem.run_bind,iF hi,Result.andThen_ok]
       by_cases hz0:c.toNat * ei.size=0
       ·rw[aE hz0]
        simp [newRow,cur,hz0]
       ·rw[aD hz0]
        simp [s6 hi hzi,newRow,cur,hz0]
      ·simp only[gt_iff_lt,aL,aB,not_or,Int.not_lt]
       refine ⟨⟨⟨by omega,by omega⟩,by omega⟩,by omega⟩
 ·cases h
theorem xI {t:TypeId} {l c:D} {vl vc:Value} {vs:List Bool} {d':D} {xs':List Obj}
 (hc:Core Γ S β w xs) (hl:dR S β l vl) (hcap:dR S β c vc) (h:pF P t l c xs=some (vs,d',xs')) (hvs:∀ b∈vs,b=true) :
 pE P (Instr.makeSlice t vl vc) Γ S β w d' xs':=by
 obtain ⟨v,w',S',β',h1,h2,h3,h4,h5,_⟩:=rX hc hl hcap h hvs
 exact ⟨v,w',S',β',h1,h2,h3,h4,h5⟩
structure Src (P:Program) (S:Mem) (w:World) (size m:Nat) (g:Nat→Nat→C) (x:Value) (news:List Value):Prop where
 len:∀ w',(Builtin.lenOf x).run P w' = .ok m w'
 first:∀ w',w'.heap=w.heap→(Builtin.firstCells size m x).run P w' = .ok news.toArray w'
 length:news.length=m * size
 one:∀ u∈news,u.oneCell'=true
 cell:∀ i j,i<m→j<size→∃ u,news[i * size+j]? = some u∧cV S pQ (g i j) u
theorem zQ {t t' ty e:TypeId} {td:TypeDesc} {i:TypeInfo} (ht:P.underlying t=some (.slice e)) (ht':P.underlying t'=some td) (htd:(∃ u,td = .slice u)∨td = .string)
 (hi:P.info? e=some i) {x:Value} {m:Nat} {g:Nat→Nat→C} {news:List Value} (hx:Src P S w i.size m g x news)
 (ts:Array TypeId) (h0:ts[0]? = some t) (h1:ts[1]? = some t') (b sLen sCap:Nat) (cur:Array Value) (hg:w.heap[b]? = some (.cells cur e (0,0)))
 (hroom:sLen+m≤sCap) (hfit:sLen * i.size+news.length≤cur.size) :
 (Builtin.append_ ts ty #[.slice (some ⟨b,0,none⟩) sLen sCap,x]).run P w =
  .ok (.slice (some ⟨b,0,none⟩) (sLen+m) sCap) (w.setRow b (cur.toList.take (sLen * i.size)++news++cur.toList.drop (sLen * i.size+news.length)).toArray):=by
 have hst:=run_storeCells_at P b (sLen * i.size) e news 0 cur w hg (by simpa using hfit) hx.one
 simp only[Nat.add_zero] at hst
 rcases htd with ⟨u,rfl⟩ | rfl <;>
 simp [Builtin.append_,h0,h1,run_underlying ht,run_underlying ht',sizeOf,typeInfo,hi,hx.len,hroom,hx.first w rfl,Addr.add_lit,hst]
theorem zR {t t' ty e:TypeId} {td:TypeDesc} {i:TypeInfo} (ht:P.underlying t=some (.slice e)) (ht':P.underlying t'=some td) (htd:(∃ u,td = .slice u)∨td = .string)
 (hi:P.info? e=some i) {x:Value} {g:Nat→Nat→C} {news:List Value} (hx:Src P S w i.size 0 g x news)
 (ts:Array TypeId) (h0:ts[0]? = some t) (h1:ts[1]? = some t') :
 (Builtin.append_ ts ty #[.slice none 0 0,x]).run P w = .ok (.slice none 0 0) w:=by
 rcases htd with ⟨u,rfl⟩ | rfl <;>
 simp [Builtin.append_,h0,h1,run_underlying ht,run_underlying ht',sizeOf,typeInfo,hi,hx.len,hx.first w rfl]
theorem qA {t t' ty e:TypeId} {td:TypeDesc} {i:TypeInfo} {z:Value} (ht:P.underlying t=some (.slice e)) (ht':P.underlying t'=some td) (htd:(∃ u,td = .slice u)∨td = .string)
 (hi:P.info? e=some i) (hz:i.zero=some z) {x:Value} {m:Nat} {g:Nat→Nat→C} {news:List Value} (hx:Src P S w i.size m g x news)
 (ts:Array TypeId) (h0:ts[0]? = some t) (h1:ts[1]? = some t') (v:Value) (base:Option Addr) (sLen sCap:Nat) (hv:v = .slice base sLen sCap) (olds:List Value)
 (hfo:(Builtin.firstCells i.size sLen (.slice base sLen sCap)).run P w.drew = .ok olds.toArray w.drew)
 (hg:sCap<sLen+m) (h63:sLen+m≤9223372036854775807) (hfit:Builtin.nextslicecap (sLen+m) sCap * i.bytes≤281474976710656) :
 (Builtin.append_ ts ty #[v,x]).run P w =
  .ok (.slice (some ⟨w.heap.size,0,none⟩) (sLen+m) (grownCap w (sLen+m) sCap e))
   (w.drew.alloc (.cells (olds.toArray++news.toArray++Builtin.zeroCells z.cells (grownCap w (sLen+m) sCap e - (sLen+m))) e)):=by
 subst hv
 have hn:¬ (sLen+m≤sCap):=by omega
 have h63':¬ (9223372036854775807<((sLen:Int)+(m:Int))):=by omega
 have a4Z:¬ (281474976710656<Builtin.nextslicecap (sLen+m) sCap * i.bytes):=by omega
 rcases htd with ⟨u,rfl⟩ | rfl
 all_goals
  simp [Builtin.append_,h0,h1,run_underlying ht,run_underlying ht',sizeOf,typeInfo,zeroValue,hi,hz,hx.len,hn,h63',a4Z,Question.forced,hx.first w.drew rfl,hfo,newRow,grownCap]
  congr 2
  apply Array.ext'
  simp [bJ]
theorem s9 {t t' ty e:TypeId} {td:TypeDesc} {i:TypeInfo} {z:Value} (ht:P.underlying t=some (.slice e)) (ht':P.underlying t'=some td) (htd:(∃ u,td = .slice u)∨td = .string)
 (hi:P.info? e=some i) (hz:i.zero=some z) (hzs:z.cells.size=i.size)
 {v:Value} {n:Nat} {old:List Value} (hown:w.ownsRow 0 e i.size v n old)
 {x:Value} {m:Nat} {g:Nat→Nat→C} {news:List Value} (hx:Src P S w i.size m g x news)
 (h63:n+m≤maxLen) (hbytes:(n+m) * i.bytes≤140737488355328) (ts:Array TypeId) (h0:ts[0]? = some t) (h1:ts[1]? = some t') :
 ∃ v' w',(Builtin.append_ ts ty #[v,x]).run P w = .ok v' w'∧w'.ownsRow 0 e i.size v' (n+m) (old++news)∧w.grownBy w' v.ownBlock ∧
   ((v' = .slice none 0 0∧w'=w∧v = .slice none 0 0)∨(∃ b,v'.ownBlock=some b∧v.ownBlock=some b∧w'.heap.size=w.heap.size)∨(v'.ownBlock=some w.heap.size∧w'.heap.size=w.heap.size+1∧∀ k,k<w.heap.size→w'.heap[k]? = w.heap[k]?)):=by
 have hsmall:n+m≤9223372036854775807:=by simp only[maxLen] at h63;omega
 have hlen:(old++news).length=(n+m) * i.size:=by rw[aG,hown.1,hx.length,Nat.add_mul]
 have grown:∀ (o:Nat),o<n+m→∀ (row:Option Nat),
  (w.drew.alloc (.cells (old.toArray++news.toArray++Builtin.zeroCells z.cells (grownCap w (n+m) o e - (n+m))) e)).ownsRow 0 e i.size
   (.slice (some ⟨w.heap.size,0,none⟩) (n+m) (grownCap w (n+m) o e)) (n+m) (old++news) ∧
  w.grownBy (w.drew.alloc (.cells (old.toArray++news.toArray++Builtin.zeroCells z.cells (grownCap w (n+m) o e - (n+m))) e)) row:=by
  intro o ho row
  have hge:=grownCap_ge w (n+m) o e
  have hcm:grownCap w (n+m) o e≤maxLen:=grownCap_le_maxLen w (n+m) o e h63
  refine ⟨⟨hlen,.inr ⟨w.heap.size,_,_,rfl,Nat.zero_le _,heap_alloc_new w.drew _,hge,hcm,?_,?_⟩⟩,⟨rfl,rfl,rfl,by simp,fun k hk _=>heap_alloc_old w.drew _ k hk⟩⟩
  ·simp only[Array.size_append,List.size_toArray,size_zeroCells,hzs,hown.1,hx.length,← Nat.add_mul]
   congr 1
   omega
  ·simp only[Array.toList_append,bJ]
   rw[← bJ,← hlen]
   exact List.take_left
 rcases hown.2 with ⟨rfl,rfl⟩ | ⟨b,cap,cur,rfl,hbg,hg,hnc,hcm,hcs,aNw⟩
 ·have ho:old=[]:=List.eq_nil_of_length_eq_zero (by simpa using hown.1)
  subst ho
  by_cases hm:m=0
  ·subst hm
   have hn:news=[]:=List.eq_nil_of_length_eq_zero (by simpa using hx.length)
   subst hn
   exact ⟨.slice none 0 0,w,zR ht ht' htd hi hx ts h0 h1,World.ownsRow_nil w 0 e i.size,⟨rfl,rfl,rfl,aM _,fun _ _ _=>rfl⟩,.inl ⟨rfl,rfl,rfl⟩⟩
  ·have hr:=qA (ty:=ty) ht ht' htd hi hz hx ts h0 h1 _ none 0 0 rfl [] (run_firstCells_none ..) (by omega) (by omega) (growslice_fits (by omega) hbytes)
   have hgr:=grown 0 (by omega) (Value.ownBlock (.slice none 0 0))
   exact ⟨_,_,hr,hgr.1,hgr.2,.inr (.inr ⟨rfl,by simp,fun k hk=>heap_alloc_old w.drew _ k hk⟩)⟩
 ·by_cases hroom:n+m≤cap
  ·have hfit:n * i.size+news.length≤cur.size:=by rw[hx.length,hcs,← Nat.add_mul];exact aV _ hroom
   have hr:=zQ (ty:=ty) ht ht' htd hi hx ts h0 h1 b n cap cur hg hroom hfit
   refine ⟨_,_,hr,⟨hlen,.inr ⟨b,cap,_,rfl,hbg,setRow_heap w b cur _ e _ hg,hroom,hcm,?_,?_⟩⟩,⟨rfl,rfl,rfl,by simp,fun k _ hk=>setRow_other w b k _ (fun e=>hk (by simp [Value.ownBlock,e]))⟩,.inr (.inl ⟨b,rfl,rfl,by simp⟩)⟩
   ·simp only[List.size_toArray,aG,aK,bM,Array.length_toList]
    omega
   ·rw[aNw,← hlen]
    exact List.take_left
  ·have holds:∀ j u,old[j]? = some u→w.cell? ((⟨b,0,none⟩:Addr).add j)=some u:=hown.cells (g:=b) rfl
   have hfo:=run_firstCells_some (P:=P) w.drew i.size n ⟨b,0,none⟩ n cap old hown.1 (by simpa using holds)
   have hr:=qA (ty:=ty) ht ht' htd hi hz hx ts h0 h1 _ (some ⟨b,0,none⟩) n cap rfl old hfo (by omega) (by omega) (growslice_fits (by omega) hbytes)
   have hgr:=grown cap (by omega) (Value.ownBlock (.slice (some ⟨b,0,none⟩) n cap))
   exact ⟨_,_,hr,hgr.1,hgr.2,.inr (.inr ⟨rfl,by simp,fun k hk=>heap_alloc_old w.drew _ k hk⟩)⟩
theorem Src.empty {size:Nat} {g:Nat→Nat→C} {a:Option Addr} {c:Nat}:Src P S w size 0 g (.slice a 0 c) []:=by
 refine ⟨fun _=>rfl,fun w' hw=>?_,by simp,by simp,fun i j hi=>by omega⟩
 cases a with
 | none=>rfl
 | some a=>simp [Builtin.firstCells,loadCells,loadCellsFrom]
theorem aIt {w:World} {b off k:Nat} (f:Nat→Value) (h:∀ q,q<k→w.cell? ⟨b,off+q,none⟩=some (f q)) :
 ∀ j u,((List.range k).map f)[j]? = some u→w.cell? ((⟨b,off,none⟩:Addr).add j)=some u:=by
 intro j u hu
 rw[bG] at hu
 rcases bE j k with hj | hj
 ·rw[List.getElem?_range hj] at hu
  simp only[Option.map_some,aA] at hu
  rw[add_lit,h j hj,hu]
 ·rw[bB (by simpa using hj)] at hu
  cases hu
theorem Src.aNx {size m:Nat} {g:Nat→Nat→C} {b off c:Nat} (hs:0<size)
 (hcell:∀ i j,i<m→j<size→∃ u,w.cell? ⟨b,off+i * size+j,none⟩=some u∧u.oneCell'=true∧cV S pQ (g i j) u) :
 ∃ news,Src P S w size m g (.slice (some ⟨b,off,none⟩) m c) news:=by
 let f:Nat→Value:=fun q=>(w.cell? ⟨b,off+q,none⟩).getD undef
 have hq:∀ q,q<m * size→∃ u,w.cell? ⟨b,off+q,none⟩=some u∧u.oneCell'=true∧cV S pQ (g (q / size) (q % size)) u:=by
  intro q hq
  have h1:q / size<m:=by rw[Nat.div_lt_iff_lt_mul hs];exact hq
  have h2:q % size<size:=Nat.mod_lt _ hs
  obtain ⟨u,hu,hr⟩:=hcell _ _ h1 h2
  have h3:off+q / size * size+q % size=off+q:=by rw[Nat.add_assoc,Nat.mul_comm,Nat.div_add_mod]
  rw[h3] at hu
  exact ⟨u,hu,hr⟩
 have hf:∀ q,q<m * size→w.cell? ⟨b,off+q,none⟩=some (f q):=by
  intro q h
  obtain ⟨u,hu,_⟩:=hq q h
  simp [f,hu]
 refine ⟨(List.range (m * size)).map f,⟨fun _=>rfl,fun w' hw=>?_,by simp,?_,?_⟩⟩
 ·have hf':∀ q,q<m * size→w'.cell? ⟨b,off+q,none⟩=some (f q):=by
   intro q h
   rw[← hf q h]
   simp [World.cell?,hw]
  exact run_firstCells_some (P:=P) w' size m ⟨b,off,none⟩ m c _ (by simp) (aIt f hf')
 ·intro u hu
  obtain ⟨q,hq1,rfl⟩:=List.mem_map.1 hu
  obtain ⟨u,hu,h1,_⟩:=hq q (by simpa using hq1)
  have:=hf q (by simpa using hq1)
  rw[hu] at this
  simp only[aA] at this
  rw[← this];exact h1
 ·intro i j hi hj
  have hlt:i * size+j<m * size:=by
   have:(i+1) * size≤m * size:=aV _ hi
   rw[Nat.add_mul] at this;omega
  obtain ⟨u,hu,_,hr⟩:=hcell i j hi hj
  refine ⟨u,?_,hr⟩
  rw[bG,List.getElem?_range hlt,Option.map_some]
  have:=hf _ hlt
  rw[← Nat.add_assoc,hu] at this
  exact this.symm
theorem xJ {e:TypeId} {size:Nat} {d:D} {x:Value} {m:Nat} {g:Nat→Nat→C} (hs:0<size)
 (hc:Core Γ S β w xs) (hd:dR S β d x) (h:aBX P e size d xs=some (m,g)):∃ news,Src P S w size m g x news:=by
 unfold aBX at h
 split at h
 ·simp only[aA,aI] at h
  obtain ⟨rfl,rfl⟩:=h
  obtain rfl:=hd
  exact ⟨[],Src.empty⟩
 ·rename_i w' m' g'
  have h2:=bZ h
  clear h
  obtain ⟨hw,h⟩:=h2
  have hw:=aH hw
  simp only[aA,aI] at h
  obtain ⟨rfl,rfl⟩:=h
  subst hw
  obtain ⟨a,cap,rfl,_,_,hz⟩:=hd
  rcases hz with hz | ⟨b,off,rfl,hcell⟩
  ·subst hz;exact ⟨[],Src.empty⟩
  ·exact Src.aNx hs fun i j hi hj=>by
    obtain ⟨u,hu,hr⟩:=hcell i j hi hj
    exact ⟨u,(hc.holds _ _ _ hu).1,(hc.holds _ _ _ hu).2,hr⟩
 ·rename_i o m'
  cases nN:xs[o]? with
  | none=>simp [nN] at h
  | some ob =>
    cases ob with
    | row e' wd n get =>
      simp only[nN] at h
      have h2:=bZ h
      clear h
      obtain ⟨hw,h⟩:=h2
      have hw:=aH hw
      simp only[aA,aI] at h
      obtain ⟨rfl,rfl⟩:=h
      subst hw
      simp only[dR,cV] at hd
      rcases hc.cC o _ nN with ⟨hn,_⟩ | ⟨k,hk,he,j8,hn,hcap,uJ,cur,hh,hsz,hcell⟩
      ·rw[hn] at hd
       obtain ⟨rfl,rfl⟩:=hd
       exact ⟨[],Src.empty⟩
      ·rw[hk] at hd
       obtain ⟨hle,_,rfl⟩:=hd
       exact Src.aNx hs fun i j hi hj=>by
        obtain ⟨u,hu,h1,hr⟩:=hcell i j (by omega) hj
        exact ⟨u,by rw[cell_of_heap hh,Nat.zero_add];exact hu,h1,hr⟩
    | _=>simp [nN] at h
 ·rename_i l
  cases hu:P.underlying e with
  | none=>simp [hu] at h
  | some td =>
    cases td with
    | int k =>
      cases k with
      | u8 =>
        simp only[hu] at h
        have h2:=bZ h
        clear h
        obtain ⟨hw,h⟩:=h2
        have hw:=aH hw
        simp only[aA,aI] at h
        obtain ⟨rfl,rfl⟩:=h
        subst hw
        obtain ⟨rfl,_⟩:=hd
        have hsz:(⟨l.toArray⟩:ByteArray).size=l.length:=by simp [ByteArray.size]
        refine ⟨l.map fun b=>.int .u8 b.toNat,⟨fun _=>?_,fun w' _=>?_,by simp,by simp [Value.oneCell'],fun i j hi hj=>?_⟩⟩
        ·simp only[Builtin.lenOf,hsz];rfl
        ·simp only[Builtin.firstCells,Sem.run_pure]
         congr 1
         apply Array.ext'
         have:((⟨l.toArray⟩:ByteArray).extract 0 l.length).data.toList=l:=by
          rw[Lib.extract_data];simp
         simp [this]
        ·have:j=0:=by omega
         subst this
         refine ⟨.int .u8 (l.getD i 0).toNat,?_,rfl⟩
         simp [List.getD,aF hi]
      | _=>simp [hu] at h
    | _=>simp [hu] at h
 ·cases h
theorem aJR {l:List Obj} {o o':Nat} {y:Obj} (h:(l.set o .dead)[o']? = some y) (hl:y.live=true):o'≠o∧l[o']? = some y:=by
 rw[List.getElem?_set] at h
 split at h
 ·split at h
  ·simp only[aA] at h
   subst h
   cases hl
  ·cases h
 ·rename_i he;exact ⟨fun e=>he e.symm,h⟩
theorem Core.join {ys:List Obj} {w':World} (h:Core Γ S β w ys) (x:Obj) (k:Bk) (ho:w'.os=w.os) (ht:w'.tape=w.tape) (hu:w'.output=w.output)
 (hz:w.heap.size≤w'.heap.size) (hb:∀ b,b<w.heap.size→b≠k.b→w'.heap[b]? = w.heap[b]?) (hlt:k.b<w'.heap.size) (hm:k.b<Γ.w.heap.size→Γ.M k.b)
 (hs:∀ q,S k.b q=none) (hn:∀ o k' y,ys[o]? = some y→y.live=true→β o=some (some k')→k'.b≠k.b)
 (hx:rE S (gG β ys.length (some k)) w' ys.length x):Core Γ S (gG β ys.length (some k)) w' (ys++[x])∧kK β (gG β ys.length (some k)):=by
 have hle:kK β (gG β ys.length (some k)):=kK.gG (h.out _ (aM _))
 have hne:∀ o x,ys[o]? = some x→o≠ys.length:=fun o x ho he=>by
  subst he;simp at ho
 have hb':∀ o x,ys[o]? = some x→gG β ys.length (some k) o=β o:=fun o x ho=>by
  unfold gG;rw[aD (hne o x ho)]
 have hbn:gG β ys.length (some k) ys.length=some (some k):=gM _ _ _
 refine ⟨⟨?_,?_,?_,?_,?_,?_,?_⟩,hle⟩
 ·refine h.frame.ext ho ht hu hz fun b hb1 hb2=>hb b (bH hb1 h.frame.size) fun e=>?_
  subst e;exact hb2 (hm hb1)
 ·refine h.holds.keep fun b ⟨i,hi⟩=>hb b (h.holds.lt hi) fun e=>?_
  subst e;rw[hs i] at hi;cases hi
 ·intro o y hy
  rcases getElem?_concat _ _ _ _ hy with hy | ⟨rfl,rfl⟩
  ·exact (h.cC o y hy).keep (jL.refl _) hle fun k' hl hk=>hb _ (h.mine o k' y hy hl hk).1 (hn o k' y hy hl hk)
  ·exact hx
 ·intro o ho
  simp at ho
  unfold gG
  rw[aD (by omega)]
  exact h.out o (by omega)
 ·intro o o' k1 k2 y y' hy hy' hl hl' h1 h2 hno
  have ka:=getElem?_concat _ _ _ _ hy
  have kb:=getElem?_concat _ _ _ _ hy'
  clear hy hy'
  rcases ka with qa | ⟨ra,ra'⟩
  ·rcases kb with qb | ⟨rb,rb'⟩
   ·rw[hb' o y qa] at h1;rw[hb' o' y' qb] at h2
    exact h.inj o o' k1 k2 y y' qa qb hl hl' h1 h2 hno
   ·subst rb
    rw[hb' o y qa] at h1;rw[hbn] at h2
    simp only[aA] at h2;subst h2
    exact hn o k1 y qa hl h1
  ·subst ra
   rcases kb with qb | ⟨rb,rb'⟩
   ·rw[hb' o' y' qb] at h2;rw[hbn] at h1
    simp only[aA] at h1;subst h1
    exact fun e=>hn o' k2 y' qb hl' h2 e.symm
   ·exact absurd rb.symm hno
 ·intro o k1 y hy hl h1 i
  rcases getElem?_concat _ _ _ _ hy with hy | ⟨rfl,rfl⟩
  ·rw[hb' o y hy] at h1
   exact h.sep o k1 y hy hl h1 i
  ·rw[hbn] at h1
   simp only[aA] at h1;subst h1
   exact hs i
 ·intro o k1 y hy hl h1
  rcases getElem?_concat _ _ _ _ hy with hy | ⟨rfl,rfl⟩
  ·rw[hb' o y hy] at h1
   have:=h.mine o k1 y hy hl h1
   exact ⟨bH this.1 hz,this.2⟩
  ·rw[hbn] at h1
   simp only[aA] at h1;subst h1
   exact ⟨hlt,hm⟩
theorem vT {t t' e:TypeId} {td:TypeDesc} {i:TypeInfo} {z:Value} (ht:P.underlying t=some (.slice e)) (ht':P.underlying t'=some td) (htd:(∃ u,td = .slice u)∨td = .string)
 (hi:P.info? e=some i) (hz:i.zero=some z) (hzs:z.cells.size=i.size) (hby:0<i.bytes) (ts:Array TypeId) (ty:TypeId) (h0:ts[0]? = some t) (h1:ts[1]? = some t')
 {v x:Value} {m:Nat} {g2:Nat→Nat→C} {news:List Value} (hsrc:Src P S w i.size m g2 x news)
 (n:Nat) (old:List Value) (ys:List Obj) (get:Nat→Nat→C) (hown:w.ownsRow 0 e i.size v n old) (hroom:room ((n+m) * i.bytes)=true) (hys:Core Γ S β w ys)
 (hblk:∀ b,v.ownBlock=some b→b<w.heap.size∧(b<Γ.w.heap.size→Γ.M b)∧(∀ q,S b q=none)∧∀ o k y,ys[o]? = some y→y.live=true→β o=some (some k)→k.b≠b)
 (aWx:∀ q j,q<n+m→j<i.size→∃ u,(old++news)[q * i.size+j]? = some u∧u.oneCell'=true∧cV S pQ (get q j) u) :
 pE P (Builtin.append_ ts ty #[v,x]) Γ S β w (.c (.own ys.length (n+m))) (ys++[.row e i.size (n+m) get]):=by
 have hrm:(n+m) * i.bytes≤140737488355328:=by simpa [room] using hroom
 have hnm:n+m≤140737488355328:=aS (Nat.le_mul_of_pos_right _ hby) hrm
 have uJ:n+m≤maxLen:=by simp only[maxLen];omega
 obtain ⟨v',w',hr,hown',hgrow,aJS⟩:=s9 (ty:=ty) ht ht' htd hi hz hzs hown hsrc uJ hrm ts h0 h1
 -- a result with a block
 have blocked:∀ b,v'.ownBlock=some b→(b<w.heap.size→some b=v.ownBlock)→(∀ k,k<w.heap.size→k≠b→w'.heap[k]? = w.heap[k]?)→b<w'.heap.size →
  (b<Γ.w.heap.size→Γ.M b)→(∀ q,S b q=none)→(∀ o k y,ys[o]? = some y→y.live=true→β o=some (some k)→k.b≠b) →
  pE P (Builtin.append_ ts ty #[v,x]) Γ S β w (.c (.own ys.length (n+m))) (ys++[.row e i.size (n+m) get]):=by
  intro b hb _ hheap a42 hbm hbs hbn
  rcases hown'.2 with ⟨rfl,_⟩ | ⟨b',cap,cur,rfl,_,hg,hnc,hcm,hcs,aNw⟩
  ·cases hb
  ·simp only[Value.ownBlock,aA] at hb
   subst hb
   obtain ⟨nM,hle⟩:=hys.join (.row e i.size (n+m) get) ⟨b',e,i.size,n+m,cap⟩ hgrow.os hgrow.tape hgrow.output hgrow.size hheap a42 hbm hbs hbn
    (.inr ⟨_,gM _ _ _,rfl,rfl,rfl,hnc,hcm,cur,hg,hcs,fun q j hq hj=>by
     obtain ⟨u,hu,h1,hr⟩:=aWx q j hq hj
     refine ⟨u,?_,h1,hr⟩
     rw[← aNw,List.getElem?_take,aE (by
      have:(q+1) * i.size≤(n+m) * i.size:=aV _ hq
      rw[Nat.add_mul] at this;omega)] at hu
     simpa using hu⟩)
   refine ⟨_,w',S,_,hr,?_,jL.refl _,hle,nM⟩
   simp only[dR,cV,gM]
   exact ⟨aM _,hnc,trivial⟩
 rcases aJS with ⟨rfl,rfl,rfl⟩ | ⟨b,hb1,hb2,hsz⟩ | ⟨hb1,hsz,hkeep⟩
 ·have hzero:n+m=0:=by
   rcases hown'.2 with ⟨_,h⟩ | ⟨_,_,_,h,_⟩
   ·exact h
   ·cases h
  obtain ⟨nM,hle⟩:=hys.push (.cells #[] e) (.row e i.size (n+m) get) none (w':=w') (.inl ⟨rfl,rfl⟩) (.inl ⟨gM _ _ _,hzero⟩)
  refine ⟨_,w',S,_,hr,?_,jL.refl _,hle,nM⟩
  simp only[dR,cV,gM]
  exact ⟨hzero,trivial⟩
 ·obtain ⟨q1,q2,q3,q4⟩:=hblk b hb2
  exact blocked b hb1 (fun _=>hb2.symm) (fun k hk hne=>hgrow.block k hk (by rw[hb2];simpa using hne)) (by omega) q2 q3 q4
 ·refine blocked _ hb1 (fun h=>absurd h (Nat.lt_irrefl _)) (fun k hk _=>hkeep k hk) (by omega) (fun h=>?_) (fun q=>?_) (fun o k y hy hl hk=>?_)
  ·have:=hys.frame.size;omega
  ·cases hs:S w.heap.size q with
   | none=>rfl
   | some u=>exact absurd (hys.holds.lt (i:=q) (by simp [hs])) (Nat.lt_irrefl _)
  ·have:=(hys.mine o k y hy hl hk).1;omega
theorem Src.get {size m:Nat} {g:Nat→Nat→C} {x:Value} {news:List Value} (h:Src P S w size m g x news) (i j:Nat) (hi:i<m) (hj:j<size) :
 ∃ u,news[i * size+j]? = some u∧u.oneCell'=true∧cV S pQ (g i j) u:=by
 obtain ⟨u,hu,hr⟩:=h.cell i j hi hj
 exact ⟨u,hu,h.one u (bL hu),hr⟩
theorem tA {t t':TypeId} {td:TypeDesc} {dst src:D} {v x:Value} {vs:List Bool} {d':D} {xs':List Obj} (ht':P.underlying t'=some td) (htd:(∃ u,td = .slice u)∨td = .string)
 (ts:Array TypeId) (ty:TypeId) (h0:ts[0]? = some t) (h1:ts[1]? = some t')
 (hc:Core Γ S β w xs) (hd:dR S β dst v) (hx:dR S β src x) (h:qB P t dst src xs=some (vs,d',xs')) (hvs:∀ b∈vs,b=true) :
 pE P (Builtin.append_ ts ty #[v,x]) Γ S β w d' xs':=by
 unfold qB at h
 cases ht:P.underlying t with
 | none=>simp [ht] at h
 | some tdd =>
   cases tdd with
   | slice e =>
     simp only[ht] at h
     cases hi:P.info? e with
     | none=>simp [hi] at h
     | some i =>
       simp only[hi] at h
       cases hz:i.zero with
       | none=>simp [hz] at h
       | some z =>
         simp only[hz] at h
         have h2:=bZ h
         clear h
         obtain ⟨hg,h⟩:=h2
         simp only[aC,aW] at hg
         obtain ⟨hzs,hsz,hby⟩:=hg
         have hzs:=aH hzs
         cases hsr:aBX P e i.size src xs with
         | none=>simp [hsr] at h
         | some p =>
           obtain ⟨m,g2⟩:=p
           simp only[hsr] at h
           obtain ⟨news,hsrc⟩:=xJ hsz hc hx hsr
           split at h
           ·obtain ⟨rfl,rfl,rfl⟩:=c7 h
            obtain rfl:=hd
            have hrm:room (m * i.bytes)=true:=hvs _ (by simp)
            have:=vT ht ht' htd hi hz hzs hby ts ty h0 h1 hsrc 0 [] xs g2 (World.ownsRow_nil w 0 e i.size) (by rw[Nat.zero_add];exact hrm) hc (fun b hb=>by cases hb)
             (fun q j hq hj=>by simpa using hsrc.get q j (by omega) hj)
            rw[Nat.zero_add] at this
            exact this
           ·rename_i o n
            cases nN:xs[o]? with
            | none=>simp [nN] at h
            | some ob =>
              cases ob with
              | row e' wd n' g =>
                simp only[nN] at h
                have h2:=bZ h
                clear h
                obtain ⟨hg,h⟩:=h2
                simp only[aC] at hg
                have he:=aH hg.1
                have hw:=aH hg.2
                subst he;subst hw
                obtain ⟨rfl,rfl,rfl⟩:=c7 h
                have hrm:room ((n+m) * i.bytes)=true:=hvs _ (by simp)
                have hlen:(xs.set o Obj.dead).length=xs.length:=by simp
                simp only[dR,cV] at hd
                rcases hc.cC o _ nN with ⟨hn,hn0⟩ | ⟨k,hk,he,j8,hn,hcap,uJ,cur,hh,hcs,hcell⟩
                ·rw[hn] at hd
                 obtain ⟨rfl,rfl⟩:=hd
                 have:=vT ht ht' htd hi hz hzs hby ts ty h0 h1 hsrc 0 [] (xs.set o .dead) (fun i j=>bif Nat.blt i 0 then g i j else g2 (i - 0) j) (World.ownsRow_nil w 0 e' i.size) hrm (hc.kill o) (fun b hb=>by cases hb)
                  (fun q j hq hj=>by
                   have hb:Nat.blt q 0=false:=by
                    cases hb:Nat.blt q 0 with
                    | false=>rfl
                    | true=>simp at hb
                   have:=hsrc.get q j (by omega) hj
                   rw[hb]
                   simpa using this)
                 rw[hlen] at this
                 exact this
                ·rw[hk] at hd
                 obtain ⟨hle,hnc,rfl⟩:=hd
                 have hmin:=hc.mine o k _ nN rfl hk
                 have hsep:=hc.sep o k _ nN rfl hk
                 have hsize:n * i.size≤cur.size:=by rw[hcs];exact aV _ hnc
                 have hol:(cur.toList.take (n * i.size)).length=n * i.size:=by simp;omega
                 have:=vT ht ht' htd hi hz hzs hby ts ty h0 h1 hsrc n (cur.toList.take (n * i.size)) (xs.set o .dead) (fun i j=>bif Nat.blt i n then g i j else g2 (i - n) j)
                  ⟨hol,.inr ⟨k.b,k.cap,cur,rfl,Nat.zero_le _,hh,hnc,uJ,hcs,rfl⟩⟩ hrm (hc.kill o)
                  (fun b hb=>by
                   simp only[Value.ownBlock,aA] at hb
                   subst hb
                   refine ⟨hmin.1,hmin.2,hsep,fun o' k' y hy hl hk'=>?_⟩
                   obtain ⟨hne,hy⟩:=aJR hy hl
                   exact hc.inj o' o k' k y _ hy nN hl rfl hk' hk hne)
                  (fun q j hq hj=>by
                   rcases bE q n with hqn | hqn
                   ·have hlt:q * i.size+j<n * i.size:=by
                     have:(q+1) * i.size≤n * i.size:=aV _ hqn
                     rw[Nat.add_mul] at this;omega
                    obtain ⟨u,hu,h1,hr⟩:=hcell q j (by omega) hj
                    refine ⟨u,?_,h1,?_⟩
                    ·rw[List.getElem?_append_left (by omega),List.getElem?_take,aE hlt]
                     simpa using hu
                    ·have:Nat.blt q n=true:=by simpa [aW] using hqn
                     rw[this];exact hr
                   ·obtain ⟨u,hu,h1,hr⟩:=hsrc.get (q - n) j (by omega) hj
                    refine ⟨u,?_,h1,?_⟩
                    ·have hge:n * i.size≤q * i.size:=aV _ hqn
                     rw[List.getElem?_append_right (by omega),hol]
                     have:q * i.size+j - n * i.size=(q - n) * i.size+j:=by
                      rw[Nat.sub_mul];omega
                     rw[this];exact hu
                    ·have:Nat.blt q n=false:=by
                      cases hb:Nat.blt q n with
                      | false=>rfl
                      | true=>have hq0:q<n:=by simpa [aW] using hb
                              omega
                     rw[this];exact hr)
                 rw[hlen] at this
                 exact this
              | _=>simp [nN] at h
           ·cases h
   | _=>simp [ht] at h
end
end Go.Dl

namespace Go.Dl
variable [dO]
section
variable {P:Program} {Γ:j6} {S:Mem} {β:dG} {w:World} {xs:List Obj}
theorem aKa {a b:Value} (h:aSL a b=true):a=b:=by
 unfold aSL at h
 split at h
 ·rename_i a b;cases a <;> cases b <;> first | rfl | cases h
 ·simp only[aC,aB] at h;obtain ⟨rfl,rfl⟩:=h;rfl
 ·rfl
 ·cases h
theorem aKb:∀ {a b:List Value},aSM a b=true→a=b
 | [],[],_=>rfl
 | [],_::_,h=>by cases h
 | _::_,[],h=>by cases h
 | a::r,b::t,h=>by
   simp only[aSM,aC] at h
   rw[aKa h.1,aKb h.2]
theorem aWU {a b:Value} (h:eqV a b=true):a=b:=by
 unfold eqV at h
 split at h
 ·rename_i a b;rw[show a=b from Array.ext' (aKb h)]
 ·exact aKa h
theorem aNR {z v:Value} {g:Nat→C} {d:D1} (hd:aLQ z g=some d) (hv:VC S v g) (hf:aBW v z):jT S β d v:=by
 cases z with
 | tuple vs=>cases hf
 | agg cs =>
   obtain ⟨ds,rfl,hl⟩:=hf
   simp only[aLQ,aA] at hd
   subst hd
   refine ⟨ds.toList,by simp,eM.rD (by simp [hl]) fun i c hi=>?_⟩
   rw[bG] at hi
   have hlt:i<cs.size:=by
    rcases bE i cs.size with h | h
    ·exact h
    ·rw[bB (by simpa using h)] at hi;cases hi
   rw[List.getElem?_range hlt] at hi
   simp only[Option.map_some,aA] at hi
   subst hi
   have hlt':i<ds.size:=by omega
   have he:ds[i]? = some ds[i]:=Array.getElem?_eq_getElem hlt'
   exact ⟨ds[i],by rw[bF];exact he,cV.closed (hv i _ he)⟩
 | _ =>
   have h1:v.oneCell'=true:=hf
   simp only[aLQ,aA] at hd
   subst hd
   have:=hv 0 v (by rw[aAd h1];rfl)
   exact cV.closed this
theorem D1.aSP {d:D1} {v:Value} (h:jT S β d v):dR S β d.toD v:=by
 cases d <;> exact h
theorem aWV (z:Value):VC S z (zc z):=by
 intro j u hu
 have:(z.cells.toList.map aEV).getD j .bot=aEV u:=by
  rw[List.getD,bG,bF,hu];rfl
 unfold zc
 rw[this]
 exact xH u
theorem aLX {z:Value} (h:(aLQ z (zc z)).isSome=true):aBW z z:=by
 cases z with
 | agg cs=>exact ⟨cs,rfl,rfl⟩
 | tuple vs=>cases h
 | _=>rfl
theorem aIN {z v:Value} {d:D} {f:Nat→C} (h:aIH z d=some f) (hd:dR S β d v):VC S v f∧aBW v z:=by
 have one:∀ x:C,d = .c x→(bif x.good && x.shut then some (fun j:Nat=>[x].getD j .bot) else none)=some f→VC S v f∧v.oneCell'=true:=by
  rintro x rfl h
  obtain ⟨hg,h⟩:=bZ h
  simp only[aC] at hg
  simp only[aA] at h
  subst h
  have h1:v.oneCell'=true:=s8 hg.1 hd
  refine ⟨fun j u hu=>?_,h1⟩
  rw[aAd h1] at hu
  cases j with
  | zero=>simp at hu;subst hu;exact lN hg.2 hd
  | succ j=>simp at hu
 cases z with
 | tuple vs=>cases d <;> cases h
 | agg cs =>
   cases d with
   | agg l =>
     simp only[aIH] at h
     obtain ⟨hg,h⟩:=bZ h
     simp only[aC] at hg
     simp only[aA] at h
     subst h
     obtain ⟨hl,hg,hs⟩:=hg
     obtain ⟨us,rfl,hr⟩:=hd
     have hlen:=hr.length
     have hl:=aH hl
     refine ⟨fun j u hu=>?_,us.toArray,rfl,by simp;omega⟩
     have hu:us[j]? = some u:=by simpa [Value.cells] using hu
     have hlt:j<l.length:=by
      have:=(List.getElem?_eq_some_iff.1 hu).1
      omega
     obtain ⟨u',hu',hc⟩:=hr.get j _ (aF hlt)
     rw[hu] at hu';simp only[aA] at hu';subst hu'
     show cV S pQ (l.getD j .bot) u
     rw[show l.getD j .bot=l[j] by simp [List.getD,aF hlt]]
     exact lN (by rw[aN] at hs;exact hs _ (List.getElem_mem hlt)) hc
   | c x=>cases h
   | jW l=>cases h
 | _ =>
   cases d with
   | c x=>exact one x rfl h
   | agg l=>cases h
   | jW l=>cases h
theorem wE {kk:IntKind} {i:Int}:∀ (es:List MapEntry) (j:Nat),(∀ e∈es,∃ n,e.key = .int .i64 n) →
 ∃ r,Instr.findNow (.int kk) (.int .i64 i) es j=some r∧r.map (·.2)=iZ es i∧∀ q v,r=some (q,v)→j≤q∧(∃ e,es[q - j]? = some e∧e.key = .int .i64 i) ∧
   ∀ (u:Value) (k':Value),k' = .int .i64 i→∀ i',iZ (es.modify (q - j) fun e=>{ e with key:=k',val:=u }) i'=if i'=i then some u else iZ es i'
 | [],j,_=>⟨none,rfl,rfl,fun q v h=>by cases h⟩
 | e::r,j,hk=>by
   obtain ⟨n,hn⟩:=hk e (by simp)
   have key:∀ (i':Int),isKey i' e.key=(n == i'):=by intro i';rw[hn];rfl
   by_cases hin:i=n
   ·subst hin
    refine ⟨some (j,e.val),?_,?_,?_⟩
    ·simp [Instr.findNow,hn,Instr.sameNow]
    ·simp [iZ,key]
    ·rintro q v hq
     simp only[aA,aI] at hq
     obtain ⟨rfl,rfl⟩:=hq
     refine ⟨aM _,⟨e,by simp,hn⟩,?_⟩
     rintro u k' rfl i'
     rw[Nat.sub_self]
     show iZ ({ e with key:=.int .i64 i,val:=u }::r) i'=_
     simp only[iZ,key]
     by_cases h:i'=i
     ·subst h;simp [isKey]
     ·rw[aD h]
      have:(i == i')=false:=by simpa using Ne.symm h
      simp [isKey,this]
   ·obtain ⟨r',h1,h2,h3⟩:=wE (kk:=kk) (i:=i) r (j+1) (fun e' he'=>hk e' (by simp [he']))
    have hne:(n == i)=false:=by simpa using Ne.symm hin
    have a5z:(i == n)=false:=by simpa using hin
    refine ⟨r',?_,?_,?_⟩
    ·simp [Instr.findNow,hn,Instr.sameNow,a5z,h1]
    ·simp [iZ,key,hne,h2]
    ·intro q v hq
     obtain ⟨g1,⟨e',g2,g3⟩,g4⟩:=h3 q v hq
     have hs:q - j=(q - (j+1))+1:=by omega
     refine ⟨by omega,⟨e',by rw[hs];simpa using g2,g3⟩,?_⟩
     intro u k' hk' i'
     rw[hs,List.modify_succ_cons]
     simp only[iZ]
     rw[g4 u k' hk' i']
     by_cases h:i'=i
     ·subst h;simp [key,hne]
     ·rw[aD h,aD h]
theorem aCp {i:Int} {u:Value} {b:Nat}:∀ (es:List MapEntry),iZ es i=none→∀ i',iZ (es++[⟨.int .i64 i,u,b⟩]) i'=if i'=i then some u else iZ es i'
 | [],_,i'=>by
   simp only[List.nil_append,iZ,isKey]
   by_cases h:i'=i
   ·subst h;simp
   ·have:(i == i')=false:=by simpa using Ne.symm h
    simp [this,h]
 | e::r,h,i'=>by
   simp only[iZ] at h
   cases hk:isKey i e.key with
   | true=>rw[hk] at h;cases h
   | false =>
     rw[hk,cond_false] at h
     simp only[List.cons_append,iZ]
     rw[aCp r h i']
     by_cases hi:i'=i
     ·subst hi;simp [hk]
     ·simp only[aD hi]
theorem run_findKey {kt:TypeId} {kk:IntKind} {i:Int} {es:List MapEntry} {r:Option (Nat × Value)} (hk:P.underlying kt=some (.int kk)) (h:Instr.findNow (.int kk) (.int .i64 i) es 0=some r) (w:World) :
 (Instr.findKey kt (.int .i64 i) es).run P w = .ok r w:=by
 unfold Instr.findKey
 rw[Sem.run_bind,run_underlying hk,Result.andThen_ok,h]
 rfl
theorem run_checkKey {kt:TypeId} {kk:IntKind} {i:Int} (hk:P.underlying kt=some (.int kk)) (b:Bool) (w:World):(Instr.checkKey b 10000 kt (.int .i64 i)).run P w = .ok () w:=by
 unfold Instr.checkKey
 rw[Sem.run_bind,run_underlying hk,Result.andThen_ok]
 rfl
theorem aCq {b:Nat} {ms:Array MapEntry} {clock:Nat} {w:World} (h:w.heap[b]? = some (.map ms clock)):(getObj b).run P w = .ok (.map ms clock) w:=by
 simp [getObj,Sem.run,h]
theorem aA9 {t:TypeId} {r:Option Operand} {rv:Option Value} {vs:List Bool} {d':D} {xs':List Obj} (hr:r=none→rv=none)
 (hc:Core Γ S β w xs) (h:aAb P t r xs=some (vs,d',xs')):pE P (Instr.makeMap t rv) Γ S β w d' xs':=by
 unfold aAb at h
 split at h
 ·rename_i kt et hu
  obtain rfl:=hr rfl
  cases hz:(P.info? et).bind (·.zero) with
  | none=>simp [hz] at h
  | some z =>
    simp only[hz] at h
    have h2:=bZ h
    clear h
    obtain ⟨hm,h⟩:=h2
    obtain ⟨rfl,rfl,rfl⟩:=c7 h
    let k:Bk:=⟨w.heap.size,0,0,0,0⟩
    have hle:kK β (gG β xs.length (some k)):=kK.gG (hc.out _ (aM _))
    have:=hc.push (.map #[] 0) (.map z (fun _=>false) (fun _=>zc z)) (some k) (w':=w.alloc (.map #[] 0)) (.inr ⟨⟨k,rfl,rfl⟩,rfl⟩)
     ⟨k,gM _ _ _,#[],0,heap_alloc_new w _,fun e he=>by simp at he,fun i=>⟨aWV z,rfl,aLX hm⟩⟩
    refine ⟨.map (some w.heap.size),_,S,_,?_,⟨k,gM _ _ _,rfl⟩,jL.refl _,this.2,this.1⟩
    simp [Instr.makeMap]
 ·cases h
theorem aNS {o:Nat} {z:Value} {has:Int→Bool} {get:Int→Nat→C} {v:Value} (hc:Core Γ S β w xs) (hx:xs[o]? = some (.map z has get)) (hm:cV S β (.map o) v) :
 ∃ k ms clock,β o=some (some k)∧v = .map (some k.b)∧w.heap[k.b]? = some (.map ms clock)∧k.b<w.heap.size∧(∀ e∈ms.toList,∃ n,e.key = .int .i64 n) ∧
   ∀ i,VC S ((iZ ms.toList i).getD z) (get i)∧(iZ ms.toList i).isSome=has i∧aBW ((iZ ms.toList i).getD z) z:=by
 obtain ⟨k,hk,rfl⟩:=hm
 obtain ⟨k',hk',ms,clock,h1,h2,h3⟩:=hc.cC o _ hx
 rw[hk] at hk';simp only[aA] at hk';subst hk'
 exact ⟨k,ms,clock,hk,rfl,h1,(hc.mine o k _ hx rfl hk).1,h2,h3⟩
theorem aB0 {t:TypeId} {m kd:D} {ok:Bool} {v vk:Value} {vs:List Bool} {d':D} {xs':List Obj} (hc:Core Γ S β w xs) (hm:dR S β m v) (hk:dR S β kd vk)
 (h:xQ P t m kd ok xs=some (vs,d',xs')):eG P false (Instr.lookup t v vk ok) Γ S β w d' xs':=by
 unfold xQ at h
 split at h
 ·rename_i kt et o i hu
  obtain rfl:vk = .int .i64 i:=hk
  split at h
  ·rename_i kk z' z has get hkt hz hx
   have h2:=bZ h
   clear h
   obtain ⟨hz',h⟩:=h2
   obtain rfl:=aWU hz'
   split at h
   ·rename_i d hd
    obtain ⟨kb,ms,clock,hkb,rfl,hh,hlt,hkeys,hall⟩:=aNS hc hx hm
    obtain ⟨hv,a5A,hform⟩:=hall i
    obtain ⟨r,hr1,sZ,_⟩:=wE (kk:=kk) (i:=i) ms.toList 0 hkeys
    have hrun:∀ w',Up w w'→(Instr.lookup t (.map (some kb.b)) (.int .i64 i) ok).run P w' = .ok (if ok then .tuple #[(iZ ms.toList i).getD z,.bool (has i)] else (iZ ms.toList i).getD z) w':=by
     intro w' j8
     have hh':w'.heap[kb.b]? = some (.map ms clock):=by rw[j8.block kb.b hlt];exact hh
     unfold Instr.lookup
     rw[Sem.run_bind,run_underlying hu,Result.andThen_ok]
     simp only[Sem.run_bind,aCq hh',Result.andThen_ok,Sem.run_pure,run_checkKey hkt,run_findKey hkt hr1]
     rw[← sZ,← a5A,← sZ]
     have hzr:(zeroValue et).run P w' = .ok z w':=by
      cases hi:P.info? et with
      | none=>simp [hi] at hz
      | some ti =>
        simp only[hi,Option.bind_some] at hz
        unfold zeroValue
        rw[Sem.run_bind,iO hi,Result.andThen_ok,hz]
        rfl
     cases r with
     | none=>simp only[Sem.run_bind,hzr,Result.andThen_ok,Sem.run_pure];cases ok <;> rfl
     | some p=>obtain ⟨q,u⟩:=p;simp only[Sem.run_pure,Result.andThen_ok];cases ok <;> rfl
    have hd1:jT S β d ((iZ ms.toList i).getD z):=aNR hd hv hform
    cases ok with
    | true =>
      simp only[cond_true] at h
      obtain ⟨rfl,rfl,rfl⟩:=c7 h
      exact eG.aAR _ hrun ⟨_,rfl,_,_,rfl,hd1,_,_,rfl,rfl,rfl⟩ hc
    | false =>
      simp only[cond_false] at h
      obtain ⟨rfl,rfl,rfl⟩:=c7 h
      exact eG.aAR _ hrun (D1.aSP hd1) hc
   ·cases h
  ·cases h
 ·cases h
theorem aLY:∀ {es:List MapEntry} {q:Nat} {u k':Value},(∀ e∈es,∃ n,e.key = .int .i64 n)→(∃ n,k' = .int .i64 n)→∀ e∈es.modify q (fun e=>{ e with key:=k',val:=u }),∃ n,e.key = .int .i64 n:=by
 intro es q u k' h hk e he
 obtain ⟨i,hi⟩:=List.mem_iff_getElem?.1 he
 rw[List.getElem?_modify] at hi
 cases he':es[i]? with
 | none=>rw[he'] at hi;simp at hi
 | some e0 =>
   rw[he'] at hi
   simp only[Option.map_eq_map,Option.map_some,aA] at hi
   split at hi
   ·subst hi;exact hk
   ·subst hi;exact h _ (bL he')
theorem aB1 {t:TypeId} {m kd x:D} {v vk vx:Value} {xs':List Obj} (hc:Core Γ S β w xs) (hm:dR S β m v) (hk:dR S β kd vk) (hx:dR S β x vx)
 (h:xO P t m kd x xs=some xs'):∃ w',(Instr.mapUpdate t v vk vx).run P w = .ok () w'∧Core Γ S β w' xs':=by
 unfold xO at h
 split at h
 ·rename_i kt et o i hu
  obtain rfl:vk = .int .i64 i:=hk
  split at h
  ·rename_i kk z has get hkt nN
   split at h
   ·rename_i f hf
    simp only[aA] at h
    subst h
    obtain ⟨hvc,hform⟩:=aIN hf hx
    obtain ⟨kb,ms,clock,hkb,rfl,hh,hlt,hkeys,hall⟩:=aNS hc nN hm
    obtain ⟨r,hr1,sZ,hr3⟩:=wE (kk:=kk) (i:=i) ms.toList 0 hkeys
    have fin:∀ (ms':Array MapEntry) (clock':Nat),(∀ e∈ms'.toList,∃ n,e.key = .int .i64 n)→(∀ i',iZ ms'.toList i'=if i'=i then some vx else iZ ms.toList i') →
     ∃ w',(setObj kb.b (.map ms' clock')).run P w = .ok () w'∧Core Γ S β w' (xs.set o (.map z (fun i'=>decide (i'=i) || has i') (fun i'=>bif decide (i'=i) then f else get i'))):=by
     intro ms' clock' hk' hf'
     refine ⟨{ w with heap:=w.heap.setIfInBounds kb.b (.map ms' clock') },?_,?_⟩
     ·simp only[setObj,Sem.run,hh]
     ·refine hc.write o (.map z has get) _ kb nN rfl hkb rfl rfl rfl (by simp) (fun b hb=>?_) ⟨kb,hkb,ms',clock',by simp [hlt],hk',fun i'=>?_⟩
      ·simp [Array.getElem?_setIfInBounds,Ne.symm hb]
      ·obtain ⟨h1,h2,h3⟩:=hall i'
       rw[hf' i']
       by_cases hi:i'=i
       ·subst hi;simp only[if_true,Option.getD_some,decide_true,cond_true,Option.isSome_some,Bool.true_or];exact ⟨hvc,trivial,hform⟩
       ·simp only[aD hi,decide_eq_false hi,cond_false,Bool.false_or];exact ⟨h1,h2,h3⟩
    have hstart:(Instr.mapUpdate t (.map (some kb.b)) (.int .i64 i) vx).run P w=((match r with
     | some (q,_)=>do
       let key ← Instr.keyThatStays (((ms[q]?).map (·.key)).getD (.int .i64 i)) (.int .i64 i)
       setObj kb.b (.map (ms.modify q fun e=>{ e with key:=key,val:=vx }) clock)
     | none=>setObj kb.b (.map (ms.push { key:=.int .i64 i,val:=vx,born:=clock }) (clock+1)):Sem Unit)).run P w:=by
     unfold Instr.mapUpdate
     rw[Sem.run_bind,run_underlying hu,Result.andThen_ok]
     simp only[Sem.run_bind,aCq hh,Result.andThen_ok,run_checkKey hkt,run_findKey hkt hr1]
     cases r <;> rfl
    rw[hstart]
    cases r with
    | none =>
      refine fin _ _ (fun e he=>?_) (fun i'=>?_)
      ·simp only[Array.toList_push,aZ,aJ] at he
       rcases he with he | rfl
       ·exact hkeys e he
       ·exact ⟨i,rfl⟩
      ·rw[Array.toList_push]
       exact aCp ms.toList (by rw[← sZ];rfl) i'
    | some p =>
      obtain ⟨q,u⟩:=p
      obtain ⟨_,⟨e,he,hek⟩,hmod⟩:=hr3 q u rfl
      rw[Nat.sub_zero] at he hmod
      have hke:((ms[q]?).map (·.key)).getD (.int .i64 i) = .int .i64 i:=by
       rw[← bF,he];simpa using hek
      simp only[hke]
      have hst:(Instr.keyThatStays (.int .i64 i) (.int .i64 i)).run P w = .ok (.int .i64 i) w:=by
       unfold Instr.keyThatStays
       rw[aE (by simp [Instr.sameBits])]
       rfl
      rw[Sem.run_bind,hst,Result.andThen_ok]
      refine fin _ _ (fun e he=>?_) (fun i'=>?_)
      ·rw[Array.toList_modify] at he
       exact aLY hkeys ⟨i,rfl⟩ e he
      ·rw[Array.toList_modify]
       exact hmod vx _ rfl i'
   ·cases h
  ·cases h
 ·cases h
theorem aGP {z:Array Value} {n q:Nat} (hq:q<n * z.size):(Builtin.zeroCells z n)[q]? = z[q % z.size]?:=by
 have hpos:0<z.size:=by
  rcases Nat.eq_zero_or_pos z.size with h | h
  ·rw[h] at hq;omega
  ·exact h
 have hlt:q % z.size<z.size:=Nat.mod_lt _ hpos
 unfold Builtin.zeroCells
 rw[Array.getElem?_map,Array.getElem?_range]
 simp only[hq,if_true,Option.map_some]
 rw[getElem!_pos z _ hlt,Array.getElem?_eq_getElem hlt]
theorem aD2 {t:TypeId} {x:D} {v:Value} {xs':List Obj} (ts:Array TypeId) (ty:TypeId) (h0:ts[0]? = some t) (hc:Core Γ S β w xs) (hx:dR S β x v)
 (h:aBt P t x xs=some xs'):∃ w',(Builtin.clear_ ts ty #[v]).run P w = .ok (.tuple #[]) w'∧Core Γ S β w' xs':=by
 unfold aBt at h
 split at h
 ·rename_i e o lo n hu
  split at h
  ·rename_i e' wd m get z nN hz
   obtain ⟨hg,h⟩:=bZ h
   simp only[aA] at h
   subst h
   simp only[aC] at hg
   obtain ⟨hzl,hsz,vK,jA⟩:=hg
   have hzl:=aH hzl
   obtain ⟨ei,hei,hes⟩:=lH hsz
   obtain ⟨a,cap,rfl,hle,aJS⟩:=hx
   obtain ⟨i',zv,hi',hzi,hzv,hzr⟩:=o9 (S:=S) (β:=β) hz
   have aWW:(Builtin.clear_ ts ty #[.slice a 0 cap]).run P w = .ok (.tuple #[]) w:=by
    unfold Builtin.clear_
    simp only[h0,List.getElem?_toArray,List.getElem?_cons_zero]
    rw[Sem.run_bind,run_underlying hu,Result.andThen_ok]
    cases a <;> rfl
   have hstart:∀ a n,(Builtin.clear_ ts ty #[.slice (some a) (n+1) cap]).run P w=(do let z ← zeroValue e;storeCells a (Builtin.zeroCells z.cells (n+1)).toList;pure (Value.tuple #[]):Sem Value).run P w:=by
    intro a n
    unfold Builtin.clear_
    simp only[h0,List.getElem?_toArray,List.getElem?_cons_zero]
    rw[Sem.run_bind,run_underlying hu,Result.andThen_ok]
    rfl
   rcases Nat.eq_zero_or_pos n with hn | hn
   ·subst hn
    refine ⟨w,?_,?_⟩
    ·exact aWW
    ·have hf:(fun i j=>bif Nat.ble lo i && Nat.blt i (lo+0) then z.getD j .bot else get i j)=get:=by
      funext i j
      have:(Nat.ble lo i && Nat.blt i (lo+0))=false:=by
       cases h1:Nat.ble lo i with
       | false=>rfl
       | true =>
         have:=aX h1
         cases h2:Nat.blt i (lo+0) with
         | false=>rfl
         | true=>have:i<lo+0:=by simpa [aW] using h2
                 omega
      rw[this,cond_false]
     rw[hf]
     have hlt:o<xs.length:=(List.getElem?_eq_some_iff.1 nN).1
     have:xs.set o (.row e' wd m get)=xs:=by
      apply List.ext_getElem?
      intro q
      by_cases hq:q=o
      ·subst hq;rw[List.getElem?_set_self hlt,nN]
      ·rw[List.getElem?_set_ne (Ne.symm hq)]
     rw[this];exact hc
   ·rcases aJS with aJS | ⟨kb,hk,hlo,rfl⟩
    ·omega
    have ho:=hc.cC o _ nN
    rcases ho with ⟨hnn,_⟩ | ⟨kb',hk',he,j8,hnn,hcap,uJ,cur,hh,hcs,hcell⟩
    ·rw[hk] at hnn;cases hnn
    rw[hk] at hk';simp only[aA] at hk';subst hk'
    subst j8
    have aNT:zv.cells.size=kb.w:=by rw[← hzl,hzv];simp
    have hone:∀ u∈zv.cells.toList,u.oneCell'=true:=aCr vK hzr
    have hlen:(Builtin.zeroCells zv.cells n).toList.length=n * kb.w:=by simp [size_zeroCells,aNT]
    have hmul:(lo+n) * kb.w≤kb.cap * kb.w:=aV _ (by omega)
    rw[Nat.add_mul] at hmul
    have a0n:∀ u∈(Builtin.zeroCells zv.cells n).toList,u.oneCell'=true:=by
     intro u hu
     obtain ⟨q,hq⟩:=List.mem_iff_getElem?.1 hu
     have hql:q<n * kb.w:=by rw[← hlen];exact (List.getElem?_eq_some_iff.1 hq).1
     rw[bF,aGP (by rw[aNT];exact hql)] at hq
     exact hone u (by rw[← bF] at hq;exact bL hq)
    have hrun:=run_storeCells_at P kb.b (lo * kb.w) e' (Builtin.zeroCells zv.cells n).toList 0 cur w hh (by rw[hlen,hcs];omega) a0n
    have a5B:(zeroValue e).run P w = .ok zv w:=by
     unfold zeroValue
     rw[Sem.run_bind,iO hi',Result.andThen_ok,hzi]
     rfl
    refine ⟨w.setRow kb.b (cur.toList.take (lo * kb.w)++(Builtin.zeroCells zv.cells n).toList++cur.toList.drop (lo * kb.w+(Builtin.zeroCells zv.cells n).toList.length)).toArray,?_,hc.write o (.row e' kb.w m get) _ kb nN rfl hk rfl rfl rfl (by simp) (fun b hb=>setRow_other w kb.b b _ hb) ?_⟩
    ·obtain ⟨n',rfl⟩:∃ n',n=n'+1:=⟨n - 1,by omega⟩
     rw[hstart,Sem.run_bind,a5B,Result.andThen_ok,Sem.run_bind,hrun]
     simp only[Nat.add_zero]
     rfl
    ·refine .inr ⟨kb,hk,he,rfl,hnn,hcap,uJ,_,setRow_heap w kb.b cur _ e' (0,0) hh,?_,fun i j hi hj=>?_⟩
     ·simp only[List.size_toArray,aG,aK,bM,Array.length_toList]
      rw[size_zeroCells,aNT,hcs];omega
     ·have hbig:i * kb.w+kb.w≤kb.cap * kb.w:=by
       have:(i+1) * kb.w≤kb.cap * kb.w:=aV _ (by omega)
       rw[Nat.add_mul] at this
       omega
      rw[aKc (by rw[hlen,hcs];omega),hlen]
      dsimp only
      by_cases hin:lo≤i∧i<lo+n
      ·have h1:(Nat.ble lo i && Nat.blt i (lo+n))=true:=by simp [Nat.ble_eq,aW,hin.1,hin.2]
       rw[h1,cond_true]
       have e1:lo * kb.w≤i * kb.w:=aV _ hin.1
       have e2:(i+1) * kb.w≤(lo+n) * kb.w:=aV _ (by omega)
       rw[Nat.add_mul,Nat.add_mul] at e2
       rw[aE (by omega),bF,aGP (by rw[aNT];omega),aNT]
       have e3:(i * kb.w+j - lo * kb.w) % kb.w=j:=by
        have:i * kb.w+j - lo * kb.w=j+kb.w * (i - lo):=by
         rw[Nat.mul_comm kb.w,Nat.sub_mul];omega
        rw[this,Nat.add_mul_mod_self_left,Nat.mod_eq_of_lt hj]
       rw[e3]
       obtain ⟨u,hu,hr⟩:=hzr.get j (z[j]'(by omega)) (aF (by omega))
       rw[bF] at hu
       refine ⟨u,hu,hone u (by rw[← bF] at hu;exact bL hu),?_⟩
       rw[show z.getD j .bot=z[j]'(by omega) by simp [List.getD,aF (show j<z.length by omega)]]
       exact lN (by rw[aN] at jA;exact jA _ (List.getElem_mem _)) hr
      ·have h1:(Nat.ble lo i && Nat.blt i (lo+n))=false:=by
        cases q1:Nat.ble lo i with
        | false=>rfl
        | true =>
          cases q2:Nat.blt i (lo+n) with
          | false=>rfl
          | true=>exact absurd ⟨aX q1,by simpa [aW] using q2⟩ hin
       rw[h1,cond_false]
       have aWX:¬ (lo * kb.w≤i * kb.w+j∧i * kb.w+j<lo * kb.w+n * kb.w):=by
        intro a5C
        rcases bE i lo with hq | hq
        ·have:(i+1) * kb.w≤lo * kb.w:=aV _ hq
         rw[Nat.add_mul] at this;omega
        ·have hq2:lo+n≤i:=by omega
         have:(lo+n) * kb.w≤i * kb.w:=aV _ hq2
         rw[Nat.add_mul] at this;omega
       rw[aD aWX]
       exact hcell i j hi hj
  ·cases h
 ·cases h
end
end Go.Dl

namespace Go.Dl
variable [dO]
section
variable {P:Program} {Γ:j6} {S:Mem} {β:dG} {w:World}
def Good (P:Program) (q p:Bool) (s:Sem Next) (Γ:j6) (S:Mem) (β:dG) (w:World) (d:D) (xs:List Obj):Prop :=
 ∃ v w' S' β',(s.run P w = .ok (.value v) w'∨s.run P w = .ok .skip w'∧v=undef)∧dR S' β' d v∧jL S S'∧kK β β'∧Core Γ S' β' w' xs ∧
   (q=true→w'=w∧S'=S∧β'=β∧∀ w2,p=true∨Up w w2→s.run P w2 = .ok (.value v) w2)
theorem pE.good {s:Sem Value} {d:D} {xs:List Obj} (h:pE P s Γ S β w d xs):Good P false false (do pure (.value (← s))) Γ S β w d xs:=by
 obtain ⟨v,w',S',β',hr,h1,h2,h3,h4⟩:=h
 refine ⟨v,w',S',β',.inl ?_,h1,h2,h3,h4,fun h=>by cases h⟩
 rw[Sem.run_bind,hr];rfl
theorem eG.good {p:Bool} {s:Sem Value} {d:D} {xs:List Obj} (h:eG P p s Γ S β w d xs):Good P true p (do pure (.value (← s))) Γ S β w d xs:=by
 obtain ⟨v,hr,h1,h2⟩:=h
 have hr':∀ w2,p=true∨Up w w2→(do pure (Next.value (← s)):Sem Next).run P w2 = .ok (.value v) w2:=fun w2 h=>by rw[Sem.run_bind,hr w2 h];rfl
 exact ⟨v,w,S,β,.inl (hr' w (.inr (Up.refl w))),h1,jL.refl _,kK.refl _,h2,fun _=>⟨rfl,rfl,rfl,hr'⟩⟩
theorem Good.same {s:Sem Next} {d:D} {xs:List Obj} {q p:Bool} (v:Value) (h:∀ w2,s.run P w2 = .ok (.value v) w2) (hd:dR S β d v) (hc:Core Γ S β w xs):Good P q p s Γ S β w d xs :=
 ⟨v,w,S,β,.inl (h w),hd,jL.refl _,kK.refl _,hc,fun _=>⟨rfl,rfl,rfl,fun w2 _=>h w2⟩⟩
theorem Good.congr {s s':Sem Next} {d:D} {xs:List Obj} {q p:Bool} (h:Good P q p s Γ S β w d xs) (he:∀ w2,s'.run P w2=s.run P w2):Good P q p s' Γ S β w d xs:=by
 obtain ⟨v,w',S',β',hr,h1,h2,h3,h4,h5⟩:=h
 refine ⟨v,w',S',β',by rw[he];exact hr,h1,h2,h3,h4,fun hq=>?_⟩
 obtain ⟨e1,e2,e3,e4⟩:=h5 hq
 exact ⟨e1,e2,e3,fun w2 hw=>by rw[he];exact e4 w2 hw⟩
theorem aEx {st:St} {a:Act} (hv:∀ x,dR S β (st.lv x) (a.eval x)) (o:Option Operand):aGw S β (o.map st.lv) (o.map a.eval):=by
 cases o with
 | none=>rfl
 | some x=>exact ⟨_,rfl,hv x⟩
theorem aBY {st:St} {a:Act} (hv:∀ x,dR S β (st.lv x) (a.eval x)):∀ (l:List Operand),fT S β (l.map st.lv) (l.map a.eval)
 | []=>rfl
 | x::l=>⟨_,_,rfl,hv x,aBY hv l⟩
theorem aBZ {x:Operand} (h:pG x=true):x = .const (.bool true):=by
 unfold pG at h
 split at h
 ·subst h;rfl
 ·cases h
theorem aAy {x:Operand} (h:qC x=true):x = .const (.bool false):=by
 unfold qC at h
 split at h
 ·rename_i b;cases b
  ·rfl
  ·cases h
 ·cases h
theorem aEY {st:St} {a:Act} {c x y:Operand} {vs:List Bool} {d:D} {xs:List Obj} (hcv:dR S β (st.lv c) (a.eval c))
 (hx:∀ b,a.eval c = .bool b→b=true→dR S β (st.lv x) (a.eval x)) (hy:∀ b,a.eval c = .bool b→b=false→dR S β (st.lv y) (a.eval y))
 (hc:Core Γ S β w st.cC) (h:aEZ (st.lv c) x y st=some (vs,d,xs)) :
 Good P true true (do pure (.value (if ← asBool (a.eval c) then a.eval x else a.eval y))) Γ S β w d xs:=by
 unfold aEZ at h
 split at h
 ·rename_i b hc'
  rw[hc'] at hcv
  have hce:a.eval c = .bool b:=hcv
  cases htx:pG x with
  | true =>
    simp only[htx,cond_true] at h
    obtain rfl:=aBZ htx
    split at h
    ·rename_i y2 hy2
     obtain ⟨rfl,rfl,rfl⟩:=c7 h
     refine Good.same (.bool (b || y2)) (fun w2=>?_) rfl hc
     rw[hce]
     simp only[asBool,pure_bind]
     cases b
     ·have:=hy false hce rfl
      rw[hy2] at this
      have hye:a.eval y = .bool y2:=this
      simp only[aR,if_false,Bool.false_or,hye];rfl
     ·rfl
    ·cases h
  | false =>
    simp only[htx,cond_false] at h
    obtain ⟨hfy,h⟩:=bZ h
    obtain rfl:=aAy hfy
    split at h
    ·rename_i y2 hy2
     obtain ⟨rfl,rfl,rfl⟩:=c7 h
     refine Good.same (.bool (b && y2)) (fun w2=>?_) rfl hc
     rw[hce]
     simp only[asBool,pure_bind]
     cases b
     ·rfl
     ·have:=hx true hce rfl
      rw[hy2] at this
      have hye:a.eval x = .bool y2:=this
      simp only[if_true,Bool.true_and,hye];rfl
    ·cases h
 ·cases h
theorem aIu {o:Oper} {st:St} {a:Act} {vs:List Bool} {d:D} {xs:List Obj} (hv:∀ x,dR S β (st.lv x) (a.eval x))
 (hc:Core Γ S β w st.cC) (h:aE0 P o st=some (vs,d,xs)) (hvs:∀ b∈vs,b=true) (hf:xK P o.op=true):Good P (gH o.op) (vU o.op) (execOp a.eval o) Γ S β w d xs:=by
 unfold aE0 at h
 unfold execOp
 cases ho:o.op with
 | move x =>
   simp only[ho] at h ⊢
   obtain ⟨rfl,rfl,rfl⟩:=c7 h
   exact Good.same _ (fun _=>rfl) (hv x) hc
 | assign x =>
   simp only[ho] at h ⊢
   obtain ⟨rfl,rfl,rfl⟩:=c7 h
   exact Good.same _ (fun _=>rfl) (hv x) hc
 | pick c x y =>
   simp only[ho] at h ⊢
   exact aEY (hv c) (fun _ _ _=>hv x) (fun _ _ _=>hv y) hc h
 | alloc t =>
   simp only[ho] at h ⊢
   exact (aDW hc h).good
 | box t x =>
   simp only[ho] at h ⊢
   exact (aAz hc (hv x) h).good
 | build t parts =>
   simp only[ho] at h ⊢
   exact (aDU hv hc h).good
 | buildSlice t len parts =>
   simp only[ho] at h ⊢
   exact (oB hv hc h).good
 | load t x =>
   simp only[ho] at h ⊢
   obtain ⟨ht,h⟩:=bZ h
   exact (xL (bI.1 ht) hc (hv x) h).good
 | store t x y =>
   simp only[ho] at h ⊢
   cases hst:aBs P t (st.lv x) (st.lv y) st.cC with
   | none=>rw[hst] at h;cases h
   | some ys =>
   rw[hst,Option.map_some] at h
   obtain ⟨rfl,rfl,rfl⟩:=c7 h
   obtain ⟨w',hr,nM⟩:=aDX hc (hv x) (hv y) hst
   refine ⟨undef,w',S,β,.inr ⟨?_,rfl⟩,trivial,jL.refl _,kK.refl _,nM,fun hq=>by cases hq⟩
   rw[Sem.run_bind,hr];rfl
 | nilCheck x =>
   simp only[ho] at h ⊢
   obtain ⟨h1,rfl,h3⟩:=aGx (hv x) h hvs
   refine Good.same (a.eval x) (fun w2=>?_) h1 hc
   generalize a.eval x=v at h3
   unfold aJT at h3
   split at h3
   ·rfl
   ·rfl
   ·exact h3.elim
 | binOp op t x y t2 =>
   simp only[ho] at h ⊢
   exact (aGy hc (hv x) (hv y) h hvs).good
 | unOp op t x =>
   simp only[ho] at h ⊢
   exact (aIv hc (hv x) h).good
 | convert s t x =>
   simp only[ho] at h ⊢
   exact (aA8 hc (hv x) h).good
 | makeInterface t x =>
   simp only[ho] at h ⊢
   obtain ⟨hu,h⟩:=bZ h
   split at h
   ·rename_i c hx
    obtain ⟨rfl,rfl,rfl⟩:=c7 h
    have:=hv x
    rw[hx] at this
    exact (u7 (p:=false) hu hc this).toV.good
   ·cases h
 | makeFunc fn first captured =>
   simp only[ho] at h ⊢
   split at h
   ·rename_i l hl1 hl2
    obtain ⟨rfl,rfl,rfl⟩:=c7 h
    refine Good.same (.func fn #[] (captured.map a.eval)) (fun w2=>?_) ?_ hc
    ·have:first.map a.eval = #[]:=by
      have:first = #[]:=by apply Array.ext';simpa using hl1
      simp [this]
     rw[this];rfl
    ·have e:captured.map a.eval=(captured.toList.map a.eval).toArray:=by apply Array.ext';simp
     rw[e]
     exact aE2 (aAA hv hl2)
   ·cases h
 | makeSlice t l c =>
   simp only[ho] at h ⊢
   exact (xI hc (hv l) (hv c) h hvs).good
 | slice t x lo hi mx =>
   simp only[ho] at h ⊢
   cases mx with
   | none=>exact (aDY hc (hv x) (aEx hv lo) (aEx hv hi) h hvs).good
   | some m=>cases h
 | fieldAddr s x f =>
   simp only[ho] at h ⊢
   exact (xM hc (hv x) h).good
 | field s x f =>
   simp only[ho] at h ⊢
   refine (aDZ hc (hv x) h fun fs fd h1 h2=>?_).good
   unfold xK at hf
   simp only[ho,h1,h2,Option.elim] at hf
   exact bI.1 hf
 | indexAddr t x ix =>
   simp only[ho] at h ⊢
   exact (xN hc (hv x) (hv ix) h hvs).good
 | index t x ix =>
   simp only[ho] at h ⊢
   exact (aD0 hc (hv x) (hv ix) h hvs).good
 | extract x i =>
   simp only[ho] at h ⊢
   split at h
   ·rename_i l hx
    cases hl:l[i]? with
    | none=>simp [hl] at h
    | some dd =>
      simp only[hl,Option.elim] at h
      obtain ⟨rfl,rfl,rfl⟩:=c7 h
      have:=hv x
      rw[hx] at this
      exact (aD1 hc this hl).good
   ·cases h
 | call c =>
   simp only[ho] at h ⊢
   obtain ⟨callee,args,pS⟩:=c
   have aGz:∀ (b:Builtin),callee = .builtin b→((do let dd ← resolve a.eval ⟨callee,args,pS⟩ o.type;invoke dd.target dd.args):Sem Next).run P =
    (builtin b pS o.type (args.map fun | .const _=>true | _=>false) (args.map a.eval)).run P:=by
    intro b hb
    subst hb
    rfl
   simp only at h
   split at h
   ·rename_i x t r h2 h3
    have ha:args = #[x]:=by apply Array.ext';simpa using h2
    have h0:pS[0]? = some t:=by
     rw[← bF,h3];rfl
    subst ha
    exact (aE3 pS o.type h0 hc (hv x) h).good.congr fun w2=>by rw[aGz .len rfl,show Array.map a.eval #[x] = #[a.eval x] by simp];rfl
   ·rename_i x y t t' r h2 h3
    have ha:args = #[x,y]:=by apply Array.ext';simpa using h2
    have h0:pS[0]? = some t:=by
     rw[← bF,h3];rfl
    have h1':pS[1]? = some t':=by
     rw[← bF,h3];rfl
    subst ha
    split at h
    ·rename_i u hu
     have:=(tA hu (.inl ⟨u,rfl⟩) pS o.type h0 h1' hc (hv x) (hv y) h hvs).good
     exact this.congr fun w2=>by rw[aGz .append rfl,show Array.map a.eval #[x,y] = #[a.eval x,a.eval y] by simp];rfl
    ·rename_i hu
     have:=(tA hu (.inr rfl) pS o.type h0 h1' hc (hv x) (hv y) h hvs).good
     exact this.congr fun w2=>by rw[aGz .append rfl,show Array.map a.eval #[x,y] = #[a.eval x,a.eval y] by simp];rfl
    ·cases h
   ·rename_i x t r h2 h3
    have ha:args = #[x]:=by apply Array.ext';simpa using h2
    have h0:pS[0]? = some t:=by rw[← bF,h3];rfl
    subst ha
    cases rB:aBt P t (st.lv x) st.cC with
    | none=>rw[rB] at h;cases h
    | some ys =>
    rw[rB,Option.map_some] at h
    obtain ⟨rfl,rfl,rfl⟩:=c7 h
    obtain ⟨w',hr,nM⟩:=aD2 pS o.type h0 hc (hv x) rB
    have:Good P false false (do pure (Next.value (← Builtin.clear_ pS o.type #[a.eval x]))) Γ S β w (.jW []) ys :=
     ⟨.tuple #[],w',S,β,.inl (by rw[Sem.run_bind,hr];rfl),⟨[],rfl,rfl⟩,jL.refl _,kK.refl _,nM,fun hq=>by cases hq⟩
    exact this.congr fun w2=>by rw[aGz .clear rfl,show Array.map a.eval #[x] = #[a.eval x] by simp];rfl
   ·have:=(tB (p:=true) (P:=P) (isMax:=true) pS o.type hc (aBY hv args.toList) h).good
    refine this.congr fun w2=>?_
    rw[aGz .max rfl,show args.map a.eval=(args.toList.map a.eval).toArray by apply Array.ext';simp]
    rfl
   ·have:=(tB (p:=true) (P:=P) (isMax:=false) pS o.type hc (aBY hv args.toList) h).good
    refine this.congr fun w2=>?_
    rw[aGz .min rfl,show args.map a.eval=(args.toList.map a.eval).toArray by apply Array.ext';simp]
    rfl
   ·cases h
 | makeMap t r =>
   simp only[ho] at h ⊢
   exact (aA9 (rv:=r.map a.eval) (by rintro rfl;rfl) hc h).good
 | lookup t m k ok =>
   simp only[ho] at h ⊢
   exact (aB0 hc (hv m) (hv k) h).good
 | mapUpdate t m k x =>
   simp only[ho] at h ⊢
   cases hst:xO P t (st.lv m) (st.lv k) (st.lv x) st.cC with
   | none=>rw[hst] at h;cases h
   | some ys =>
   rw[hst,Option.map_some] at h
   obtain ⟨rfl,rfl,rfl⟩:=c7 h
   obtain ⟨w',hr,nM⟩:=aB1 hc (hv m) (hv k) (hv x) hst
   refine ⟨undef,w',S,β,.inr ⟨?_,rfl⟩,trivial,jL.refl _,kK.refl _,nM,fun hq=>by cases hq⟩
   rw[Sem.run_bind,hr];rfl
 | _=>simp only[ho] at h;cases h
end
end Go.Dl

namespace Go.Dl
variable [dO]
section
variable {P:Program} {Γ:j6} {S:Mem} {β:dG} {w:World} {n:Nat}
theorem j9 {α:Type} {z:α} {t t':Nat} (h:t'≠t):∀ (l:List (Nat × α)),dK z (gA t l) t'=dK z l t'
 | []=>rfl
 | (i,d)::r=>by
   unfold gA
   rw[List.filter_cons]
   cases hb:Nat.beq i t with
   | true =>
     have:=aH hb
     subst this
     simp only[Bool.not_true,aR,if_false]
     have h2:Nat.beq i t'=false:=by
      cases hq:Nat.beq i t' with
      | false=>rfl
      | true=>exact absurd (aH hq).symm h
     simp only[dK,h2,cond_false]
     exact j9 h r
   | false =>
     simp only[Bool.not_false,if_true,dK]
     rw[show List.filter (fun p=>!Nat.beq p.1 t) r=gA t r from rfl,j9 h r]
theorem aE4 (st:St) (t:Nat) (d:D) (xs:List Obj) (g:List (Nat × Bool)):(st.put (some t) d xs g).get t=d:=by
 simp [St.put,St.get,dK]
theorem pT (st:St) (t t':Nat) (d:D) (xs:List Obj) (g:List (Nat × Bool)) (h:t'≠t):(st.put (some t) d xs g).get t'=st.get t':=by
 have:Nat.beq t t'=false:=by
  cases hq:Nat.beq t t' with
  | false=>rfl
  | true=>exact absurd (aH hq).symm h
 simp only[St.put,St.get,dK,this,cond_false]
 exact j9 h _
theorem lP {α:Type} {z:α} {t:Nat}:∀ (l:List (Nat × α)),dK z (gA t l) t=z
 | []=>rfl
 | (i,d)::r=>by
   unfold gA
   rw[List.filter_cons]
   cases hb:Nat.beq i t with
   | true =>
     simp only[Bool.not_true,aR,if_false]
     exact lP r
   | false =>
     simp only[Bool.not_false,if_true,dK,hb,cond_false]
     exact lP r
theorem xP (st:St) (t:Nat) (d:D) (xs:List Obj) (g:List (Nat × Bool)):(st.put (some t) d xs g).nE t=g:=by
 cases g with
 | nil=>simp only[St.put,St.nE,List.isEmpty_nil,cond_true];exact lP _
 | cons p g=>simp [St.put,St.nE,dK]
theorem vL (st:St) (t t':Nat) (d:D) (xs:List Obj) (g:List (Nat × Bool)) (h:t'≠t):(st.put (some t) d xs g).nE t'=st.nE t':=by
 have:Nat.beq t t'=false:=by
  cases hq:Nat.beq t t' with
  | false=>rfl
  | true=>exact absurd (aH hq).symm h
 cases g with
 | nil=>simp only[St.put,St.nE,List.isEmpty_nil,cond_true];exact j9 h _
 | cons p g =>
   simp only[St.put,St.nE,List.isEmpty_cons,cond_false,dK,this]
   exact j9 h _
theorem aJU {st:St} {t:Nat} {q:Nat × Bool} (h:q∈st.nE t):∃ p∈st.gd,q∈p.2:=by
 unfold St.nE at h
 generalize st.gd=l at h
 induction l with
 | nil=>cases h
 | cons p r ih =>
   obtain ⟨i,g⟩:=p
   simp only[dK] at h
   cases hb:Nat.beq i t with
   | true=>rw[hb,cond_true] at h;exact ⟨(i,g),by simp,h⟩
   | false =>
     rw[hb,cond_false] at h
     obtain ⟨p,hp,hq⟩:=ih h
     exact ⟨p,by simp [hp],hq⟩
theorem aJV {st:St} {t:Nat} (h:lQ st t=true) {t':Nat} {q:Nat × Bool} (hq:q∈st.nE t'):q.1≠t:=by
 obtain ⟨p,hp,hqp⟩:=aJU hq
 unfold lQ at h
 rw[aN] at h
 have:=h p hp
 rw[aN] at this
 have:=this q hqp
 intro e
 subst e
 simp at this
theorem uK {st:St} {t:Nat} {d:D} {xs:List Obj} {g l:List (Nat × Bool)} (h:∀ q∈l,q.1≠t):(st.put (some t) d xs g).holds l↔st.holds l:=by
 unfold St.holds
 constructor
 ·intro hh q hq;have:=hh q hq;rwa [pT _ _ _ _ _ _ (h q hq)] at this
 ·intro hh q hq;rw[pT _ _ _ _ _ _ (h q hq)];exact hh q hq
theorem aGA {a:Act} {t t':Nat} {v:Value} (ht:t<a.tmps.size):(a.put (some t) v).tmps.getD t' undef=if t'=t then v else a.tmps.getD t' undef:=by
 simp only[Act.put,aO,Array.getElem?_setIfInBounds]
 by_cases h:t=t'
 ·subst h;simp [ht]
 ·rw[aD h,aD (fun e=>h e.symm)]
theorem RR.put {a:Act} {st:St} (h:RR Γ S β a w n st) {w':World} {S':Mem} {β':dG} {xs:List Obj} (hc:Core Γ S' β' w' xs) (hs:jL S S') (hb:kK β β')
 {t:Nat} {d:D} {v:Value} {g:List (Nat × Bool)} (hn:t<n) (hfree:lQ st t=true) (hg:∀ q∈g,q.1≠t)
 (h1:st.holds g→dR S' β' d v) (h2:¬ st.holds g→v=undef):RR Γ S' β' (a.put (some t) v) w' n (st.put (some t) d xs g):=by
 have hsz:t<a.tmps.size:=by rw[h.size];exact hn
 refine ⟨hc,fun t' hh=>?_,fun t' hh=>?_,by simp [Act.put,h.size],h.defers,fun o k ho hB=>hb _ _ (h.hand o k ho hB)⟩
 ·rw[aGA hsz]
  by_cases e:t'=t
  ·subst e
   rw[aE rfl,aE4]
   rw[xP,uK hg] at hh
   exact h1 hh
  ·rw[aD e,pT _ _ _ _ _ _ e]
   rw[vL _ _ _ _ _ _ e,uK (fun q hq=>aJV hfree hq)] at hh
   exact dR.up hs hb (h.tm t' hh)
 ·rw[aGA hsz]
  by_cases e:t'=t
  ·subst e
   rw[aE rfl]
   rw[xP,uK hg] at hh
   exact h2 hh
  ·rw[aD e]
   rw[vL _ _ _ _ _ _ e,uK (fun q hq=>aJV hfree hq)] at hh
   exact h.un t' hh
theorem RR.aJW {a:Act} {st:St} (h:RR Γ S β a w n st) {w':World} {S':Mem} {β':dG} {xs:List Obj} (hc:Core Γ S' β' w' xs) (hs:jL S S') (hb:kK β β')
 {d:D} {v:Value} {g:List (Nat × Bool)}:RR Γ S' β' (a.put none v) w' n (st.put none d xs g) :=
 ⟨hc,fun t hh=>dR.up hs hb (h.tm t hh),fun t hh=>h.un t hh,h.size,h.defers,fun o k ho hB=>hb _ _ (h.hand o k ho hB)⟩
theorem aWB {a b:Nat × Bool} (h:gEq a b=true):a=b:=by
 obtain ⟨i,x⟩:=a
 obtain ⟨j,y⟩:=b
 simp only[gEq,aC] at h
 have:=aH h.1
 cases x <;> cases y <;> simp_all
theorem aSw {q:Nat × Bool} {g:List (Nat × Bool)} (h:gIn q g=true):q∈g:=by
 unfold gIn at h
 rw[List.any_eq_true] at h
 obtain ⟨p,hp,he⟩:=h
 rw[aWB he];exact hp
theorem jM {α:Type} {z:α} (f:Nat→Bool) (t:Nat):∀ (l:List (Nat × α)),dK z (l.filter fun p=>f p.1) t=bif f t then dK z l t else z
 | []=>by cases h:f t <;> simp [dK]
 | (i,d)::r=>by
   rw[List.filter_cons]
   cases hb:Nat.beq i t with
   | true =>
     have:=aH hb
     subst this
     cases hf:f i with
     | true=>simp [dK]
     | false =>
       simp only[aR,if_false,cond_false]
       rw[jM f i r,hf,cond_false]
   | false =>
     cases hf:f i with
     | true =>
       simp only[if_true,dK,hb,cond_false]
       exact jM f t r
     | false =>
       simp only[aR,if_false,dK,hb,cond_false]
       exact jM f t r
theorem aE5 {st:St} (h:st.gd.isEmpty=true) (t:Nat):st.nE t=[]:=by
 unfold St.nE
 have:st.gd=[]:=by simpa using h
 rw[this];rfl
theorem gN {a:Act} {st:St} (h:RR Γ S β a w n st) {g:List (Nat × Bool)} (hg:st.holds g) (x:Operand):dR S β ((st.zN g).lv x) (a.eval x):=by
 cases x with
 | tmp t =>
   show dR S β ((st.zN g).get t) (a.tmps.getD t undef)
   unfold St.zN
   cases he:st.gd.isEmpty with
   | true =>
     rw[cond_true]
     exact h.tm t (by rw[aE5 he];intro q hq;cases hq)
   | false =>
     rw[cond_false]
     unfold St.get
     simp only
     rw[jM (fun i=>(st.nE i).all fun q=>gIn q g)]
     cases hb:(st.nE t).all fun q=>gIn q g with
     | false=>rw[cond_false];trivial
     | true =>
       rw[cond_true]
       refine h.tm t fun q hq=>hg q ?_
       rw[aN] at hb
       exact aSw (hb q hq)
 | const v=>exact aE6 v
 | global g=>rfl
 | func f=>exact ⟨#[],rfl,rfl,fun i hi=>by omega⟩
theorem qD (st:St) (g:List (Nat × Bool)):(st.zN g).cC=st.cC:=by
 unfold St.zN
 cases st.gd.isEmpty <;> rfl
theorem aAB {a:Act} {st:St} (h:RR Γ S β a w n st) {g:List (Nat × Bool)} (hg:st.holds g) {o:Oper} {vs:List Bool} {d:D} {xs:List Obj}
 (he:aAC P o st g=some (vs,d,xs)) (hvs:∀ b∈vs,b=true):Good P (gH o.op) (vU o.op) (execOp a.eval o) Γ S β w d xs:=by
 have gen:(bif xK P o.op then aE0 P o (st.zN g) else none)=some (vs,d,xs)→Good P (gH o.op) (vU o.op) (execOp a.eval o) Γ S β w d xs:=by
  intro he
  obtain ⟨hf,he⟩:=bZ he
  exact aIu (gN h hg) (by rw[qD];exact h.core) he hvs hf
 unfold aAC at he
 split at he
 ·rename_i c x y hop
  unfold aE7 at he
  have hcr:=gN h hg (.tmp c)
  split at he
  ·rename_i b hcb
   have aZ3:dR S β ((st.zN g).get c) (a.eval (.tmp c)):=hcr
   rw[hcb] at aZ3
   have hce:a.eval (.tmp c) = .bool b:=aZ3
   have hst:st.get c = .c (.val (.bool b)):=by
    have:(st.zN g).get c=st.get c∨(st.zN g).get c = .c .bot:=by
     unfold St.zN
     cases he:st.gd.isEmpty with
     | true=>left;rfl
     | false =>
       rw[cond_false]
       unfold St.get
       simp only
       rw[jM (fun i=>(st.nE i).all fun q=>gIn q g)]
       cases (st.nE c).all fun q=>gIn q g
       ·right;rfl
       ·left;rfl
    rcases this with e | e
    ·rw[← e];exact hcb
    ·rw[hcb] at e;cases e
   have hold:∀ bb,b=bb→st.holds ((c,bb)::g):=by
    intro bb hbb q hq
    rcases aY.1 hq with rfl | hq
    ·rw[← hbb];exact hst
    ·exact hg q hq
   unfold execOp
   rw[hop]
   simp only
   cases htx:pG x with
   | true =>
     simp only[htx,cond_true] at he
     obtain rfl:=aBZ htx
     split at he
     ·rename_i y2 hy2
      obtain ⟨rfl,rfl,rfl⟩:=c7 he
      refine Good.same (.bool (b || y2)) (fun w2=>?_) rfl h.core
      rw[hce]
      simp only[asBool,pure_bind]
      cases b
      ·have:=gN h (hold false rfl) y
       rw[hy2] at this
       have hye:a.eval y = .bool y2:=this
       simp only[aR,if_false,Bool.false_or,hye];rfl
      ·rfl
     ·cases he
   | false =>
     simp only[htx,cond_false] at he
     obtain ⟨hfy,he⟩:=bZ he
     obtain rfl:=aAy hfy
     split at he
     ·rename_i y2 hy2
      obtain ⟨rfl,rfl,rfl⟩:=c7 he
      refine Good.same (.bool (b && y2)) (fun w2=>?_) rfl h.core
      rw[hce]
      simp only[asBool,pure_bind]
      cases b
      ·rfl
      ·have:=gN h (hold true rfl) x
       rw[hy2] at this
       have hye:a.eval x = .bool y2:=this
       simp only[if_true,Bool.true_and,hye];rfl
     ·cases he
  ·cases he
 ·exact gen he
theorem mS {st:St}:∀ {g:List (Nat × Bool)} {b:Bool},iW st g=some b→st.holds g→b=true
 | [],b,h,_=>by simpa [iW] using h.symm
 | (t,want)::r,b,h,hh=>by
   unfold iW at h
   have ht:=hh (t,want) (by simp)
   simp only at ht
   rw[ht] at h
   cases hr:iW st r with
   | none=>rw[hr] at h;cases h
   | some x =>
     rw[hr] at h
     have hx:=mS hr (fun q hq=>hh q (aT _ hq))
     subst hx
     simp only at h
     split at h <;> simp only[aA] at h <;> subst h <;> cases want <;> rfl
theorem mT {st:St} {t:Nat} {want:Bool} {r:List (Nat × Bool)} {b:Bool} (h:iW st ((t,want)::r)=some b):∃ x,st.get t = .c (.val (.bool x)):=by
 unfold iW at h
 split at h
 ·rename_i x _ hx _;exact ⟨x,hx⟩
 ·cases h
end
end Go.Dl

namespace Go.Dl
variable [dO]
section
variable {P:Program} {Γ:j6} {S:Mem} {β:dG} {w:World} {n:Nat}
theorem aIw {o:Oper} {st:St} {vs:List Bool} {d:D} {xs:List Obj} (hq:gH o.op=true) (h:aE0 P o st=some (vs,d,xs)):xs=st.cC:=by
 unfold aE0 at h
 cases ho:o.op with
 | move x=>simp only[ho] at h;exact (c7 h).2.2.symm
 | assign x=>simp only[ho] at h;exact (c7 h).2.2.symm
 | pick c x y =>
   simp only[ho] at h
   unfold aEZ at h
   repeat' (first | split at h | (cases hb:pG x <;> cases hb2:qC y <;> simp only[hb,hb2,cond_true,cond_false] at h))
   all_goals first | exact (c7 h).2.2.symm | cases h | skip
   all_goals (repeat' split at h)
   all_goals first | exact (c7 h).2.2.symm | cases h
 | load t x =>
   simp only[ho] at h
   obtain ⟨_,h⟩:=bZ h
   unfold zS at h
   repeat' split at h
   all_goals first
    | cases h
    | (cases hb:rF P t <;> simp only[hb,cond_true,cond_false] at h <;>
     first
      | exact (c7 h).2.2.symm
      | (obtain ⟨_,h⟩:=bZ h;exact (c7 h).2.2.symm)
      | (rename_i l j _;cases hl:l[j]? <;> simp only[hl,Option.elim] at h <;> first | exact (c7 h).2.2.symm | cases h)
      | (simp only[Option.elim] at h;split at h <;> first | exact (c7 h).2.2.symm | cases h))
 | nilCheck x =>
   simp only[ho] at h
   unfold aJX at h
   split at h <;> first | exact (c7 h).2.2.symm | cases h
 | binOp op t x y t2 =>
   simp only[ho] at h
   unfold aJY at h
   repeat' split at h
   all_goals first
    | cases h
    | (simp only[Option.elim] at h;split at h <;> first | exact (c7 h).2.2.symm | cases h)
 | unOp op t x =>
   simp only[ho] at h
   unfold aSx at h
   split at h <;> first | exact (c7 h).2.2.symm | cases h
 | convert s t x =>
   simp only[ho] at h
   unfold uL at h
   split at h <;> first | exact (c7 h).2.2.symm | cases h
 | fieldAddr s x f =>
   simp only[ho] at h
   unfold pH at h
   repeat' (first | (exact (c7 h).2.2.symm) | (cases h;done) | split at h | (obtain ⟨_,h⟩:=bZ h))
 | field s x f =>
   simp only[ho] at h
   unfold aBu at h
   repeat' split at h
   all_goals first
    | cases h
    | (rename_i fd _;cases hb:rF P fd.type <;> simp only[hb,cond_true,cond_false] at h <;>
     first
      | (obtain ⟨_,h⟩:=bZ h;exact (c7 h).2.2.symm)
      | (simp only[Option.elim] at h;split at h <;> first | exact (c7 h).2.2.symm | cases h))
 | indexAddr t x ix =>
   simp only[ho] at h
   unfold pI at h
   repeat' (first | (exact (c7 h).2.2.symm) | (cases h;done) | split at h | (obtain ⟨_,h⟩:=bZ h))
 | index t x ix =>
   simp only[ho] at h
   unfold aBv at h
   split at h <;> first | exact (c7 h).2.2.symm | cases h
 | slice t x lo hi mx =>
   simp only[ho] at h
   unfold aBw at h
   repeat' (first | (exact (c7 h).2.2.symm) | (cases h;done) | split at h | (obtain ⟨_,h⟩:=bZ h))
 | extract x i =>
   simp only[ho] at h
   split at h
   ·simp only[Option.elim] at h
    split at h <;> first | exact (c7 h).2.2.symm | cases h
   ·cases h
 | build t parts =>
   simp only[ho] at h
   unfold aBq at h
   repeat' split at h
   all_goals first | exact (c7 h).2.2.symm | cases h
 | call c =>
   simp only[ho] at h
   obtain ⟨callee,args,pS⟩:=c
   rw[ho] at hq
   simp only at h
   split at h
   ·unfold aE8 aNz aIx at h
    repeat' split at h
    all_goals first | exact (c7 h).2.2.symm | cases h
   ·cases hq
   ·cases hq
   ·unfold qE at h
    repeat' split at h
    all_goals first | cases h | (simp only[Option.elim] at h;split at h <;> first | exact (c7 h).2.2.symm | cases h)
   ·unfold qE at h
    repeat' split at h
    all_goals first | cases h | (simp only[Option.elim] at h;split at h <;> first | exact (c7 h).2.2.symm | cases h)
   ·cases h
 | lookup t m k ok =>
   simp only[ho] at h
   unfold xQ at h
   repeat' (first | (exact (c7 h).2.2.symm) | (cases h;done) | split at h | (obtain ⟨_,h⟩:=bZ h) | (cases ok <;> simp only[cond_true,cond_false] at h))
 | _=>rw[ho] at hq;cases hq
theorem aLH {o:Oper} {st:St} {g:List (Nat × Bool)} {vs:List Bool} {d:D} {xs:List Obj} (hq:gH o.op=true) (h:aAC P o st g=some (vs,d,xs)):xs=st.cC:=by
 have gen:(bif xK P o.op then aE0 P o (st.zN g) else none)=some (vs,d,xs)→xs=st.cC:=by
  intro h
  obtain ⟨_,h⟩:=bZ h
  rw[aIw hq h,qD]
 unfold aAC at h
 split at h
 ·rename_i c x y hop
  unfold aE7 at h
  split at h
  ·cases hb:pG x <;> cases hb2:qC y <;> simp only[hb,hb2,cond_true,cond_false] at h
   all_goals first | cases h | skip
   all_goals (split at h <;> first | exact (c7 h).2.2.symm | cases h)
  ·cases h
 ·exact gen h
theorem jF {ops:Array Oper} {o:Oper} {a:Act} {st dD:St} {vs:List Bool}
 (h:RR Γ S β a w n st) (he:mC P n ops o st=some (vs,dD)) (hvs:∀ b∈vs,b=true) :
 (Region.wanted o (yielded ops a.tmps)=true∧∃ v w' S' β',((execOp a.eval o).run P w = .ok (.value v) w'∨(execOp a.eval o).run P w = .ok .skip w'∧v=undef) ∧
  RR Γ S' β' (a.put o.dst v) w' n dD∧(gH o.op=true→w'=w∧S'=S∧β'=β∧∀ w2,vU o.op=true∨Up w w2→(execOp a.eval o).run P w2 = .ok (.value v) w2)) ∨
 (Region.wanted o (yielded ops a.tmps)=false∧RR Γ S β (a.put o.dst undef) w n dD):=by
 have fin:∀ (g:List (Nat × Bool)) (d:D) (xs:List Obj),(o.dst.elim true fun t=>Nat.blt t n && (lQ st t && g.all fun q=>!Nat.beq q.1 t))=true →
  Region.wanted o (yielded ops a.tmps)=true→Good P (gH o.op) (vU o.op) (execOp a.eval o) Γ S β w d xs→(¬ ¬ st.holds g) →
  (Region.wanted o (yielded ops a.tmps)=true∧∃ v w' S' β',((execOp a.eval o).run P w = .ok (.value v) w'∨(execOp a.eval o).run P w = .ok .skip w'∧v=undef) ∧
  RR Γ S' β' (a.put o.dst v) w' n (st.put o.dst d xs g)∧(gH o.op=true→w'=w∧S'=S∧β'=β∧∀ w2,vU o.op=true∨Up w w2→(execOp a.eval o).run P w2 = .ok (.value v) w2)):=by
  intro g d xs lY hw vK hg
  refine ⟨hw,?_⟩
  obtain ⟨v,w',S',β',hr,hd,hs,hb,hc,hq⟩:=vK
  have pP:RR Γ S' β' (a.put o.dst v) w' n (st.put o.dst d xs g):=by
   cases ho:o.dst with
   | none=>exact h.aJW hc hs hb
   | some t =>
     rw[ho] at lY
     simp only[Option.elim,aC,aW,aN] at lY
     obtain ⟨h1,h2,h3⟩:=lY
     refine h.put hc hs hb h1 h2 (fun q hq e=>?_) (fun _=>hd) (fun hn=>absurd hn hg)
     have:=h3 q hq
     rw[e] at this
     simp at this
  exact ⟨v,w',S',β',hr,pP,hq⟩
 unfold mC at he
 cases hg:guardOf ops o st with
 | none=>rw[hg] at he;cases he
 | some g =>
   rw[hg] at he
   dsimp only at he
   obtain ⟨lY,he⟩:=bZ he
   unfold guardOf at hg
   cases hgd:o.guard with
   | none =>
     rw[hgd] at hg he
     simp only[aA] at hg
     subst hg
     dsimp only at he
     have h0:st.holds []:=fun q hq=>by cases hq
     split at he
     ·rename_i vs' d xs vA
      simp only[aA,aI] at he
      obtain ⟨rfl,rfl⟩:=he
      exact .inl (fin [] d xs lY (by simp [Region.wanted,hgd]) (aAB h h0 vA hvs) (fun hn=>hn h0))
     ·cases he
   | some jw =>
     obtain ⟨j,want⟩:=jw
     rw[hgd] at hg he
     dsimp only at hg he
     obtain ⟨hquiet,he⟩:=bZ he
     cases tC:(ops[j]?).bind (·.dst) with
     | none=>rw[tC] at hg;cases hg
     | some tj =>
       rw[tC] at hg
       simp only[aA] at hg
       subst hg
       split at he
       ·rename_i vs' d xs b vA hgb
        simp only[aA,aI] at he
        obtain ⟨rfl,rfl⟩:=he
        have hxs:=aLH hquiet vA
        obtain ⟨x,hx⟩:=mT hgb
        have oC:∀ (yl:Option Bool),yielded ops a.tmps j=yl→Region.wanted o (yielded ops a.tmps)=(yl == some want):=by
         intro yl hy
         simp only[Region.wanted,hgd,hy]
        have gX:yielded ops a.tmps j=match a.tmps[tj]? with | some (.bool b)=>some b | _=>none:=by
         unfold yielded
         rw[tC]
         rfl
        by_cases hh:st.holds ((tj,want)::st.nE tj)
        ·have hb:=mS hgb hh
         subst hb
         have hrel:=h.tm tj (fun q hq=>hh q (aT _ hq))
         have hxw:=hh (tj,want) (by simp)
         simp only at hxw
         rw[hxw] at hrel
         have hval:a.tmps.getD tj undef = .bool want:=hrel
         have hsome:a.tmps[tj]? = some (.bool want):=by
          rw[aO] at hval
          cases hq:a.tmps[tj]? with
          | none=>rw[hq] at hval;cases hval
          | some u=>rw[hq] at hval;simp only[Option.getD_some] at hval;rw[hval]
         have hwt:Region.wanted o (yielded ops a.tmps)=true:=by
          rw[oC (some want) (by rw[gX,hsome])]
          simp
         have vK:=aAB h hh vA (fun b hb=>by
          have:=hvs (!true || b) (List.mem_map.2 ⟨b,hb,rfl⟩)
          simpa using this)
         rw[hxs] at vK
         exact .inl (fin _ d st.cC lY hwt vK (fun hn=>hn hh))
        ·have hwt:Region.wanted o (yielded ops a.tmps)=false:=by
          by_cases hr:st.holds (st.nE tj)
          ·have hrel:=h.tm tj hr
           rw[hx] at hrel
           have hval:a.tmps.getD tj undef = .bool x:=hrel
           have hsome:a.tmps[tj]? = some (.bool x):=by
            rw[aO] at hval
            cases hq:a.tmps[tj]? with
            | none=>rw[hq] at hval;cases hval
            | some u=>rw[hq] at hval;simp only[Option.getD_some] at hval;rw[hval]
           rw[oC (some x) (by rw[gX,hsome])]
           have hne:x≠want:=by
            intro e
            subst e
            refine hh fun q hq=>?_
            rcases aY.1 hq with rfl | hq
            ·exact hx
            ·exact hr q hq
           simpa using hne
          ·have hun:=h.un tj hr
           have hnone:yielded ops a.tmps j=none:=by
            rw[gX]
            rw[aO] at hun
            cases hq:a.tmps[tj]? with
            | none=>rfl
            | some u =>
              rw[hq] at hun
              simp only[Option.getD_some] at hun
              rw[hun];rfl
           rw[oC none hnone]
           rfl
         refine .inr ⟨hwt,?_⟩
         cases ho:o.dst with
         | none=>exact h.aJW h.core (jL.refl _) (kK.refl _)
         | some t =>
           rw[ho] at lY
           simp only[Option.elim,aC,aW,aN] at lY
           obtain ⟨h1,h2,h3⟩:=lY
           refine h.put h.core (jL.refl _) (kK.refl _) h1 h2 (fun q hq e=>?_) (fun hn=>absurd hn hh) (fun _=>rfl)
           have:=h3 q (by simpa using hq)
           rw[e] at this
           simp at this
       ·cases he
theorem aE9 {ops:Array Oper} {rest:List Oper} {o:Oper} {a:Act} {Q:Exit→Act→World→Prop} {st dD:St} {vs:List Bool}
 (h:RR Γ S β a w n st) (he:mC P n ops o st=some (vs,dD)) (hvs:∀ b∈vs,b=true)
 (hk:∀ a' w' S' β',RR Γ S' β' a' w' n dD→wpList P ops Q rest a' w'):wpList P ops Q (o::rest) a w:=by
 rcases jF h he hvs with ⟨hw,v,w',S',β',hr,nF,_⟩ | ⟨hw,nF⟩
 ·simp only[wpList,hw,if_true]
  left
  have rY:=hk _ _ _ _ nF
  rcases hr with hr | ⟨hr,rfl⟩
  ·simp only[Oper.wp,Oper.upon,hr]
   exact rY
  ·simp only[Oper.wp,Oper.upon,hr]
   exact rY
 ·simp only[wpList,hw,aR,if_false]
  exact hk _ _ _ _ nF
theorem aAD {ops:Array Oper} {Q:Exit→Act→World→Prop} {rest:List Oper}:∀ {l:List Oper} {Γ:j6} {S:Mem} {β:dG} {a:Act} {w:World} {st dD:St} {vs:List Bool},
 RR Γ S β a w n st→iG P n ops l st=some (vs,dD)→(∀ b∈vs,b=true) →
 (∀ a' w' S' β',RR Γ S' β' a' w' n dD→wpList P ops Q rest a' w')→wpList P ops Q (l++rest) a w
 | [],_,_,_,_,_,_,_,_,h,he,_,hk=>by
   simp only[iG,aA,aI] at he
   obtain ⟨_,rfl⟩:=he
   exact hk _ _ _ _ h
 | o::l,_,_,_,_,_,_,_,_,h,he,hvs,hk=>by
   unfold iG at he
   split at he
   ·rename_i v st1 h1
    split at he
    ·rename_i vs2 oZ h2
     simp only[aA,aI] at he
     obtain ⟨rfl,rfl⟩:=he
     exact aE9 h h1 (fun b hb=>hvs b (List.mem_append_left _ hb)) fun a' w' S' β' h' =>
      aAD h' h2 (fun b hb=>hvs b (List.mem_append_right _ hb)) hk
    ·cases he
   ·cases he
end
end Go.Dl
