/- No conditions. -/
import Derived.Test.YtidjangjfekfjaaGreatDoorDC
import Derived.ChangeArms
import Derived.ChangeFn
import Derived.ChangeShapes
import Derived.RowKitTokens
import Derived.WalkKit
import Derived.ProofKit
import Derived.LaidHandle
import Derived.LaidLaws
import Derived.Lib.LaidTab
set_option linter.unusedVariables false
set_option linter.unusedSimpArgs false
set_option linter.unusedSectionVars false
set_option linter.constructorNameAsVariable false
namespace Go.Dl
open Go.ChangeShapes Go.RowKit
variable [fT]
def aE9 (w:World):Mem:=fun b i =>
 match w.cell? ⟨b,i,none⟩ with
 | some v=>if v.oneCell'=true then some v else none
 | none=>none
theorem aLz {w:World} {b i:Nat} {v:Value}:aE9 w b i=some v↔w.cell? ⟨b,i,none⟩=some v∧v.oneCell'=true:=by
 unfold aE9
 cases w.cell? ⟨b,i,none⟩ with
 | none=>simp
 | some u =>
   simp only[aF]
   split
   ·rename_i h
    simp only[aF]
    exact ⟨fun e=>by subst e;exact ⟨rfl,h⟩,fun e=>e.1⟩
   ·rename_i h
    simp only[reduceCtorEq,false_iff,not_and]
    rintro rfl h2
    exact h h2
theorem aIG (w:World):Holds (aE9 w) w:=fun b i v h=>aLz.1 h
theorem aMT {w:World} (hI:fT.I w):Core ⟨aE9 w,w,Mof qD [],qD⟩ (aE9 w) qD w [] :=
 ⟨⟨rfl,rfl,rfl,aR _,fun _ _ _=>rfl,fun _ _ _ _=>rfl,fun _ _ _ h=>h,fun b hb=>by
  obtain ⟨o,k,x,h1,h2⟩:=hb
  simp at h1,hI⟩,
  aIG w,fun o x h=>by simp at h,fun _ _=>rfl,fun o o' k k' x x' h=>by simp at h,fun o k x h=>by simp at h,fun o k x h=>by simp at h⟩
theorem cQ.aMU {P:Program} {f:FuncId} {args:List D} {m:Option Bool} (h:cQ P f args [] m (fun r=>.c (.val (.bool r))) (fun _=>[])) (hm:m=some true) {w:World} {vs:List Value} (hI:fT.I w) (hv:iY (aE9 w) qD args vs) :
 Calls P f vs.toArray w fun e w'=>e = .returned (.bool true)∧Below w.heap.size w w':=by
 refine (h _ _ w vs (aMT hI) hv true hm).mono fun e w' ⟨v,S',β',he,hd,_,hc⟩=>?_
 obtain rfl:v = .bool true:=hd
 refine ⟨he,hc.frame.os,hc.frame.tape,hc.frame.output,hc.frame.size,fun b hb=>hc.frame.block b hb ?_⟩
 rintro ⟨o,k,x,h1,h2⟩
 simp at h1
section
variable {H:Type} {enc:TypeId × Value→H} {P:Program} {w:World} {sp:Nat→Bool} {held:Bool}
def OpF (enc:TypeId × Value→H) (P:Program) (w:World) (sp:Nat→Bool) (held:Bool) (fuel:Nat) (t:TypeId) {T:Type} (cs:T→List C) (ok:T→Prop):Prop :=
 ∀ l x,DataW.trod enc P w 0 sp held fuel t l=some x→∃ y,ok y∧eT (aE9 w) qD (cs y) l∧∀ v∈l,v.oneCell'=true
theorem aTh {fuel:Nat} {t:TypeId} (ht:P.underlying t=some .string):OpF enc P w sp held fuel t (fun s:Bytes=>[.str s]) (fun s=>s.length≤maxLen):=by
 intro l x h
 obtain ⟨s,rfl,rfl,hs⟩:=DataW.trod_string ht h
 have hl:s.data.toList.length≤maxLen:=by
  have:s.data.toList.length=s.size:=by rw[Array.length_toList];rfl
  omega
 refine ⟨s.data.toList,hl,⟨_,_,rfl,⟨by cases s;simp,hl⟩,rfl⟩,fun v hv=>?_⟩
 simp only[aS] at hv;subst hv;rfl
theorem aTi {t:TypeId} {T:Type} {c:T→C} {ok:T→Prop} {v:Value} {d:DataW H} {ps:List MemPlace} (h:∀ n,OpF enc P w sp held n t (fun x=>[c x]) ok) (ha:DataW.Trod enc P w 0 sp held t v d ps) (h1:v.cells.toList=[v]) :
 ∃ x,ok x∧eI (aE9 w) qD (.c (c x)) v:=by
 obtain ⟨fuel,hf⟩:=ha
 obtain ⟨x,h2,⟨u,r,e,h4,_⟩,_⟩:=h fuel _ _ hf
 rw[h1] at e
 obtain ⟨rfl,_⟩:=List.cons.inj e
 exact ⟨x,h2,h4⟩
theorem aIH {b:Nat} {r:Reach} {t:TypeId} {v:Value} {d:DataW H} {ps:List MemPlace} (ht:P.underlying t=some .string) (hv:Value.okWide P w r b t v) (ha:DataW.Trod enc P w 0 sp held t v d ps) :
 ∃ s:Bytes,s.length≤maxLen∧eI (aE9 w) qD (.c (.str s)) v:=by
 obtain ⟨s,rfl⟩:=Go.WideShapes.okWide_string ht hv
 exact aTi (fun n=>aTh ht) ha rfl
end
open Go.WideShapes Go.ChangeAt in
theorem aDO {P:Program} {H:Type} {enc:TypeId × Value→H} {f:Func} {s:ChangeSpec} {apart fresh handsOn again:Bool} {W W':World} {args:Array Value} {v:Value} {ds gs:List (DataW H)} {before pa pv:List MemPlace}
 (hW:DataW.Whole enc P f.params.toList s.vars apart W args.toList ds gs before)
 (hres:∀ (b:Nat) (sp:Nat→Bool) (hd:Bool),DataW.TrodAll enc P W' b sp hd f.resultTypes.toList (v.resultList f.resultTypes.size) (s.fn H (ds++gs)).results [])
 (hargs:∀ sp:Nat→Bool,(∀ p∈before,sp p.block=true)→DataW.TrodAll enc P W' 0 sp true f.params.toList args.toList (s.fn H (ds++gs)).args pa)
 (hvars:∀ sp:Nat→Bool,(∀ p∈before,sp p.block=true)→DataW.TrodVars enc P W' sp s.vars (s.fn H (ds++gs)).vars pv)
 (hps:before=pa++pv) (hb:Below W.heap.size W W')
 (hok:∀ (j:Nat) (t:TypeId) (r:Value),f.resultTypes[j]? = some t→(v.resultList f.resultTypes.size)[j]? = some r→Value.okWide P W' .any 0 t r) :
 s.post enc P f apart fresh handsOn again W args v W':=by
 have hold:∀ p∈before,(fun b=>decide (b<W.heap.size)) p.block=true:=fun p hp=>by simpa using hW.lt p hp
 have hlt:=hW.lt
 refine ⟨ds,gs,before,[],pa,pv,hW,hres _ _ _,hargs _ hold,hvars _ hold,World.keptBut_mono (fun p hp=>⟨hp,?_⟩) (hb.frame (·∈before)),fun _=>?_⟩
 ·rw[hps,bH] at hp
  exact Or.inr hp
 ·obtain ⟨_,_,_,_,_,hz,hn⟩:=hW
  refine ⟨hok,_,_,([]++pa)++pv,⟨[]++pa,pv,trodAll_append (hargs _ (fun _ _=>rfl)) (hres _ _ _),hvars _ (fun _ _=>rfl),rfl,?_,?_⟩,?_⟩
  ·intro b off hp
   have hp':MemPlace.cell b off∈before:=by rw[hps];simpa using hp
   rw[hb.frozen (p:=⟨b,off,none⟩) (hlt _ hp')]
   exact hz b off hp'
  ·intro ha
   have:=hn ha
   rw[hps] at this
   simpa using this
  ·intro p hp _
   rw[hps]
   simpa using hp
end Go.Dl

namespace Go.Dl
open Go.RowKit
def aTj:Lit→Value
 | .bool b=>.bool b
 | .int k n=>.int k n
 | .string bs=>.string ⟨bs.toArray⟩
 | _=>undef
def aQu (P:Program) (nm:String→TypeId):Nat→TypeId→DataW Unit→Array Go.Obj→List Value × Array Go.Obj
 | 0,_,_,h=>([],h)
 | n+1,t,d,h =>
   let many:=fun (ts:List TypeId) (ds:List (DataW Unit)) (h:Array Go.Obj)=>(ts.zip ds).foldl (fun (acc:List Value × Array Go.Obj) x=>match aQu P nm n x.1 x.2 acc.2 with
    | (cs,h')=>(acc.1++cs,h')) ([],h)
   match d,P.underlying t with
   | .lit l,_=>([aTj l],h)
   | .nil,some (.slice _)=>([.slice none 0 0],h)
   | .nil,some (.map _ _)=>([.map none],h)
   | .nil,some (.interface _)=>([.nilIface],h)
   | .nil,some (.func _ _ _)=>([.nilFunc],h)
   | .nil,_=>([.pointer none],h)
   | .ptr d,some (.pointer e)=>(match aQu P nm n e d h with
     | (cs,h')=>([.pointer (some ⟨h'.size,0,none⟩)],h'.push (.cells cs.toArray e (0,0))))
   | .slice es _,some (.slice e)=>(match many (es.map fun _=>e) es h with
     | (cs,h')=>([.slice (some ⟨h'.size,0,none⟩) es.length es.length],h'.push (.cells cs.toArray e (0,0))))
   | .agg ds,some (.struct fs)=>many (fs.toList.map (·.type)) ds h
   | .agg ds,some (.array _ e)=>many (ds.map fun _=>e) ds h
   | .iface s (.agg [.ptr (.lit (.string x))]),some (.interface _)=>(match String.fromUTF8? ⟨x.toArray⟩ with
     | some name=>([.iface (nm s) (.agg #[typeHandle P (nm name)])],h)
     | none=>([],h))
   | .iface s d,some (.interface _)=>(match aQu P nm n (nm s) d h with
     | (cs,h')=>([.iface (nm s) (match cs with | [v]=>v | _=>.agg cs.toArray)],h'))
   | _,_=>([],h)
def aVX (l:List Value):Go.Obj→Go.Obj
 | .cells _ t frozen=>.cells l.toArray t frozen
 | o=>o
def aII (P:Program) (nm:String→TypeId):List (String × DataW Unit)→Array Go.Obj→Array Go.Obj
 | [],h=>h
 | (n,d)::r,h=>match P.globalNamed n with
   | some g=>(match aQu P nm 12 (((P.globals[g]?).map (·.type)).getD 0) d h with
     | (cs,h')=>aII P nm r (h'.modify g (aVX cs)))
   | none=>aII P nm r h
noncomputable def aMV (P:Program) (nm:String→TypeId) (l:List (String × DataW Unit)) (os:Os):World :=
 { World.holding P os ⟨#[],#[],[]⟩ with heap:=aII P nm l (World.holding P os ⟨#[],#[],[]⟩).heap }
theorem tG {P:Program} {w:World}:∀ {l:List (String × DataW Unit)} {ps:List MemPlace} {n:String} {d:DataW Unit},DataW.LaidVars P w l ps→(n,d)∈l →
 ∃ g t cs fuel p,P.globalNamed n=some g∧(P.globals[g]?).map (·.type)=some t∧w.var? P n=some cs∧DataW.trod (fun _=>()) P w 0 (fun _=>true) false fuel t cs.toList=some (d,p)∧∀ x∈MemPlace.row ⟨g,0,none⟩ cs.size++p,x∈ps
 | [],_,_,_,_,h=>by cases h
 | (n',d')::r,ps,n,d,hl,h=>by
   obtain ⟨g,t,cs,fuel,p,q,h1,h2,h3,h4,h5,rfl⟩:=hl
   rcases aT.1 h with h | h
   ·cases h
    exact ⟨g,t,cs,fuel,p,h1,h2,h3,h4,fun x hx=>bO _ hx⟩
   ·obtain ⟨g',t',cs',fuel',p',k1,k2,k3,k4,k5⟩:=tG h5 h
    exact ⟨g',t',cs',fuel',p',k1,k2,k3,k4,fun x hx=>List.mem_append_right _ (k5 x hx)⟩
theorem aCo {P:Program} {w:World} {l:List (String × DataW Unit)} {x:String × DataW Unit} {name:List UInt8} {g u ty:Nat} (h:laidMetH P l w) (hx:x∈l.filter fun x=>x.2.handleName?.isSome) (hf:x.2.funcsIn? = none) (hn:x.2.handleName? = some name)
 (hu:(P.cutTypes.find? (·.1 == "internal/reflectlite.rtype")).map (·.2)=some u) (hone:((List.range P.types.size).filter fun t=>P.rowNamed t name)=[ty]) (hg:P.globalNamed x.1=some g) :
 w.cell? ⟨g,0,none⟩=some (.iface u (.agg #[typeHandle P ty])):=by
 have h':handlesMet P (l.filter fun x=>x.2.handleName?.isSome) w:=by
  unfold laidMetH at h
  generalize (l.filter fun x=>x.2.handleName?.isSome)=fl at *
  cases fl with
  | nil=>cases hx
  | cons a r=>exact h.2
 have h2:=h' x hx
 rw[hf] at h2
 obtain ⟨name',u',ty',e1,e2,e3,e4,e5⟩:=h2
 obtain rfl:=Option.some.inj (hn.symm.trans e1)
 obtain rfl:=Option.some.inj (hu.symm.trans e2)
 have hm:ty'∈(List.range P.types.size).filter fun t=>P.rowNamed t name:=List.mem_filter.2 ⟨List.mem_range.2 e3,e4⟩
 rw[hone] at hm
 obtain rfl:=aS.1 hm
 have:=World.var?_cell hg e5 0
 simpa using this
theorem aDP {P:Program} {w:World} {l:List (String × DataW Unit)} (h:laidMetH P l w):laidMet P (l.filter fun x=>x.2.handleName?.isNone) w:=by
 unfold laidMetH at h
 generalize hfl:(l.filter fun x=>x.2.handleName?.isSome)=fl at h
 cases fl with
 | nil =>
   have e:(l.filter fun x=>x.2.handleName?.isNone)=l:=by
    rw[List.filter_eq_self]
    intro x hx
    have:=(List.filter_eq_nil_iff.1 hfl) x hx
    cases hn:x.2.handleName? with
    | none=>rfl
    | some s=>rw[hn] at this;exact absurd rfl this
   rw[e]
   exact h
 | cons a as=>exact h.1
theorem xA {P:Program} {w:World} {l:List (String × DataW Unit)} {name nm:String} {d:DataW Unit} {g:Nat} {t:TypeId} {ms:Array (String × TypeId)} (h:laidMet P l w) (hm:(name,.iface nm d)∈l)
 (hg:P.globalNamed name=some g) (hty:(P.globals[g]?).map (·.type)=some t) (ht:P.underlying t=some (.interface ms)):∃ ev,w.cell? ⟨g,0,none⟩=some ev∧(ev = .nilIface∨∃ te pe,ev = .iface te pe):=by
 obtain ⟨ps,h1,_,h3⟩:=h
 obtain ⟨g',t',cs,fuel,p,k1,k2,k3,k4,k5⟩:=tG h1 hm
 obtain rfl:=Option.some.inj (hg.symm.trans k1)
 obtain rfl:=Option.some.inj (hty.symm.trans k2)
 obtain ⟨f,u,v,e,_,_⟩:=iface_of_trod ht k4
 refine ⟨.iface u v,?_,.inr ⟨u,v,rfl⟩⟩
 have:=World.var?_cell hg k3 0
 rw[this]
 have:cs = #[.iface u v]:=by cases cs;simp_all
 rw[this];rfl
theorem xB {P:Program} {w:World} {l:List (String × DataW Unit)} {name:String} {k:IntKind} {zs:List Int} {g:Nat} {t e:TypeId} {n:Nat} (h:laidMet P l w) (hm:(name,Lib.tabData k zs)∈l)
 (hg:P.globalNamed name=some g) (hty:(P.globals[g]?).map (·.type)=some t) (ht:P.underlying t=some (.array n e)) (he:P.underlying e=some (.int k)) (hce:P.cellsOf e=1) (hct:P.cellsOf t=n):Lib.TabIs P w name k zs:=by
 obtain ⟨ps,h1,_,h3⟩:=h
 obtain ⟨g',t',cs,fuel,p,k1,k2,k3,k4,k5⟩:=tG h1 hm
 obtain rfl:=Option.some.inj (hg.symm.trans k1)
 obtain rfl:=Option.some.inj (hty.symm.trans k2)
 have e1:=Lib.cells_of_tab ht he hce hct k4
 unfold Lib.TabIs
 rw[k3,← e1]
theorem aDQ {P:Program} {w:World} {g:Nat} {t:TypeId} {k:IntKind} (h:w.ShapedOpen P) (hz:((begin P (fun _ _=>0) default).world.heap[g]?).bind Obj.row? = some (#[.int k 0],t)) (ht:P.underlying t=some (.int k))
 (hc:P.cellTypes P.depth t=some [t]) (hb:P.buildable t=true) (hgs:g<P.globals.size):∃ m,w.cell? ⟨g,0,none⟩=some (.int k m):=by
 obtain ⟨cs,hh,hs,hr⟩:=h.1 g _ t hgs hz
 obtain ⟨ts,hts,_,oY⟩:=hr hb
 rw[hc] at hts
 cases hts
 have hs1:cs.size=1:=hs
 have h1:0<cs.size:=by omega
 obtain ⟨u,hu',hok⟩:=oY 0 cs[0] (by simp [h1])
 obtain rfl:u=t:=by simpa using hu'.symm
 have e:∃ m,cs[0] = .int k m:=by
  unfold Cell.ok at hok
  rw[ht] at hok
  cases hv:cs[0] <;> rw[hv] at hok <;> first | (simp at hok;done) | (simp only[aK,bQ,beq_iff_eq] at hok;first | (obtain ⟨rfl,_⟩:=hok;exact ⟨_,rfl⟩) | (obtain ⟨e1,_⟩:=hok;subst e1;exact ⟨_,rfl⟩) | (subst hok;exact ⟨_,rfl⟩) | (exact ⟨_,by rw[hok]⟩))
 obtain ⟨m,e⟩:=e
 refine ⟨m,?_⟩
 unfold World.cell?
 rw[hh]
 show cs[0]? = _
 rw[Array.getElem?_eq_getElem h1,e]
end Go.Dl

namespace Go.Dl
open Go.ChangeShapes Go.RowKit
variable [fT]
structure a09 {H:Type} (b:DataW H→Nat):Prop where
 one:∀ d,1≤b d
 str:∀ s:List UInt8,s.length+1≤b (.lit (.string s))
 agg:∀ l,(l.map b).sum+1≤b (.agg l)
 slice:∀ l r,(l.map b).sum+1≤b (.slice l r)
section
variable {H:Type} {b:DataW H→Nat} {enc:TypeId × Value→H} {P:Program} {w:World} {sp:Nat→Bool} {held:Bool}
end
end Go.Dl
