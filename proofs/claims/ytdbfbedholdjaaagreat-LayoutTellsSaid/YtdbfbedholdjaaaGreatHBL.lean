/- No conditions. -/
import Derived.Test.YtdbfbedholdjaaaGreatHLA
import Derived.Test.YtdbfbedholdjaaaGreatProg
import Derived.RangeFuncBox
import Derived.RangeFuncWrites
import Derived.RangeFuncLeaves
import Derived.Shelf.Abstract
import Derived.WalkKit
import Derived.OwnWalkIn
import Derived.TacticsInMore
import Derived.LoopNIn
import Derived.LoopIn
import Derived.Test.YtdbfbedholdjaaaGreatHLH
import Derived.Test.YtdbfbedholdjaaaGreatHDE
set_option linter.unusedVariables false
set_option linter.unusedSimpArgs false
set_option linter.unusedSectionVars false
namespace Go.Proofs.YtdbfbedholdjaaaGreat
open Go Go.Proofs Go.RowKit Go.Shelf
attribute [local go_sem] Oper.semAt_some
set_option maxRecDepth 100000 in
set_option maxHeartbeats 2000000 in
theorem bk.aSm {α:Type} (F:Fence) (n:Nat) (h8:F.fn 132) (hro:F.round=none) (hn:1≤n) (l Bs o cap:Nat) (ad:Option Addr) (zs:List Int) (a4J:zs.length≤1000000000000) (K0:World→Prop)
 (hK:∀ W,K0 W→W.cell? ⟨Bs,o,none⟩=some (.slice ad zs.length cap))
 (hA:0<zs.length→∃ b off,ad=some ⟨b,off,none⟩∧∀ W,K0 W→∀ j,j<zs.length→W.cell? ⟨b,off+j,none⟩=some (.int .i64 (zs[j]?.getD 0)))
 (encs:α→Array Value) (ys:List α) (hlen:ys.length=zs.length) (hys:∀ k (h:k<ys.length),encs ys[k] = #[.int .i64 ((zs.length:Int) - 1 - k),.int .i64 (zs[zs.length - 1 - k]?.getD 0)]) (J Jx:List α→World→Prop)
 (hY:∀ pre x W,J pre W→pre.length<zs.length→YieldAt F (n - 1) Tryz.prog l (encs x) W fun e W' =>
  (e = .returned (.bool true)∧J (pre++[x]) W'∧(K0 W→K0 W'))∨(e = .returned (.bool false)∧Jx (pre++[x]) W'))
 (W:World) (hW:K0 W) (h0:J [] W) :
 CallsIn F n Tryz.prog 132 #[.func (.yield l) #[] #[],.pointer (some ⟨Bs,o,none⟩)] W fun e W'=>(∃ v,e = .returned v) ∧
  (J ys W'∨∃ pre,Jx pre W'):=by
 refine callsIn_of_wp Tryz.func132 rfl h8 ?_ hro
 simp only[Tryz.ntmps132,List.size_toArray,List.length_cons,List.length_nil,Nat.reduceAdd,Nat.reduceSub,Array.replicate_succ,Array.replicate_zero,List.push_toArray,List.append_toArray,List.nil_append,List.cons_append]
 have hBs:=hK W hW
 gi_wp2
 gi_loopw [3] (fun i wr=>∃ k:Nat,k≤zs.length∧i = .int .i64 ((zs.length:Int) - 1 - k)∧J (ys.take k) wr∧K0 wr)
  (fun i _=>(intOf i+1).toNat)
 case atStart=>exact ⟨0,Nat.zero_le _,by simp,by rw[List.take_zero];exact h0,hW⟩
 case round =>
  obtain ⟨k,hk,rfl,hJs,hnx⟩:=hrel
  have hBx:=hK wr hnx
  by_cases hlt:k<zs.length
  ·obtain ⟨b,off,rfl,hcx⟩:=hA (by omega)
   obtain ⟨fn,tmps,assign,body,hy,hR⟩:=hY _ (ys[k]'(by omega)) wr hJs (by rw[aK];omega)
   rw[hys k (by omega)] at hy
   have a7B:=hcx wr hnx (zs.length - 1 - k) (by omega)
   have e1:(zs.length:Int) - 1 - k=((zs.length - 1 - k:Nat):Int):=by omega
   rw[e1] at hy ⊢
   gi_wp2
   refine hR.mono ?_
   rintro e W3 (⟨rfl,hJ3,hk3⟩ | ⟨rfl,a4M⟩)
   ·gi_wp2
    go_roundw
    case rel=>exact ⟨k+1,by omega,by first | omega | (congr 1;omega) | (simp;omega),by rw[← List.take_append_getElem (by omega)];exact hJ3,hk3 hnx⟩
    case measure=>(simp [intOf] <;> omega)
   ·gi_wp2
    refine bodyPost_ret (results_none rfl _ _ _) rfl ?_
    exact ⟨⟨_,rfl⟩,.inr ⟨_,a4M⟩⟩
  ·obtain rfl:k=zs.length:=by omega
   gi_wp2
   go_end0
   exact ⟨⟨_,rfl⟩,.inl (by rw[← hlen,bD] at hJs;exact hJs)⟩
set_option maxHeartbeats 1000000 in
theorem bk.call (a:Option Addr) (len cap:Nat) (w:World) :
 Calls Tryz.prog 94 #[.slice a len cap] w fun e w'=>e = .returned (.func (.func 132) #[] #[.pointer (some ⟨w.heap.size,0,none⟩)])∧w'=w.alloc (.cells #[.slice a len cap] 45):=by
 go_enter Tryz.func94,Tryz.ntmps94
 go_wp2
 go_ret
 exact ⟨rfl,rfl⟩
end Go.Proofs.YtdbfbedholdjaaaGreat

namespace Go.Proofs.YtdbfbedholdjaaaGreat
open Go Go.Proofs Go.Dl Go.RowKit
variable [dO]
set_option maxRecDepth 100000
set_option maxHeartbeats 4000000
theorem bl.core {S:Mem} {β:dG} {w:World} {ty:TypeId} {l:List Value} (hc:Core ⟨S,w,uG β [],β⟩ S β w []) (hone:∀ v∈l,v.oneCell'=true) :
 jL S (Go.Dl.aIq S w.heap.size l)∧Core ⟨S,w,uG β [],β⟩ (Go.Dl.aIq S w.heap.size l) β (w.alloc (.cells l.toArray ty)) []:=by
 have hnone:∀ i,S w.heap.size i=none:=by
  intro i
  cases hs:S w.heap.size i with
  | none=>rfl
  | some v =>
    have:=hc.holds.lt (b:=w.heap.size) (i:=i) (by simp [hs])
    omega
 have hle:jL S (Go.Dl.aIq S w.heap.size l):=by
  intro b i v hv
  unfold Go.Dl.aIq
  by_cases hb:b=w.heap.size
  ·subst hb;rw[hnone] at hv;cases hv
  ·rw[aD hb];exact hv
 have hold:∀ b,b<w.heap.size→(w.alloc (.cells l.toArray ty)).heap[b]? = w.heap[b]?:=fun b hb=>Below.heap_alloc w _ b hb
 have pP:(w.alloc (.cells l.toArray ty)).heap[w.heap.size]? = some (.cells l.toArray ty (0,0)):=World.alloc_heap_new w _
 refine ⟨hle,⟨rfl,rfl,rfl,by simp,fun b hb _=>hold b hb,fun b i hb _=>?_,hle,hc.frame.aDS,hc.frame.inv⟩,?_,fun o x hx=>by simp at hx,hc.out,fun o o' k k' x x' hx=>by simp at hx,fun o k x hx=>by simp at hx,fun o k x hx=>by simp at hx⟩
 ·unfold Go.Dl.aIq
  have:b<w.heap.size:=hb
  rw[aD (by omega)]
 ·intro b i v hv
  unfold Go.Dl.aIq at hv
  by_cases hb:b=w.heap.size
  ·subst hb
   rw[aE rfl] at hv
   exact ⟨by rw[cell_of_heap pP,List.getElem?_toArray];exact hv,hone v (bL hv)⟩
  ·rw[aD hb] at hv
   obtain ⟨h1,h2⟩:=hc.holds b i v hv
   refine ⟨?_,h2⟩
   have hlt:=hc.holds.lt (b:=b) (i:=i) (by simp [hv])
   have:(w.alloc (.cells l.toArray ty)).cell? ⟨b,i,none⟩=w.cell? ⟨b,i,none⟩:=World.cell?_of_block (w:=w) (hold b hlt)
   rw[this];exact h1
abbrev bl.fn (l:List Int):C:=.func (.func 132) 1 fun i=>([.nP 1 (fun _=>E3.tree l) 0]:List C).getD i .bot
theorem aNk (a0:List Int):bV Tryz.prog 94 [.c (E3.tree a0)] [] (some a0) (fun r=>.c (bl.fn r)) (fun _=>[]):=by
 intro S β w vs hc hv r hr
 cases hr
 obtain ⟨v0,r0,rfl,h0,rfl⟩:=hv
 have h0':=h0
 obtain ⟨ad,cap,rfl,h1⟩:=h0
 obtain ⟨hle,fL⟩:=bl.core (ty:=45) (l:=[.slice ad a0.length cap]) hc (by simp [Value.oneCell'])
 refine (bk.call ad a0.length cap w).mono fun e w' ⟨he,j8⟩=>⟨_,_,β,he,?_,fun o k ho _=>by simp at ho,j8 ▸ fL⟩
 refine ⟨#[.pointer (some ⟨w.heap.size,0,none⟩)],rfl,rfl,fun i hi=>?_⟩
 obtain rfl:i=0:=by omega
 refine ⟨w.heap.size,0,rfl,fun j hj=>?_⟩
 obtain rfl:j=0:=by omega
 refine ⟨_,?_,cV.mono hle _ _ _ h0'⟩
 simp [Go.Dl.aIq]
theorem bl.cells {Γ:j6} {S:Mem} {β:dG} {w:World} {xs:List Go.Dl.Obj} (h:Core Γ S β w xs) (hx:xs.all aEs=true) {b:Nat} (hb:uG β xs b):∃ o:Go.Obj,w.heap[b]? = some o∧o.isCells=true:=by
 obtain ⟨o,k,x,ho,hl,hk,rfl⟩:=hb
 have hh:=h.cC o x ho
 have hn:aEs x=true:=aN.1 hx x (bL ho)
 cases x with
 | dead=>cases hl
 | cells l =>
   obtain ⟨k',h1,h2,h3,h4,vs,h5,h6⟩:=hh
   rw[hk] at h1;cases h1
   exact ⟨_,h5,rfl⟩
 | row e wd n get =>
   rcases hh with ⟨h1,_⟩ | ⟨k',h1,h2,h3,h4,h5,h6,cur,h7,h8⟩
   ·rw[hk] at h1;cases h1
   ·rw[hk] at h1;cases h1
    exact ⟨_,h7,rfl⟩
 | aA5 e bs =>
   obtain ⟨k',h1,h2,h3,h4,h5,h6,cur,fz,h7,h8⟩:=hh
   rw[hk] at h1;cases h1
   exact ⟨_,h7,rfl⟩
 | map z has get=>cases hn
theorem bl.p8 (l:Array Value) (i j:Nat) (v:Value) (h:j≠i):(l.setIfInBounds i v).getD j undef=l.getD j undef:=by
 simp only[aO,Array.getElem?_setIfInBounds_ne (Ne.symm h)]
theorem bl.aEt (l:Array Value) (i:Nat) (v:Value) (h:i<l.size):(l.setIfInBounds i v).getD i undef=v:=by
 simp [aO,h]
theorem bl.zip (l:Array Value) (p0 p1:Tmp) (u v:Value):(#[p0,p1].zip #[u,v]).foldl (fun t (p,v)=>t.setIfInBounds p v) l=(l.setIfInBounds p0 u).setIfInBounds p1 v:=by simp
def bl.act (a:Act) (p0 p1:Tmp) (i x:Int):Act:={ tmps:=((a.tmps.setIfInBounds p0 (.int .i64 i)).setIfInBounds p1 (.int .i64 x)).setIfInBounds 7 (.int .i64 x),defers:=[] }
theorem bl.range {n:Nat} {Γ:j6} {S:Mem} {β:dG} {a:Act} {w:World} {st:St} (hr:RR Γ S β a w n st) (g p0 p1:Tmp) (zs:List Int) (V:Int→Prop) (xs:List Int→List Go.Dl.Obj)
 (hg:st.get g = .c (bl.fn zs)) (hgg:st.nE g=[]) (hz:zs.length≤1000000000000) (hV:∀ z∈zs,V z)
 (hp:p0<n∧p1<n∧7<n∧p0≠p1∧p0≠2∧p0≠5∧p1≠2∧p1≠5)
 (hx0:xs []=st.cC) (hxm:∀ pre,(xs pre).all aEs=true) (hxl:∀ pre,2≤(xs pre).length)
 (h2:st.get 2 = .c (.ptr 0 0 0)∧st.nE 2=[]) (h5:st.get 5 = .c (.ptr 1 0 0)∧st.nE 5=[]) {id:Nat} {pos:String} {body:Code}
 (hbody:∀ pre x,V x→pre.length<zs.length→fO Tryz.prog n body ⟨[(2,.c (.ptr 0 0 0)),(5,.c (.ptr 1 0 0)),(7,.c (.val (.int .i64 x)))],xs pre,[],2⟩ (some (.inr ())) (fun _:Unit=>⟨[],xs (pre++[x]),[],2⟩) (fun e:Empty=>(.ret,Empty.elim e)))
 {Q:Exit→Act→World→Prop}
 (hQ:∀ D W S' β',Γ.w.heap.size≤D→W.heap[D]? = some (.deferred (some []))→RR Γ S' β' a W n ⟨[(2,.c (.ptr 0 0 0)),(5,.c (.ptr 1 0 0))],xs zs.reverse,[],0⟩→Q .normal { a with defers:=[{ target:=.collected D,args:=#[] }] } W) :
 (Code.rangeFunc (.tmp g) #[p0,p1] (.region id #[⟨some 7,.assign (.tmp p1),3,pos,#[],none⟩] false) body).wp Tryz.prog Q a w:=by
 obtain ⟨hp0,hp1,hp7,a7F,a4N,a4O,a4P,a4Q⟩:=hp
 have hh:∀ {t:Tmp} {d:D},st.get t=d→st.nE t=[]→dR S β d (a.tmps.getD t undef):=fun h1 h2=>h1 ▸ hr.tm _ (by rw[h2];intro q hq;cases hq)
 obtain ⟨vs,hgv,hvs,hcap⟩:=hh hg hgg
 obtain ⟨bb,off,hv0,hrow⟩:=hcap 0 (by omega)
 obtain ⟨u,hu,hut⟩:=hrow 0 (by omega)
 obtain ⟨ad,cap,rfl,rB,hcm,iT⟩:=hut
 have a4R:vs = #[.pointer (some ⟨bb,off,none⟩)]:=by
  apply Array.ext
  ·simp [hvs]
  ·intro i h1 h2
   obtain rfl:i=0:=by omega
   simp only[aO,Array.getElem?_eq_getElem h1,Option.getD_some,Nat.add_zero] at hv0
   simpa using hv0
 subst a4R
 let encs:{p:Int × Int // V p.2}→Array Value:=fun p=>#[.int .i64 p.1.1,.int .i64 p.1.2]
 let ys:List {p:Int × Int // V p.2}:=List.ofFn fun j:Fin zs.length=>⟨((zs.length:Int) - 1 - (j:Nat),zs[zs.length - 1 - j]'(by omega)),hV _ (List.getElem_mem _)⟩
 have hys:ys.map (fun p=>p.1.2)=zs.reverse:=by
  apply List.ext_getElem
  ·simp [ys]
  ·intro i h1 h2
   simp [ys]
 have hwK:∀ W,Below w.heap.size w W→Holds S W:=fun W hW b i v hs=>by
  obtain ⟨h1,h2⟩:=hr.core.holds b i v hs
  exact ⟨(hW.cell (p:=⟨b,i,none⟩) (hr.core.holds.lt (b:=b) (i:=i) (by simp [hs]))).trans h1,h2⟩
 have seq:SeqStopsK Fence.wide 8 Tryz.prog 132 #[.pointer (some ⟨bb,off,none⟩)] encs (fun A B=>Holds S A→Holds S B) (fun l=>l=ys) (fun _=>True) zs.length w:=fun l J Jx W hW hJ hJx hY h0=>by
  refine (bk.aSm Fence.wide 8 trivial rfl (by omega) l bb off cap ad zs hz (Holds S) (fun W hK=>?_) (fun h0=>?_) encs ys (by simp [ys]) (fun k hk=>?_) J Jx hY W (hwK W hW) h0).mono ?_
  ·have:=(hK _ _ _ hu).1
   rw[Nat.add_zero] at this;exact this
  ·rcases iT with iT | ⟨b,off',hb,hc⟩
   ·omega
   ·refine ⟨b,off',hb,fun W hK j hj=>?_⟩
    obtain ⟨v,hv,hvr⟩:=hc j 0 hj (by show 0<E3.w;decide)
    have:=(hK _ _ _ hv).1
    have e:off'+j * E3.w+0=off'+j:=by show off'+j * 1+0=_;omega
    rw[e] at this
    rw[this]
    have a4S:v = .int .i64 (zs.getD j 0):=hvr
    rw[a4S];simp [List.getD]
  ·have hk':k<zs.length:=by simpa [ys] using hk
   simp only[encs,ys,List.getElem_ofFn]
   rw[aF (by omega)];rfl
  ·rintro e W' ⟨h1,h2 | ⟨pre,h2⟩⟩
   ·exact ⟨h1,.inl ⟨_,rfl,h2⟩⟩
   ·exact ⟨h1,.inr ⟨pre,trivial,h2⟩⟩
 have hq:∀ {S':Mem} {β':dG} {tm:Array Value} (ts:List (Nat × D)),(∀ o k,o<2→β o=some k→β' o=some k)→tm.getD 2 undef=a.tmps.getD 2 undef→tm.getD 5 undef=a.tmps.getD 5 undef→(∀ t,dR S' β' (dK (.c .bot) ts t) (tm.getD t undef)) →
  ∀ t,dR S' β' (dK (.c .bot) ((2,.c (.ptr 0 0 0))::(5,.c (.ptr 1 0 0))::ts) t) (tm.getD t undef):=by
  intro S' β' tm ts hb e2 e5 hts t
  unfold dK
  cases h:Nat.beq 2 t with
  | true =>
    obtain rfl:=aH h
    rw[e2]
    obtain ⟨k,hk,hr'⟩:=hh h2.1 h2.2
    exact ⟨k,hb 0 _ (by omega) hk,hr'⟩
  | false =>
    rw[cond_false]
    unfold dK
    cases h:Nat.beq 5 t with
    | true =>
      obtain rfl:=aH h
      rw[e5]
      obtain ⟨k,hk,hr'⟩:=hh h5.1 h5.2
      exact ⟨k,hb 1 _ (by omega) hk,hr'⟩
    | false=>exact hts t
 have hge:a.eval (.tmp g) = .func (.func 132) #[] #[.pointer (some ⟨bb,off,none⟩)]:=hgv
 refine (wpIn_wide (n:=9)).1 (wpIn_rangeFunc_ownG rfl (by omega) (gf:=132) hge trivial (enters_of Tryz.func132 (by kernel_rfl) rfl) seq (fun h k x=>k (h x))
  (fun W l o o' _ hl hc _ hS b i v hs=>⟨cell_kept (hS b i v hs).1 (grownBy_putObj' W l o') (fun r e=>by cases e;exact ⟨o,hl,hc⟩),(hS b i v hs).2⟩) (Below.refl _ _) (fun _=>rfl)
  (fun pre W=>∃ S' β',Core Γ S' β' W (xs (pre.map fun p=>p.1.2))∧jL S S'∧∀ o k,o<2→β o=some k→β' o=some k) (fun _ _ _=>False)
  (fun s W W' row hs hg hrow=>by
   obtain ⟨S',β',hc,hm,hb⟩:=hs
   exact ⟨S',β',hc.grown (hxm _) hg (fun r e=>⟨aS hr.core.frame.size (hrow r e).1,(hrow r e).2⟩),hm,hb⟩) (fun _ _ _ _ _ h=>h.elim)
  ⟨S,β,by show Core Γ S β w (xs []);rw[hx0];exact hr.core,jL.refl _,fun o k _ h=>h⟩ (fun x=>bl.act a p0 p1 x.1.1 x.1.2) ?assign ?body ?done ?stop)
 case stop=>intro D c pre W _ _ h _;exact h.elim
 case done =>
  rintro D ys' W hD rfl ⟨S',β',hc,hm,hb⟩ hK
  rw[hr.defers]
  rw[hys] at hc
  exact hQ D W S' β' (aS hr.core.frame.size hD) hK ⟨hc,fun t _=>hq [] hb rfl rfl (fun t=>trivial) t,fun t ht=>absurd (fun q hq=>by cases hq) ht,hr.size,hr.defers,fun o k h=>by cases h⟩
 case assign =>
  intro l x W K hK
  refine wpIn_region_list ?_
  have he:({ tmps:=((a.tmps.setIfInBounds p0 (.int .i64 x.1.1)).setIfInBounds p1 (.int .i64 x.1.2)),defers:=[] }:Act).eval (.tmp p1) = .int .i64 x.1.2:=bl.aEt _ _ _ (by rw[Array.size_setIfInBounds,hr.size];exact hp1)
  rw[show (#[p0,p1].zip (encs x)) = #[p0,p1].zip #[.int .i64 x.1.1,.int .i64 x.1.2] from rfl,bl.zip]
  show wpListIn _ _ _ _ _ [_] { tmps:=((a.tmps.setIfInBounds p0 (.int .i64 x.1.1)).setIfInBounds p1 (.int .i64 x.1.2)),defers:=[] } W
  refine wpListIn_plain rfl fun K' hK'=>⟨fun f _=>trivial,?_⟩
  have hrun:((⟨some 7,.assign (.tmp p1),3,pos,#[],none⟩:Oper).semAt (Fence.wide.inRound l).round ({ tmps:=((a.tmps.setIfInBounds p0 (.int .i64 x.1.1)).setIfInBounds p1 (.int .i64 x.1.2)),defers:=[] }:Act).eval).run Tryz.prog W = .ok (.value (.int .i64 x.1.2)) W:=by
   generalize ({ tmps:=((a.tmps.setIfInBounds p0 (.int .i64 x.1.1)).setIfInBounds p1 (.int .i64 x.1.2)),defers:=[] }:Act)=A at he ⊢
   rw[← he];rfl
  rw[hrun]
  refine hK' _ _ ?_
  exact hK
 case body =>
  rintro l pre x W ⟨S',β',hc,hm,hb⟩ hlen
  have fL:=hc.aNl
  refine wpIn_mono (hbody (pre.map fun p=>p.1.2) x.1.2 x.2 (by simpa using hlen) l (9 - 1 - 1) _ S' β' (bl.act a p0 p1 x.1.1 x.1.2) W ⟨fL,fun t _=>?_,fun t ht=>absurd (fun q hq=>by cases hq) ht,by simp [bl.act,hr.size],rfl,fun o k _ h=>h⟩ (.inr ()) rfl) fun e a' W' he=>?_
  ·have e2:(bl.act a p0 p1 x.1.1 x.1.2).tmps.getD 2 undef=a.tmps.getD 2 undef:=by
    unfold bl.act
    rw[bl.p8 _ _ _ _ (by decide),bl.p8 _ _ _ _ (Ne.symm a4P),bl.p8 _ _ _ _ (Ne.symm a4N)]
   have e5:(bl.act a p0 p1 x.1.1 x.1.2).tmps.getD 5 undef=a.tmps.getD 5 undef:=by
    unfold bl.act
    rw[bl.p8 _ _ _ _ (by decide),bl.p8 _ _ _ _ (Ne.symm a4Q),bl.p8 _ _ _ _ (Ne.symm a4O)]
   refine hq [(7,.c (.val (.int .i64 x.1.2)))] hb e2 e5 (fun t=>?_) t
   unfold dK
   cases h:Nat.beq 7 t with
   | true =>
     obtain rfl:=aH h
     exact bl.aEt _ _ _ (by simp [hr.size,hp7])
   | false=>trivial
  ·obtain ⟨rfl,S'',β'',aLC⟩:=he
   have hle:jL S' S'':=aLC.core.frame.le
   refine ⟨⟨aLC.core.frame.size,fun k o hk ho rB=>?_⟩,fun _ b i v hs=>aLC.core.holds b i v (hle _ _ _ (hm _ _ _ hs)),S'',β'',?_,hm.trans hle,fun o k ho hk=>aLC.hand o k ho (hb o k ho hk)⟩
   ·refine (aLC.core.frame.block k (Array.getElem?_eq_some_iff.1 ho).1 fun hM=>?_).trans ho
    obtain ⟨o',ho',hc'⟩:=bl.cells hc (hxm _) hM
    have ho2:W.heap[k]? = some o:=ho
    rw[ho2] at ho';cases ho';rw[rB] at hc';cases hc'
   ·rw[bK]
    exact hc.aNm aLC.core
theorem bl.fin {n:Nat} {Γ:j6} {S:Mem} {β:dG} {a:Act} {w:World} {st:St} (hr:RR Γ S β a w n st) (hxm:st.cC.all aEs=true) (hh:st.h=0) (ds:List Deferred)
 (hds:ds=[]∨∃ D,ds=[{ target:=.collected D,args:=#[] }]∧Γ.w.heap.size≤D∧w.heap[D]? = some (.deferred (some []))) {c:Code} (id:Nat) (ops:Array Oper) (t:Tmp) (d:D)
 (hc:c = .seq (.region id ops false) .ret) (he:iN Tryz.prog n ops ops.toList st [t] []=some ([],⟨[(t,d)],[],[],0⟩)) :
 c.wp Tryz.prog (aDT Γ t d) { a with defers:=ds } w:=by
 subst hc
 have sZ:RR ⟨S,w,uG β st.cC,β⟩ S β a w n st:=⟨hr.core.aNl,hr.tm,hr.un,hr.size,hr.defers,fun o k ho _=>by omega⟩
 unfold iN at he
 split at he
 ·rename_i vs oZ h2
  cases hk:oZ.keep [t] [] with
  | none=>rw[hk] at he;cases he
  | some st3 =>
    rw[hk] at he
    simp only[Option.map_some,aA,aI] at he
    obtain ⟨rfl,rfl⟩:=he
    refine wp_seq (wp_region_list ?_)
    have key:=xC (P:=Tryz.prog) (ops:=ops) (Q:=Exit.then (Code.ret.wp Tryz.prog (aDT Γ t d)) (aDT Γ t d)) (rest:=[]) ds sZ h2 (fun b hb=>by cases hb) (fun a' w' S' β' h'=>?_)
    ·rw[bN] at key;exact key
    ·show Code.ret.wp Tryz.prog (aDT Γ t d) { a' with defers:=ds } w'
     have h3:=gC h' hk
     refine wp_ret ⟨rfl,?_,S',_,hr.core.aNm h3.core,?_⟩
     ·rcases hds with hds | ⟨D,hds,hD,hK⟩
      ·exact .inl hds
      ·refine .inr ⟨D,hds,hD,(h3.core.frame.block D (Array.getElem?_eq_some_iff.1 hK).1 fun hM=>?_).trans hK⟩
       obtain ⟨o',ho',hc'⟩:=bl.cells hr.core hxm hM
       rw[hK] at ho';cases ho';cases hc'
     ·have:=h3.tm t (fun q hq=>by cases hq)
      have e:St.get ⟨[(t,d)],[],[],0⟩ t=d:=by unfold St.get dK;rw[Nat.beq_refl];rfl
      rw[e] at this;exact this
 ·cases he
def bl.vs (a0:cK) (l:List Int):List eZ:=l.flatMap fun x=>(a0.bP.getD x.toNat default).cA
def bl.mx (l:List Nat):Nat:=l.foldr max 0
theorem bl.aUP {l:List Nat} {x:Nat} (h:x∈l):x≤bl.mx l:=by
 induction l with
 | nil=>cases h
 | cons a l ih =>
   show x≤max a (bl.mx l)
   rcases aY.1 h with rfl | h
   ·omega
   ·have:=ih h;omega
theorem bl.uH {α:Type} (f:Int→List α) (M:Nat) (hf:∀ x,(f x).length≤M):∀ l:List Int,(l.flatMap f).length≤l.length * M
 | []=>by simp
 | x::l=>by
   rw[List.flatMap_cons,aG,List.length_cons,Nat.succ_mul]
   have:=hf x;have:=bl.uH f M hf l;omega
def bl.s4 (a0:cK):Nat:=bl.mx (a0.bP.map fun d=>d.cA.length)
theorem bl.aJN (a0:cK) (x:Int):((a0.bP.getD x.toNat default).cA).length≤bl.s4 a0:=by
 by_cases h:x.toNat<a0.bP.length
 ·rw[List.getD,aF h]
  exact bl.aUP (List.mem_map.2 ⟨_,List.getElem_mem h,rfl⟩)
 ·rw[List.getD,bB (by omega)]
  exact Nat.zero_le _
def F52 (K:Nat) (a0:cK) (a1:Int):Option ((List eZ) ⊕ (List eZ)) :=
 (bX (F45 K a0 a1)).bind fun k=>if (k:Int)=2 then ((bX (F10 K a0 a1)).bind fun l =>
  if (∀ x∈l,cP x a0.bP.length=true)∧l.length≤1000000000000∧l.length * bl.s4 a0 * 80≤140737488355328 then some (.inl (bl.vs a0 l.reverse)) else none)
  else if k=3 then none else some (.inl [])
abbrev bl.x52 (a0:cK) (l:List eZ):List Go.Dl.Obj:=[.cells (c9.cs a0),.cells [.own 2 l.length],eX.row l]
def bl.rf:Code→Code
 | .rangeFunc _ _ _ b=>b
 | _=>.skip
noncomputable abbrev bl.b52:Code:=bl.rf (cd (bd Tryz.f52) [1,1,0,1,0,1,0,1,0])
noncomputable abbrev bl.o52:Array Oper:=rg (cd bl.b52 [0])
theorem bl.aWp (a0:cK) (u:List eZ) (x:Int) (hx:cP x a0.bP.length=true) (hro:room ((u.length+(a0.bP.getD x.toNat default).cA.length) * 80)=true) {A:Type} {ab:A→Ex × St} (hid:∀ a,(ab a).1≠.exit 2) :
 fO Tryz.prog 37 bl.b52 ⟨[(2,.c (.ptr 0 0 0)),(5,.c (.ptr 1 0 0)),(7,.c (.val (.int .i64 x)))],bl.x52 a0 u,[],2⟩ (some (.inr ()))
  (fun _:Unit=>⟨[],bl.x52 a0 (u++(a0.bP.getD x.toNat default).cA),[],2⟩) ab:=by
 have hb:bl.b52 = .block 2 (.region 6 bl.o52 true):=by kernel_rfl
 rw[hb]
 refine fO.block (m1:=some (.inr ())) (fO.dp (m':=bY [cP x a0.bP.length] (bR (a0.bP.getD x.toNat default).cA fun y=>bY [room ((u.length+y.length) * 80)] (some (.inr ()))))
  (.ex [1,3] <|
   .tx [7,8] <|
   .hO [0,2,4,5,6] _ <|
   .lt _ fun y =>
   .tl [7,8] <|
   .ck _ <|
   .ob 6 1 3 (x:=.row 41 8 (u.length+y.length) fun i j=>bif Nat.blt i u.length then eX.at u i j else (eX.at y) (i - u.length) j) (y:=eX.row (u++y)) (El.jE eX u y rfl rfl) <|
   .sl 6 1 26 (x:=.c (.own 3 (u.length+y.length))) (y:=(.c (.own 3 ((u++y).length)))) (jS.c (hG.own (by simp))) <|
   .nil [0,1,3] ()) ((aE hx).trans (aE hro))) hid
def bl.ab:Unit→Ex × St:=fun _=>(.ret,⟨[],[],[],0⟩)
theorem bl.at {n:Nat} {T:Type} {go:T→St} {st:St} {m:Option (Unit ⊕ T)} {c:Code} {t:T} {Γ:j6} {S:Mem} {β:dG} {a:Act} {w:World} {Q:Exit→Act→World→Prop} (h:Ref Tryz.prog n [c] st m go bl.ab) (hm:m=some (.inr t)) (hr:RR Γ S β a w n st)
 (hk:∀ a' w' S' β',RR Γ S' β' a' w' n (go t)→Q .normal a' w'):c.wp Tryz.prog Q a w:=Ref.at (hm ▸ h) hr hk
theorem bl.self {a:Act} (h:a.defers=[]):({ a with defers:=[] }:Act)=a:=by cases a;simp at h;subst h;rfl
theorem aIr (K:Nat) (a0:cK) (a1:Int):bV Tryz.prog 52 [.agg (c9.cs a0),.c (.val (.int .i64 a1))] [] (bX (F52 K a0 a1)) (fun r=>.c (eX.tree r)) (fun r=>[]):=by
 refine bV.aNo (fn:=Tryz.f52) (c:=bd Tryz.f52) 4 (by kernel_rfl) (by kernel_rfl) (by kernel_rfl) (by kernel_rfl) fun r hm Γ S β a w hr=>?_
 unfold F52 at hm
 cases h45:bX (F45 K a0 a1) with
 | none=>rw[h45] at hm;cases hm
 | some k =>
   rw[h45,Option.bind_some] at hm
   have aSn:∀ (ds:List Deferred) (u:List eZ) (S:Mem) (β:dG) (a:Act) (w:World),RR Γ S β a w 37 ⟨[(2,.c (.ptr 0 0 0)),(5,.c (.ptr 1 0 0))],bl.x52 a0 u,[],0⟩ →
    (ds=[]∨∃ D,ds=[{ target:=.collected D,args:=#[] }]∧Γ.w.heap.size≤D∧w.heap[D]? = some (.deferred (some [])))→(cd (bd Tryz.f52) [1,1,1]).wp Tryz.prog (aDT Γ 4 (.c (eX.tree u))) { a with defers:=ds } w:=by
    intro ds u S β a w hr hds
    obtain ⟨S',β',hr'⟩:=Conv.freeze (dD:=⟨[(2,.c (.ptr 0 0 0)),(5,.c (.ptr 1 0 0))],[.cells (c9.cs a0),.cells [eX.tree u],.dead],[],0⟩) 2 (by kernel_rfl) Γ S β a w hr
    exact bl.fin hr' rfl rfl ds hds 9 (rg (cd (bd Tryz.f52) [1,1,1,0])) 4 (.c (eX.tree u)) (by kernel_rfl) (by kernel_rfl)
   have aA6:∀ (S:Mem) (β:dG) (a:Act) (w:World) {sl:List (Nat × D)},RR Γ S β a w 37 ⟨sl,[.cells (c9.cs a0),.cells [.nil]],[],0⟩→∃ S' β',RR Γ S' β' a w 37 ⟨sl,bl.x52 a0 [],[],0⟩:=fun S β a w sl hr =>
    Conv.mB 1 0 41 8 (eX.at []) (dD:=⟨sl,bl.x52 a0 [],[],0⟩) (by kernel_rfl) Γ S β a w hr
   refine lK (x:=cd (bd Tryz.f52) [0]) (y:=cd (bd Tryz.f52) [1]) (by kernel_rfl) (bl.at (m:=some (.inr ())) (go:=fun _=>⟨[(1,.c (.val (.int .i64 a1))),(2,.c (.ptr 0 0 0))],[.cells (c9.cs a0)],[],0⟩) (Ref.pt (.nil [0] ())) rfl hr fun a w S β hr=>?_)
   show (cd (bd Tryz.f52) [1]).wp _ _ _ _
   refine lK (x:=cd (bd Tryz.f52) [1,0]) (y:=cd (bd Tryz.f52) [1,1]) (by kernel_rfl) (bl.at (m:=some (.inr ())) (go:=fun _=>⟨[(1,.c (.val (.int .i64 a1))),(2,.c (.ptr 0 0 0)),(5,.c (.ptr 1 0 0))],[.cells (c9.cs a0),.cells [.nil]],[],0⟩) (Ref.pt (.nil [0,1] ())) rfl hr fun a w S β hr=>?_)
   show (cd (bd Tryz.f52) [1,1]).wp _ _ _ _
   refine lK (x:=cd (bd Tryz.f52) [1,1,0]) (y:=cd (bd Tryz.f52) [1,1,1]) (by kernel_rfl) ?_
   refine lK (x:=cd (bd Tryz.f52) [1,1,0,0]) (y:=cd (bd Tryz.f52) [1,1,0,1]) (by kernel_rfl) (bl.at (m:=(bX (F45 K a0 a1)).bind fun k=>some (.inr k)) (t:=k)
    (go:=fun k=>⟨[(1,.c (.val (.int .i64 a1))),(2,.c (.ptr 0 0 0)),(5,.c (.ptr 1 0 0)),(10,.c (.val (.int .i64 k)))],[.cells (c9.cs a0),.cells [.nil]],[],0⟩) (Ref.pt (.call [] (aEU _ _ _) fun k=>.nil [0,1] k)) (by rw[h45];rfl) hr fun a w S β hr=>?_)
   show (cd (bd Tryz.f52) [1,1,0,1]).wp _ _ _ _
   rw[show cd (bd Tryz.f52) [1,1,0,1] = .block 0 (cd (bd Tryz.f52) [1,1,0,1,0]) by kernel_rfl]
   refine wp_block ?_
   refine lK (x:=cd (bd Tryz.f52) [1,1,0,1,0,0]) (y:=cd (bd Tryz.f52) [1,1,0,1,0,1]) (by kernel_rfl) (bl.at (m:=bR ((k:Int) == 2) fun x=>some (.inr x)) (t:=((k:Int) == 2))
    (go:=fun x=>⟨[(1,.c (.val (.int .i64 a1))),(2,.c (.ptr 0 0 0)),(5,.c (.ptr 1 0 0)),(10,.c (.val (.int .i64 k))),(11,.c (.val (.bool x)))],[.cells (c9.cs a0),.cells [.nil]],[],0⟩) (Ref.pt (.lt _ fun x=>.nil [0,1] x)) rfl hr fun a w S β hr=>?_)
   show (cd (bd Tryz.f52) [1,1,0,1,0,1]).wp _ _ _ _
   rw[show cd (bd Tryz.f52) [1,1,0,1,0,1] = .cond (.tmp 11) (cd (bd Tryz.f52) [1,1,0,1,0,1,0]) (cd (bd Tryz.f52) [1,1,0,1,0,1,1]) by kernel_rfl]
   have aBU:=aBp (c:=.tmp 11) (b:=((k:Int) == 2)) hr rfl rfl
   by_cases hk2:k=2
   ·rw[aE hk2] at hm
    rw[show ((k:Int) == 2)=true by simp [hk2]] at aBU
    refine wp_cond_true aBU ?_
    cases h10:bX (F10 K a0 a1) with
    | none=>rw[h10] at hm;cases hm
    | some l =>
      rw[h10,Option.bind_some] at hm
      split at hm
      ·rename_i hok
       obtain ⟨hV,hl,hroom⟩:=hok
       simp only[bX,aA] at hm
       refine lK (x:=cd (bd Tryz.f52) [1,1,0,1,0,1,0,0]) (y:=cd (bd Tryz.f52) [1,1,0,1,0,1,0,1]) (by kernel_rfl) (bl.at (m:=(bX (F10 K a0 a1)).bind fun l=>(some l).bind fun l=>some (.inr l)) (t:=l)
        (go:=fun l=>⟨[(2,.c (.ptr 0 0 0)),(5,.c (.ptr 1 0 0)),(16,.c (bl.fn l))],[.cells (c9.cs a0),.cells [.nil]],[],0⟩) (Ref.pt (.call [] (aBV _ _ _) fun l=>.call [] (aNk l) fun l=>.nil [0,1] l)) (by rw[h10];rfl) hr fun a w S β hr=>?_)
       show (cd (bd Tryz.f52) [1,1,0,1,0,1,0,1]).wp _ _ _ _
       rw[show cd (bd Tryz.f52) [1,1,0,1,0,1,0,1] = .block 1 (.rangeFunc (.tmp 16) #[17,18] (.region 5 #[⟨some 7,.assign (.tmp 18),3,"table.go:80",#[],none⟩] false) bl.b52) by kernel_rfl]
       refine wp_block ?_
       obtain ⟨S,β,hr⟩:=aA6 S β a w hr
       refine bl.range hr 16 17 18 l (fun x=>cP x a0.bP.length=true) (fun pre=>bl.x52 a0 (bl.vs a0 pre)) rfl rfl hl hV (by decide) rfl (fun _=>rfl) (fun _=>by simp) ⟨rfl,rfl⟩ ⟨rfl,rfl⟩ (fun pre x hx hlen=>?_) fun D W S' β' hD hK hr'=>?_
       ·have e:bl.vs a0 (pre++[x])=bl.vs a0 pre++(a0.bP.getD x.toNat default).cA:=by simp [bl.vs]
        show fO _ _ _ _ _ (fun _:Unit=>⟨[],bl.x52 a0 (bl.vs a0 (pre++[x])),[],2⟩) _
        rw[e]
        refine bl.aWp a0 _ x hx ?_ (fun e=>Empty.elim e)
        have h1:=bl.uH (fun x=>(a0.bP.getD x.toNat default).cA) (bl.s4 a0) (bl.aJN a0) (pre++[x])
        have h2:(bl.vs a0 (pre++[x])).length≤(pre++[x]).length * bl.s4 a0:=h1
        rw[e,aG,aG,List.length_singleton] at h2
        have h3:(pre.length+1) * bl.s4 a0≤l.length * bl.s4 a0:=aV _ hlen
        unfold room
        simp only[aB]
        omega
       ·show (cd (bd Tryz.f52) [1,1,1]).wp Tryz.prog (aDT Γ 4 (.c (eX.tree r))) _ W
        rw[← hm]
        exact aSn _ _ S' β' a W hr' (.inr ⟨D,rfl,hD,hK⟩)
      ·cases hm
   ·rw[aD hk2] at hm
    rw[show ((k:Int) == 2)=false by simp [hk2]] at aBU
    refine wp_cond_false aBU ?_
    by_cases hk3:k=3
    ·rw[aE hk3] at hm;cases hm
    ·rw[aD hk3] at hm
     simp only[bX,aA] at hm
     refine lK (x:=cd (bd Tryz.f52) [1,1,0,1,0,1,1,0]) (y:=cd (bd Tryz.f52) [1,1,0,1,0,1,1,1]) (by kernel_rfl) (bl.at (m:=bR ((k:Int) == 3) fun x=>some (.inr x)) (t:=((k:Int) == 3))
      (go:=fun x=>⟨[(2,.c (.ptr 0 0 0)),(5,.c (.ptr 1 0 0)),(27,.c (.val (.bool x)))],[.cells (c9.cs a0),.cells [.nil]],[],0⟩) (Ref.pt (.lt _ fun x=>.nil [0,1] x)) rfl hr fun a w S β hr=>?_)
     show (cd (bd Tryz.f52) [1,1,0,1,0,1,1,1]).wp _ _ _ _
     rw[show cd (bd Tryz.f52) [1,1,0,1,0,1,1,1] = .cond (.tmp 27) (cd (bd Tryz.f52) [1,1,0,1,0,1,1,1,0]) .skip by kernel_rfl]
     have aBU:=aBp (c:=.tmp 27) (b:=((k:Int) == 3)) hr rfl rfl
     rw[show ((k:Int) == 3)=false by simp [hk3]] at aBU
     refine wp_cond_false aBU (wp_skip ?_)
     show (cd (bd Tryz.f52) [1,1,1]).wp Tryz.prog (aDT Γ 4 (.c (eX.tree r))) a w
     obtain ⟨S,β,hr⟩:=aA6 S β a w hr
     obtain sZ:=Conv.keep (dD:=⟨[(2,.c (.ptr 0 0 0)),(5,.c (.ptr 1 0 0))],bl.x52 a0 [],[],0⟩) [2,5] [0,1,2] (by kernel_rfl) Γ S β a w hr
     obtain ⟨S,β,hr⟩:=sZ
     rw[← hm,← bl.self hr.defers]
     exact aSn [] [] S β a w hr (.inl rfl)
def bl.new (ms:List hU):List Bytes:=(ms.filter fun m=>!m.xD).map fun m=>m.cD
def bl.ns (a0:cK) (l:List Int):List Bytes:=l.flatMap fun x=>bl.new (a0.bP.getD x.toNat default).bS
def bl.oA (a0:cK):Nat:=bl.mx (a0.bP.map fun d=>d.bS.length)
theorem bl.zP (ms:List hU):(bl.new ms).length≤ms.length:=by
 unfold bl.new;rw[aU];exact List.length_filter_le _ _
theorem bl.aNp (m:hU) (r:List hU):bl.new (m::r)=bl.new [m]++bl.new r:=by
 unfold bl.new
 simp only[List.filter_cons,List.filter_nil]
 split <;> rfl
theorem bl.s5 (a0:cK) (x:Int):((a0.bP.getD x.toNat default).bS).length≤bl.oA a0:=by
 by_cases h:x.toNat<a0.bP.length
 ·rw[List.getD,aF h]
  exact bl.aUP (List.mem_map.2 ⟨_,List.getElem_mem h,rfl⟩)
 ·rw[List.getD,bB (by omega)]
  exact Nat.zero_le _
def F49 (K:Nat) (a0:cK) (a1:Int):Option ((List Bytes) ⊕ (List Bytes)) :=
 (bX (F10 K a0 a1)).bind fun l =>
  if (∀ x∈l,cP x a0.bP.length=true)∧l.length≤1000000000000∧bl.oA a0≤1000000000000∧l.length * bl.oA a0 * 16≤140737488355328 then some (.inl (bl.ns a0 l.reverse)) else none
abbrev bl.x49 (a0:cK) (l:List Bytes):List Go.Dl.Obj:=[.cells (c9.cs a0),.cells [.own 2 l.length],E9.row l]
noncomputable abbrev bl.b49:Code:=bl.rf (cd (bd Tryz.f49) [1,1,0,1,0])
def bl.rd {A:Type} (ms:List hU) (v:List Bytes × Int):Option ((List Bytes ⊕ A) ⊕ (List Bytes × Int)) :=
 bT (bR (decide ((v.2:Int)<Int.ofNat ms.length)) fun b=>some (.inr b)) fun b=>bT (if b=true then some (.inr ()) else some (.inl (.inl v.1))) fun _:Unit =>
  bT (bQ (bT (bY [cP v.2 ms.length] (bR (ms.getD (v.2:Int).toNat default) fun m=>some (.inr m))) fun m=>bT (bR (!m.xD) fun o=>some (.inr o)) fun o =>
   if o=true then bY [room ((v.1.length+([m.cD].length)) * 16)] (some (.inr (v.1++[m.cD]))) else some (.inr v.1))) fun acc=>some (.inr (acc,IntKind.i64.wrap (v.2+1)))
theorem bl.aNq {A:Type} (ms:List hU) (hms:ms.length≤1000000000000):∀ (k i:Nat) (acc:List Bytes),i+k=ms.length→(acc.length+k) * 16≤140737488355328→iter (k+1) (bl.rd (A:=A) ms) (acc,(i:Int))=some (.inl (acc++bl.new (ms.drop i)))
 | 0,i,acc,hi,hr=>by
   have h1:i=ms.length:=by omega
   subst h1
   have:bl.rd (A:=A) ms (acc,((ms.length:Nat):Int))=some (.inl (.inl acc)):=by
    simp [bl.rd,bT,bR]
   unfold iter
   rw[this]
   simp [bl.new]
 | k+1,i,acc,hi,hr=>by
   have hlt:i<ms.length:=by omega
   have hw:IntKind.i64.wrap ((i:Int)+1)=((i+1:Nat):Int):=by rw[wrap64 (by omega) (by omega)];rfl
   have hg:ms.getD ((i:Int)).toNat default=ms[i]:=by simp [List.getD,aF hlt]
   have hd:ms.drop i=ms[i]::ms.drop (i+1):=List.drop_eq_getElem_cons hlt
   have aZV:bl.rd (A:=A) ms (acc,(i:Int))=some (.inr (acc++bl.new [ms[i]],((i+1:Nat):Int))):=by
    have h1:cP (i:Int) ms.length=true:=by simp [cP];omega
    have h2:room ((acc.length+1) * 16)=true:=by simp [room];omega
    have h3:decide ((i:Int)<Int.ofNat ms.length)=true:=by simp;omega
    unfold bl.rd
    dsimp only[bR,bT]
    rw[h3]
    simp only[if_true]
    rw[show bY [cP (i:Int) ms.length] (some (Sum.inr (ms.getD ((i:Int)).toNat default):(List Bytes ⊕ (List Bytes ⊕ A)) ⊕ hU))=some (.inr ms[i]) from by rw[hg];exact aE h1]
    dsimp only
    cases ho:ms[i].xD with
    | true=>simp [bl.new,ho,hw,bQ]
    | false =>
      simp only[Bool.not_false,if_true]
      rw[show ([ms[i].cD]:List Bytes).length=1 from rfl]
      rw[show ∀ z:Option ((List Bytes ⊕ (List Bytes ⊕ A)) ⊕ List Bytes),bY [room ((acc.length+1) * 16)] z=z from fun z=>aE h2]
      simp [bl.new,ho,hw,bQ]
   unfold iter
   rw[aZV]
   show iter (k+1) (bl.rd (A:=A) ms) (acc++bl.new [ms[i]],((i+1:Nat):Int))=_
   have h1:=bl.zP [ms[i]]
   rw[bl.aNq ms hms k (i+1) (acc++bl.new [ms[i]]) (by omega) (by rw[aG];simp only[List.length_singleton] at h1;omega),hd,bl.aNp ms[i] (ms.drop (i+1)),bJ]
noncomputable abbrev bl.l49:Code:=.seq (.region 5 (rg (cd bl.b49 [0,1,0,0,0])) false) (.seq (.cond (.tmp 24) .skip (.exit 2)) (.seq (.block 3 (.seq (.region 6 (rg (cd bl.b49 [0,1,0,0,1,1,0,0,0])) false)
 (.seq (.region 7 (rg (cd bl.b49 [0,1,0,0,1,1,0,0,1,0])) false) (.cond (.tmp 29) (.region 8 (rg (cd bl.b49 [0,1,0,0,1,1,0,0,1,1,0])) false) .skip)))) (.region 9 (rg (cd bl.b49 [0,1,0,0,1,1,1])) false)))
noncomputable abbrev bl.c49:Code:=.block 1 (.seq (.region 4 (rg (cd bl.b49 [0,0])) false) (.block 2 (.loop bl.l49)))
theorem bl.aWq (a0:cK) (u:List Bytes) (x:Int) (hx:cP x a0.bP.length=true) (hms:(a0.bP.getD x.toNat default).bS.length≤1000000000000) (hro:(u.length+(a0.bP.getD x.toNat default).bS.length) * 16≤140737488355328) {A:Type} {ab:A→Ex × St} (hid:∀ a i,(ab a).1≠.exit i) :
 fO Tryz.prog 37 bl.b49 ⟨[(2,.c (.ptr 0 0 0)),(5,.c (.ptr 1 0 0)),(7,.c (.val (.int .i64 x)))],bl.x49 a0 u,[],2⟩ (some (.inr ()))
  (fun _:Unit=>⟨[],bl.x49 a0 (u++bl.new (a0.bP.getD x.toNat default).bS),[],2⟩) ab:=by
 let ms:=(a0.bP.getD x.toNat default).bS
 let hd:List Bytes × Int→St:=fun v=>⟨[(2,.c (.ptr 0 0 0)),(5,.c (.ptr 1 0 0)),(21,.c (jO.tree ms)),(22,.c (.val (.int .i64 (Int.ofNat ms.length)))),(23,.c (.val (.int .i64 v.2)))],bl.x49 a0 v.1,[],2⟩
 have aZW:bl.b49=bl.c49:=by kernel_rfl
 rw[aZW]
 have hres:iter (ms.length+1) (bl.rd (A:=List Bytes ⊕ A) ms) (u,((0:Nat):Int))=some (.inl (u++bl.new ms)):=by
  have:=bl.aNq (A:=List Bytes ⊕ A) ms hms ms.length 0 u (by omega) hro
  rwa [List.drop_zero] at this
 have key:fO Tryz.prog 37 bl.c49
  ⟨[(2,.c (.ptr 0 0 0)),(5,.c (.ptr 1 0 0)),(7,.c (.val (.int .i64 x)))],bl.x49 a0 u,[],2⟩ (bQ (bT (some (.inr ())) fun _:Unit=>bQ ((iter (ms.length+1) (bl.rd (A:=List Bytes ⊕ A) ms) (u,((0:Nat):Int))).map .inl)))
  (fun v:List Bytes=>⟨[],bl.x49 a0 v,[],2⟩) ab:=by
  refine fO.block ?_ (fun a=>hid a _)
  refine fO.seq (uI:=fun _:Unit=>hd (u,((0:Nat):Int))) (fO.rp (m':=bY [cP x a0.bP.length] (some (.inr ()))) (.ck _ <| .nil [0,1,2] ()) (aE hx)) fun _=>?_
  refine fO.block ?_ (fun a h=>by cases a with
   | inl a=>cases h
   | inr a=>exact hid a _ h)
  refine fO.loop (hd:=hd) (ms.length+1) (u,((0:Nat):Int)) rfl fun v=>?_
  unfold bl.l49 bl.rd
  refine fO.seq (uI:=fun b:Bool=>⟨[(2,.c (.ptr 0 0 0)),(5,.c (.ptr 1 0 0)),(21,.c (jO.tree ms)),(22,.c (.val (.int .i64 (Int.ofNat ms.length)))),(23,.c (.val (.int .i64 v.2))),(24,.c (.val (.bool b)))],bl.x49 a0 v.1,[],2⟩) (fO.rp (.lt _ fun b=>.nil [0,1,2] b) rfl) fun b=>?_
  refine fO.seq (uI:=fun _:Unit=>hd v) (fO.cond (c:=.tmp 24) rfl rfl (fun hb=>fO.keep [2,5,21,22,23] [0,1,2] (hd v) (fO.skip () rfl)) (fun hb=>fO.keep [] [0,1,2] ⟨[],bl.x49 a0 v.1,[],2⟩ (fO.exit _ rfl))) fun _=>?_
  refine fO.seq (uI:=fun acc:List Bytes=>hd (acc,v.2)) (fO.block ?_ (fun a h=>by
   cases a with
   | inl a=>cases h
   | inr a=>cases a with
     | inl a=>cases h
     | inr a=>exact hid a _ h)) fun acc=>fO.rp (.nil [0,1,2] (acc,IntKind.i64.wrap (v.2+1))) rfl
  refine fO.seq (uI:=fun m:hU=>⟨[(2,.c (.ptr 0 0 0)),(5,.c (.ptr 1 0 0)),(9,.c (.ptr 3 0 0)),(21,.c (jO.tree ms)),(22,.c (.val (.int .i64 (Int.ofNat ms.length)))),(23,.c (.val (.int .i64 v.2)))],bl.x49 a0 v.1++[jO.o m],[],2⟩) (fO.rp (.ck _ <| .lt _ fun m=>.nil [0,1,2,3] m) rfl) fun m=>?_
  refine fO.seq (uI:=fun o:Bool=>⟨[(2,.c (.ptr 0 0 0)),(5,.c (.ptr 1 0 0)),(9,.c (.ptr 3 0 0)),(21,.c (jO.tree ms)),(22,.c (.val (.int .i64 (Int.ofNat ms.length)))),(23,.c (.val (.int .i64 v.2))),(29,.c (.val (.bool o)))],bl.x49 a0 v.1++[jO.o m],[],2⟩) (fO.rp (.lt _ fun o=>.nil [0,1,2,3] o) rfl) fun o=>?_
  refine fO.cond (c:=.tmp 29) rfl rfl (fun hb=>?_) (fun hb=>fO.keep [2,5,21,22,23] [0,1,2] (hd v) (fO.skip v.1 rfl))
  exact fO.rp (
   .ob 8 2 4 (x:=.row 9 1 1 (xE [[.str m.cD]])) (y:=(E9.row [m.cD])) (El.b9 E9 [m.cD] rfl (by kernel_rfl)) <|
   .sl 8 2 33 (x:=.c (.own 4 1)) (y:=.c (.own 4 ([m.cD].length))) (jS.c (hG.own (by simp))) <|
   .ck _ <|
   .ob 8 1 5 (x:=.row 9 1 (v.1.length+([m.cD].length)) fun i j=>bif Nat.blt i v.1.length then E9.at v.1 i j else (E9.at [m.cD]) (i - v.1.length) j) (y:=(E9.row (v.1++[m.cD]))) (El.jE E9 v.1 [m.cD] rfl rfl) <|
   .sl 8 1 34 (x:=.c (.own 5 (v.1.length+([m.cD].length)))) (y:=(.c (.own 5 ((v.1++[m.cD]).length)))) (jS.c (hG.own (by simp))) <|
   .nil [0,1,5] _) rfl
 intro l k Γ S β a w hr z hz
 cases hz
 refine wpIn_mono (key l k Γ S β a w hr (.inr (u++bl.new ms)) (by rw[hres];rfl)) fun e a' w' he=>he
theorem aNr (K:Nat) (a0:cK) (a1:Int):bV Tryz.prog 49 [.agg (c9.cs a0),.c (.val (.int .i64 a1))] [] (bX (F49 K a0 a1)) (fun r=>.c (E9.tree r)) (fun r=>[]):=by
 refine bV.aNo (fn:=Tryz.f49) (c:=bd Tryz.f49) 4 (by kernel_rfl) (by kernel_rfl) (by kernel_rfl) (by kernel_rfl) fun r hm Γ S β a w hr=>?_
 unfold F49 at hm
 cases h10:bX (F10 K a0 a1) with
 | none=>rw[h10] at hm;cases hm
 | some l =>
   rw[h10,Option.bind_some] at hm
   split at hm
   ·rename_i hok
    obtain ⟨hV,hl,hM,hroom⟩:=hok
    simp only[bX,aA] at hm
    have aSn:∀ (ds:List Deferred) (u:List Bytes) (S:Mem) (β:dG) (a:Act) (w:World),RR Γ S β a w 37 ⟨[(2,.c (.ptr 0 0 0)),(5,.c (.ptr 1 0 0))],bl.x49 a0 u,[],0⟩ →
     (ds=[]∨∃ D,ds=[{ target:=.collected D,args:=#[] }]∧Γ.w.heap.size≤D∧w.heap[D]? = some (.deferred (some [])))→(cd (bd Tryz.f49) [1,1,1]).wp Tryz.prog (aDT Γ 4 (.c (E9.tree u))) { a with defers:=ds } w:=by
     intro ds u S β a w hr hds
     obtain ⟨S',β',hr'⟩:=Conv.freeze (dD:=⟨[(2,.c (.ptr 0 0 0)),(5,.c (.ptr 1 0 0))],[.cells (c9.cs a0),.cells [E9.tree u],.dead],[],0⟩) 2 (by kernel_rfl) Γ S β a w hr
     exact bl.fin hr' rfl rfl ds hds 10 (rg (cd (bd Tryz.f49) [1,1,1,0])) 4 (.c (E9.tree u)) (by kernel_rfl) (by kernel_rfl)
    have aA6:∀ (S:Mem) (β:dG) (a:Act) (w:World) {sl:List (Nat × D)},RR Γ S β a w 37 ⟨sl,[.cells (c9.cs a0),.cells [.nil]],[],0⟩→∃ S' β',RR Γ S' β' a w 37 ⟨sl,bl.x49 a0 [],[],0⟩:=fun S β a w sl hr =>
     Conv.mB 1 0 9 1 (E9.at []) (dD:=⟨sl,bl.x49 a0 [],[],0⟩) (by kernel_rfl) Γ S β a w hr
    refine lK (x:=cd (bd Tryz.f49) [0]) (y:=cd (bd Tryz.f49) [1]) (by kernel_rfl) (bl.at (m:=some (.inr ())) (go:=fun _=>⟨[(1,.c (.val (.int .i64 a1))),(2,.c (.ptr 0 0 0))],[.cells (c9.cs a0)],[],0⟩) (Ref.pt (.nil [0] ())) rfl hr fun a w S β hr=>?_)
    show (cd (bd Tryz.f49) [1]).wp _ _ _ _
    refine lK (x:=cd (bd Tryz.f49) [1,0]) (y:=cd (bd Tryz.f49) [1,1]) (by kernel_rfl) (bl.at (m:=some (.inr ())) (go:=fun _=>⟨[(1,.c (.val (.int .i64 a1))),(2,.c (.ptr 0 0 0)),(5,.c (.ptr 1 0 0))],[.cells (c9.cs a0),.cells [.nil]],[],0⟩) (Ref.pt (.nil [0,1] ())) rfl hr fun a w S β hr=>?_)
    show (cd (bd Tryz.f49) [1,1]).wp _ _ _ _
    refine lK (x:=cd (bd Tryz.f49) [1,1,0]) (y:=cd (bd Tryz.f49) [1,1,1]) (by kernel_rfl) ?_
    refine lK (x:=cd (bd Tryz.f49) [1,1,0,0]) (y:=cd (bd Tryz.f49) [1,1,0,1]) (by kernel_rfl) (bl.at (m:=(bX (F10 K a0 a1)).bind fun l=>(some l).bind fun l=>some (.inr l)) (t:=l)
     (go:=fun l=>⟨[(2,.c (.ptr 0 0 0)),(5,.c (.ptr 1 0 0)),(13,.c (bl.fn l))],[.cells (c9.cs a0),.cells [.nil]],[],0⟩) (Ref.pt (.call [] (aBV _ _ _) fun l=>.call [] (aNk l) fun l=>.nil [0,1] l)) (by rw[h10];rfl) hr fun a w S β hr=>?_)
    show (cd (bd Tryz.f49) [1,1,0,1]).wp _ _ _ _
    rw[show cd (bd Tryz.f49) [1,1,0,1] = .block 0 (.rangeFunc (.tmp 13) #[14,15] (.region 3 #[⟨some 7,.assign (.tmp 15),3,"layout.go:163",#[],none⟩] false) bl.b49) by kernel_rfl]
    refine wp_block ?_
    obtain ⟨S,β,hr⟩:=aA6 S β a w hr
    refine bl.range hr 13 14 15 l (fun x=>cP x a0.bP.length=true) (fun pre=>bl.x49 a0 (bl.ns a0 pre)) rfl rfl hl hV (by decide) rfl (fun _=>rfl) (fun _=>by simp) ⟨rfl,rfl⟩ ⟨rfl,rfl⟩ (fun pre x hx hlen=>?_) fun D W S' β' hD hK hr'=>?_
    ·have e:bl.ns a0 (pre++[x])=bl.ns a0 pre++bl.new (a0.bP.getD x.toNat default).bS:=by simp [bl.ns]
     show fO _ _ _ _ _ (fun _:Unit=>⟨[],bl.x49 a0 (bl.ns a0 (pre++[x])),[],2⟩) _
     rw[e]
     refine bl.aWq a0 _ x hx (aS (bl.s5 a0 x) hM) ?_ (fun e=>Empty.elim e)
     have h2:(bl.ns a0 pre).length≤pre.length * bl.oA a0:=bl.uH (fun x=>bl.new (a0.bP.getD x.toNat default).bS) (bl.oA a0) (fun x=>aS (bl.zP _) (bl.s5 a0 x)) pre
     have h3:(pre.length+1) * bl.oA a0≤l.length * bl.oA a0:=aV _ hlen
     have h4:=bl.s5 a0 x
     rw[Nat.succ_mul] at h3
     omega
    ·show (cd (bd Tryz.f49) [1,1,1]).wp Tryz.prog (aDT Γ 4 (.c (E9.tree r))) _ W
     rw[← hm]
     exact aSn _ _ S' β' a W hr' (.inr ⟨D,rfl,hD,hK⟩)
   ·cases hm
end Go.Proofs.YtdbfbedholdjaaaGreat
