/- No conditions. -/
import Derived.Test.YtngjamedgphjiaaGreatDoorTC
import Derived.Test.YtngjamedgphjiaaGreatDoorVg
set_option linter.unusedVariables false
set_option linter.unusedSimpArgs false
set_option linter.unusedSectionVars false
namespace Go.Proofs.YtngjamedgphjiaaGreatDoor
open Go Go.Dl
set_option maxRecDepth 100000
set_option maxHeartbeats 2000000
theorem bF.tQ {A T:Type} {K:Nat} {f:T→Option (A ⊕ T)} {t0:T} {p:A→Prop} (h:bF (f t0) (sE p (fun t=>bF (iter K f t) p))):bF (iter (K+1) f t0) p:=by
 obtain ⟨z,hz,h⟩:=h
 unfold iter
 rw[hz]
 match z,h with
|.inl a,h=>exact ⟨_,rfl,h⟩
|.inr t,h=>exact h
def one (d:Int):eW:=⟨[],[],[⟨-1,[],[],false,0,[⟨29,0,0⟩]⟩],[],[],[],[],[],[],[],d,0⟩
def wS:eW:=⟨[],[],[],[],[],[],[],[],[],[],0,0⟩
theorem aDv (k:Nat) (d:Int):cT (F15 (k+50) (one d))=some true:=by kernel_rfl
theorem aDw (k:Nat) (d:Int):cT (F16 (k+50) (one d))=some true:=by kernel_rfl
theorem aDx (k:Nat) (d:Int):cT (F17 (k+50) (one d))=some true:=by kernel_rfl
theorem aDy (k:Nat) (d:Int):cT (F18 (k+50) (one d))=some true:=by kernel_rfl
theorem aDz (k:Nat) (d:Int):cT (F19 (k+50) (one d))=some true:=by kernel_rfl
theorem aDA (k:Nat) (d:Int):cT (zG (k+50) (one d))=some true:=by kernel_rfl
theorem aHw (k:Nat):cT (F15 (k+50) wS)=some true:=by kernel_rfl
theorem aHx (k:Nat):cT (F16 (k+50) wS)=some true:=by kernel_rfl
theorem aHy (k:Nat):cT (F17 (k+50) wS)=some true:=by kernel_rfl
theorem aHz (k:Nat):cT (F18 (k+50) wS)=some true:=by kernel_rfl
theorem aHA (k:Nat):cT (F19 (k+50) wS)=some true:=by kernel_rfl
theorem aHB (k:Nat):cT (zG (k+50) wS)=some true:=by kernel_rfl
theorem aHC (k:Nat):cT (F21 (k+50) wS)=some true:=by kernel_rfl
theorem aDB (K:Nat):cT (zI K [])=some []:=by simp [zI,cT]
theorem aFE (k:Nat) (d:Int):cT (aBZ (k+50) (one d) ⟨-1,[],[],false,0,[⟨29,0,0⟩]⟩ ⟨29,0,0⟩)=some []:=by kernel_rfl
theorem aFF (k:Nat) (d:Int):cT (kD (k+50) [] (one d))=some []:=by kernel_rfl
theorem aFG (k:Nat):cT (vD (k+50) [])=some []:=by kernel_rfl
theorem eA.eq {R:Type} {m:Option (R ⊕ R)} {r:R} (h:cT m=some r):eA m (fun v=>v=r):=⟨r,h,rfl⟩
theorem aHD (k:Nat) (d:Int):eA (F86 (k+50) (one d) 0) (fun v=>v=[]):=by
 refine eA.of ?_
 unfold F86
 refine bF.bO (bF.dB (by simp [one]) (bF.c5 rfl (bF.cJ (bF.bO (bF.bO (bF.bL (bF.bI (bF.dX ?_))))))))
 refine bF.tQ ?_
 refine bF.dF rfl (bF.bL (bF.bI (bF.c5 rfl (bF.cJ (bF.c5 rfl (bF.cJ ?_))))))
 refine bF.call (eA.eq (aFE k d)) (fun v hv=>?_)
 subst hv
 refine bF.c5 rfl (bF.cJ ?_)
 (repeat' (first|(with_reducible first|apply bF.bO|apply bF.bL|apply bF.bI|refine bF.dF (by assumption) ?_|refine bF.dB (by assumption) ?_|refine bF.ite (fun _=>?_) (fun _=>?_)|apply bF.cJ|apply bF.ret|apply sE.l|apply sE.r)))
 refine bF.tQ ?_
 refine bF.dB (ne_true_of_eq_false (by kernel_rfl)) ?_
 (repeat' (first|(with_reducible first|apply bF.bO|apply bF.bL|apply bF.bI|refine bF.dF (by assumption) ?_|refine bF.dB (by assumption) ?_|refine bF.ite (fun _=>?_) (fun _=>?_)|apply bF.cJ|apply bF.ret|apply sE.l|apply sE.r)))
 refine bF.call (eA.eq (aFF k d)) (fun v hv=>?_)
 subst hv
 refine bF.call (eA.eq (aDB _)) (fun v hv=>?_)
 subst hv
 refine bF.c5 rfl (bF.cJ ?_)
 refine bF.call (eA.eq (aFG k)) (fun v hv=>?_)
 (repeat' (first|(with_reducible first|apply bF.bO|apply bF.bL|apply bF.bI|refine bF.dF (by assumption) ?_|refine bF.dB (by assumption) ?_|refine bF.ite (fun _=>?_) (fun _=>?_)|apply bF.cJ|apply bF.ret|apply sE.l|apply sE.r)))
 exact hv
theorem aHE (k:Nat) (d:Int):cT (F87 k ⟨-1,[],[],false,0,[⟨29,0,0⟩]⟩)=some 0:=by kernel_rfl
theorem aHF (k:Nat) (d:Int):eA (yR (k+51) ⟨one d,uO,uO⟩ 0) (fun v=>v.1=⟨1,0,true⟩∧v.2.bP=one d):=by
 refine eA.of ?_
 rw[yR]
 refine bF.dB (by simp [uO]) (bF.dB (by simp [uO]) ?_)
 refine bF.call (aHD k d) (fun v hv=>?_)
 subst hv
 refine bF.bL (bF.bI (bF.dX ?_))
 refine bF.tQ (K:=k+49) ?_
 refine bF.bO (bF.dB (ne_true_of_eq_false (by kernel_rfl)) ?_)
 (repeat' (first|(with_reducible first|apply bF.bO|apply bF.bL|apply bF.bI|refine bF.dF (by assumption) ?_|refine bF.dB (by assumption) ?_|refine bF.ite (fun _=>?_) (fun _=>?_)|apply bF.cJ|apply bF.ret|apply sE.l|apply sE.r)))
 refine bF.c5 rfl (bF.cJ ?_)
 refine bF.cF (fun _=>eA.eq (aHE _ d)) (fun v hv=>?_)
 have hv:=hv rfl
 subst hv
 (repeat' (first|(with_reducible first|apply bF.bO|apply bF.bL|apply bF.bI|refine bF.dF (by assumption) ?_|refine bF.dB (by assumption) ?_|refine bF.ite (fun _=>?_) (fun _=>?_)|apply bF.cJ|apply bF.ret|apply sE.l|apply sE.r)))
 exact ⟨rfl,rfl⟩
theorem aHG (k:Nat) (d:Int):eA (F49 (k+51) (one d)) (fun v=>v=(1,0,true)):=by
 refine eA.of ?_
 unfold F49
 refine bF.bL (bF.bI (bF.dX ?_))
 refine bF.tQ (K:=k+50) ?_
 refine bF.bO (bF.dF rfl (bF.bL (bF.bI (bF.c5 rfl (bF.cJ (bF.bO (bF.dB (ne_true_of_eq_false (by kernel_rfl)) ?_)))))))
 refine bF.call (aHF k d) (fun v hv=>?_)
 obtain ⟨tS,nB⟩:=hv
 rw[tS]
 refine bF.dB (ne_true_of_eq_false (by kernel_rfl)) (bF.bO (bF.bO ?_))
 (repeat' (first|(with_reducible first|apply bF.bO|apply bF.bL|apply bF.bI|refine bF.dF (by assumption) ?_|refine bF.dB (by assumption) ?_|refine bF.ite (fun _=>?_) (fun _=>?_)|apply bF.cJ|apply bF.ret|apply sE.l|apply sE.r)))
 refine bF.tQ (K:=k+49) ?_
 refine bF.bO (bF.dB (ne_true_of_eq_false (by kernel_rfl)) ?_)
 (repeat' (first|(with_reducible first|apply bF.bO|apply bF.bL|apply bF.bI|refine bF.dF (by assumption) ?_|refine bF.dB (by assumption) ?_|refine bF.ite (fun _=>?_) (fun _=>?_)|apply bF.cJ|apply bF.ret|apply sE.l|apply sE.r)))
 rfl
theorem aDC (k:Nat) (d:Int):eA (F21 (k+51) (one d)) (fun v=>v=(1 == d)):=by
 refine eA.of ?_
 unfold F21
 refine bF.call (aHG k d) (fun v hv=>?_)
 subst hv
 (repeat' (first|(with_reducible first|apply bF.bO|apply bF.ret|apply sE.l|apply sE.r)))
 simp [one]
theorem aFH {K:Nat} (hK:2000000<K):cT (F8 K)=some true:=by
 obtain ⟨k,rfl⟩:∃ k,K=k+51:=⟨K - 51,by omega⟩
 obtain ⟨b1,h1,e1⟩:=aDC k 1
 obtain ⟨b2,h2,e2⟩:=aDC k 2
 subst e1
 subst e2
 have ha:rW (k+51) (one 1)=some (.inl []):=nF (aDv (k+1) 1) (fun _=>aDw (k+1) 1) (fun _ _=>aDx (k+1) 1) (fun _ _ _=>aDy (k+1) 1) (fun _ _ _ _=>aDz (k+1) 1) (fun _ _ _ _ _=>aDA (k+1) 1) (fun _ _ _ _ _ _=>h1)
 have hb:rW (k+51) (one 2)=some (.inl [98,111,117,110,100,115]):=nF (aDv (k+1) 2) (fun _=>aDw (k+1) 2) (fun _ _=>aDx (k+1) 2) (fun _ _ _=>aDy (k+1) 2) (fun _ _ _ _=>aDz (k+1) 2) (fun _ _ _ _ _=>aDA (k+1) 2) (fun _ _ _ _ _ _=>h2)
 have hc:rW (k+51) wS=some (.inl []):=nF (aHw (k+1)) (fun _=>aHx (k+1)) (fun _ _=>aHy (k+1)) (fun _ _ _=>aHz (k+1)) (fun _ _ _ _=>aHA (k+1)) (fun _ _ _ _ _=>aHB (k+1)) (fun _ _ _ _ _ _=>aHC (k+1))
 have ha7:F7 (k+51) (one 1)=some (.inl none):=by unfold F7;rw[ha];rfl
 have hb7:F7 (k+51) (one 2)=some (.inl (some (20,0))):=by unfold F7;rw[hb];rfl
 show cT ((cT (F7 (k+51) (one 1))).bind (fun r3=>((eF (!r3.isSome) (cT (rW (k+51) (one 2))) default).bind (fun r4=>(bO ((!r3.isSome) && (r4 == ([98,111,117,110,100,115]:Bytes))) (fun (x5:Bool)=>(c5 [x5] ((cT (F7 (k+51) (one 2))).bind (fun r7=>((eF true (cT (F14 (k+51) r7)) default).bind (fun r8=>((eF (true && ((r8:Int) == 20)) (cT (rW (k+51) wS)) default).bind (fun r9=>(bO ((true && ((r8:Int) == 20)) && (r9 == ([]:Bytes))) (fun (kN:Bool)=>(some (.inl (kN))))))))))))))))))=some true
 rw[ha7,hb7,hb,hc]
 rfl
end Go.Proofs.YtngjamedgphjiaaGreatDoor

namespace Go.Proofs.YtngjamedgphjiaaGreatDoor
open Go Go.Dl
set_option maxRecDepth 100000
set_option maxHeartbeats 2000000
def Rl {α β:Type} (m:Option α) (m':Option β) (Q:α→β→Prop):Prop:=(m=none∧m'=none)∨∃ a b,m=some a∧m'=some b∧Q a b
def sR {A A' T T':Type} (p:A→A'→Prop) (q:T→T'→Prop):A ⊕ T→A' ⊕ T'→Prop
|.inl a,.inl b=>p a b
|.inr a,.inr b=>q a b
|_,_=>False
section
variable {A A' T T' U U' R R' X Y α β:Type}
theorem Rl.ret {a:α} {b:β} {Q:α→β→Prop} (h:Q a b):Rl (some a) (some b) Q:=Or.inr ⟨a,b,rfl,rfl,h⟩
theorem Rl.none {Q:α→β→Prop}:Rl (none:Option α) (none:Option β) Q:=Or.inl ⟨rfl,rfl⟩
theorem sR.l {p:A→A'→Prop} {q:T→T'→Prop} {a:A} {b:A'} (h:p a b):sR p q (.inl a) (.inl b):=h
theorem sR.r {p:A→A'→Prop} {q:T→T'→Prop} {a:T} {b:T'} (h:q a b):sR p q (.inr a) (.inr b):=h
theorem Rl.ite {c:Prop} [Decidable c] {a b:Option α} {a' b':Option β} {Q:α→β→Prop} (h1:c→Rl a a' Q) (h2:¬ c→Rl b b' Q):Rl (if c then a else b) (if c then a' else b') Q:=by
 split
 ·exact h1 ‹_›
 ·exact h2 ‹_›
theorem Rl.c5 {vs:List Bool} {m:Option α} {m':Option β} {Q:α→β→Prop} (h:Rl m m' Q):Rl (Go.Dl.c5 vs m) (Go.Dl.c5 vs m') Q:=by
 induction vs with
|nil=>exact h
|cons v vs ih =>
   unfold Go.Dl.c5
   split
   ·exact ih
   ·exact Rl.none
theorem Rl.bO {v:X} {v':Y} {f:X→Option α} {f':Y→Option β} {Q:α→β→Prop} (h:Rl (f v) (f' v') Q):Rl (Go.Dl.bO v f) (Go.Dl.bO v' f') Q:=h
theorem Rl.bL {m:Option (A ⊕ T)} {m':Option (A' ⊕ T')} {f:T→Option (A ⊕ U)} {f':T'→Option (A' ⊕ U')} {p:A→A'→Prop} {q:U→U'→Prop} (h:Rl m m' (sR p (fun t t'=>Rl (f t) (f' t') (sR p q)))):Rl (Go.Dl.bL m f) (Go.Dl.bL m' f') (sR p q):=by
 rcases h with ⟨rfl,rfl⟩|⟨a,b,rfl,rfl,h⟩
 ·exact Rl.none
 ·match a,b,h with
 |.inl a,.inl b,h=>exact Rl.ret h
 |.inr a,.inr b,h=>exact h
theorem Rl.bI {m:Option ((T ⊕ A) ⊕ T)} {m':Option ((T' ⊕ A') ⊕ T')} {p:A→A'→Prop} {q:T→T'→Prop} (h:Rl m m' (sR (sR q p) q)):Rl (Go.Dl.bI m) (Go.Dl.bI m') (sR p q):=by
 rcases h with ⟨rfl,rfl⟩|⟨a,b,rfl,rfl,h⟩
 ·exact Rl.none
 ·match a,b,h with
 |.inl (.inl a),.inl (.inl b),h=>exact Rl.ret h
 |.inl (.inr a),.inl (.inr b),h=>exact Rl.ret h
 |.inr a,.inr b,h=>exact Rl.ret h
theorem Rl.dX {m:Option A} {m':Option A'} {p:A→A'→Prop} {q:T→T'→Prop} (h:Rl m m' p):Rl (m.map (Sum.inl:A→A ⊕ T)) (m'.map (Sum.inl:A'→A' ⊕ T')) (sR p q):=by
 rcases h with ⟨rfl,rfl⟩|⟨a,b,rfl,rfl,h⟩
 ·exact Rl.none
 ·exact Rl.ret h
theorem Rl.call {m:Option R} {m':Option R'} {f:R→Option α} {f':R'→Option β} {Q:α→β→Prop} {P:R→R'→Prop} (h:Rl m m' P) (hf:∀ v v',P v v'→Rl (f v) (f' v') Q):Rl (m.bind f) (m'.bind f') Q:=by
 rcases h with ⟨rfl,rfl⟩|⟨a,b,rfl,rfl,h⟩
 ·exact Rl.none
 ·exact hf a b h
theorem Rl.yS {m m':Option R} {f:R→Option α} {f':R→Option β} {Q:α→β→Prop} (h:m'=m) (hf:∀ v,Rl (f v) (f' v) Q):Rl (m.bind f) (m'.bind f') Q:=by
 subst h
 cases m'
 ·exact Rl.none
 ·exact hf _
theorem Rl.iter {K:Nat} {f:T→Option (A ⊕ T)} {f':T'→Option (A' ⊕ T')} {t0:T} {t0':T'} {p:A→A'→Prop} (I:T→T'→Prop) (h0:I t0 t0') (hs:∀ t t',I t t'→Rl (f t) (f' t') (sR p I)):Rl (Go.Dl.iter K f t0) (Go.Dl.iter K f' t0') p:=by
 induction K generalizing t0 t0' with
|zero=>exact Rl.none
|succ K ih =>
   unfold Go.Dl.iter
   rcases hs t0 t0' h0 with ⟨h1,h2⟩|⟨a,b,h1,h2,h⟩
   ·rw[h1,h2];exact Rl.none
   ·rw[h1,h2]
    match a,b,h with
   |.inl a,.inl b,h=>exact Rl.ret h
   |.inr a,.inr b,h=>exact ih h
theorem Rl.cT {m:Option (R ⊕ R)} {m':Option (R' ⊕ R')} {p:R→R'→Prop} (h:Rl m m' (sR p p)):Rl (Go.Dl.cT m) (Go.Dl.cT m') p:=by
 rcases h with ⟨rfl,rfl⟩|⟨a,b,rfl,rfl,h⟩
 ·exact Rl.none
 ·match a,b,h with
 |.inl a,.inl b,h=>exact Rl.ret h
 |.inr a,.inr b,h=>exact Rl.ret h
theorem Rl.eq {m m':Option α} (h:Rl m m' (fun a b=>b=a)):m'=m:=by
 rcases h with ⟨rfl,rfl⟩|⟨a,b,rfl,rfl,rfl⟩ <;> rfl
end
abbrev stk (c:gY) (x:Int):gY:=⟨c.cC,c.b9,c.cD,c.dK,x,c.bT⟩
abbrev k8 (im:eW) (cs:List gY) (js:List oN) (d w:Int):eW:=⟨im.bR,im.bE,cs,im.bX,im.bM,im.cG,im.bQ,im.cU,im.b8,js,d,w⟩
structure Cs (a b:List gY):Prop where
 len:b.length=a.length
 at_:∀ i:Nat,∃ x,b.getD i default=stk (a.getD i default) x
abbrev kM (s:c6) (cs:List gY) (js:List oN) (d w x:Int):c6:=⟨k8 s.bP cs js d w,stk s.fc x,s.bN,s.bK,s.bV,s.dN⟩
theorem Cs.cl {a b:List gY} (h:Cs a b) (i:Nat):(b.getD i default).cC=(a.getD i default).cC:=by obtain ⟨x,e⟩:=h.at_ i;rw[e]
theorem Cs.pa {a b:List gY} (h:Cs a b) (i:Nat):(b.getD i default).b9=(a.getD i default).b9:=by obtain ⟨x,e⟩:=h.at_ i;rw[e]
theorem Cs.re {a b:List gY} (h:Cs a b) (i:Nat):(b.getD i default).dK=(a.getD i default).dK:=by obtain ⟨x,e⟩:=h.at_ i;rw[e]
theorem Cs.ops {a b:List gY} (h:Cs a b) (i:Nat):(b.getD i default).bT=(a.getD i default).bT:=by obtain ⟨x,e⟩:=h.at_ i;rw[e]
theorem Cs.refl (a:List gY):Cs a a:=⟨rfl,fun i=>⟨(a.getD i default).cO,rfl⟩⟩
section
variable {K:Nat} {s:c6} {cs:List gY} {js:List oN} {d w x:Int}
theorem aDD (n:Int):pL K (kM s cs js d w x) n=pL K s n:=by kernel_rfl
theorem aDE (n m:Int):yL K (kM s cs js d w x) n m=yL K s n m:=by kernel_rfl
theorem aFI (o:jC):F98 K (kM s cs js d w x) o=F98 K s o:=by kernel_rfl
theorem aFJ (o:jC):F99 K (kM s cs js d w x) o=F99 K s o:=by kernel_rfl
theorem aDF (h:Cs s.bP.bB cs) (o:jC):yN K (kM s cs js d w x) o=yN K s o:=by
 have e1:(kM s cs js d w x).bP.bB=cs:=rfl
 have e2:(kM s cs js d w x).fc.cC=s.fc.cC:=rfl
 have e3:(kM s cs js d w x).bP.bR=s.bP.bR:=rfl
 unfold yN
 simp only[e1,e2,e3,aDD,aDE,h.len,h.cl,h.pa,h.re]
theorem aFK (h:Cs s.bP.bB cs) (o:jC):F84 K (kM s cs js d w x) o=F84 K s o:=by
 have e3:(kM s cs js d w x).bP.bR=s.bP.bR:=rfl
 have e4:(kM s cs js d w x).bP.bQ=s.bP.bQ:=rfl
 have e5:(kM s cs js d w x).bP.bX=s.bP.bX:=rfl
 have e6:(kM s cs js d w x).bP.bE=s.bP.bE:=rfl
 have e7:(kM s cs js d w x).fc.dK=s.fc.dK:=rfl
 unfold F84
 simp only[e3,e4,e5,e6,e7,aFI,aFJ,aDF h]
theorem wT (i:Int) (b:Bytes):Rl (cT (F66 K s i b)) (cT (F66 K (kM s cs js d w x) i b)) (fun v v'=>v'.1=v.1∧v'.2=kM v.2 cs js d w x∧v.2.bP=s.bP∧v.2.fc=s.fc):=by
 refine Rl.cT ?_
 unfold F66
 dsimp only[kM,stk]
 (repeat' (first|(with_reducible first|apply Rl.bO|refine Rl.ite (fun _=>?_) (fun _=>?_)|apply Rl.c5|apply Rl.ret|apply sR.l|apply sR.r)))
 all_goals exact ⟨rfl,rfl,rfl,rfl⟩
theorem aFL (h:Cs s.bP.bB cs) (i:Int):Rl (cT (F67 K s i)) (cT (F67 K (kM s cs js d w x) i)) (fun v v'=>v'.1=v.1∧v'.2=kM v.2 cs js d w x∧v.2.bP=s.bP∧v.2.fc=s.fc):=by
 refine Rl.cT ?_
 have e1:(kM s cs js d w x).fc.bT=s.fc.bT:=rfl
 have e2:(kM s cs js d w x).bK=s.bK:=rfl
 have e3:(kM s cs js d w x).dN=s.dN:=rfl
 unfold F67
 simp only[e1,e2,e3,aFK h]
 (repeat' (first|(with_reducible first|apply Rl.bO|apply Rl.bL|apply Rl.bI|refine Rl.ite (fun _=>?_) (fun _=>?_)|apply Rl.c5|apply Rl.ret|apply sR.l|apply sR.r)))
 refine Rl.yS rfl (fun v1=>?_)
 (repeat' (first|(with_reducible first|apply Rl.bO|apply Rl.bL|apply Rl.bI|refine Rl.ite (fun _=>?_) (fun _=>?_)|apply Rl.c5|apply Rl.ret|apply sR.l|apply sR.r)))
 ·exact ⟨rfl,rfl,rfl,rfl⟩
 refine Rl.yS rfl (fun v2=>?_)
 (repeat' (first|(with_reducible first|apply Rl.bO|apply Rl.bL|apply Rl.bI|refine Rl.ite (fun _=>?_) (fun _=>?_)|apply Rl.c5|apply Rl.ret|apply sR.l|apply sR.r)))
 all_goals (refine Rl.yS rfl (fun v3=>?_);(repeat' (first|(with_reducible first|apply Rl.bO|apply Rl.bL|apply Rl.bI|refine Rl.ite (fun _=>?_) (fun _=>?_)|apply Rl.c5|apply Rl.ret|apply sR.l|apply sR.r))))
 all_goals first
 |exact ⟨rfl,rfl,rfl,rfl⟩
 |skip
 all_goals (refine Rl.call (wT (s:=⟨s.bP,s.fc,s.bN,s.bK,s.bV,_⟩) _ _) (fun v v' hv=>?_);obtain ⟨v1',v2'⟩:=v';obtain ⟨r1,r2,h1,h2⟩:=hv;simp only at r1 r2;subst r1;subst r2;(repeat' (first|(with_reducible first|apply Rl.bO|apply Rl.bL|apply Rl.bI|refine Rl.ite (fun _=>?_) (fun _=>?_)|apply Rl.c5|apply Rl.ret|apply sR.l|apply sR.r))))
 all_goals first
 |exact ⟨rfl,rfl,h1,h2⟩
 |skip
 all_goals (refine Rl.call (wT (s:=⟨v.2.bP,v.2.fc,v.2.bN,v.2.bK,v.2.bV,v.2.dN⟩) _ _) (fun y y' hy=>?_);obtain ⟨y1',y2'⟩:=y';obtain ⟨r1,r2,h3,h4⟩:=hy;simp only at r1 r2;subst r1;subst r2;(repeat' (first|(with_reducible first|apply Rl.bO|apply Rl.bL|apply Rl.bI|refine Rl.ite (fun _=>?_) (fun _=>?_)|apply Rl.c5|apply Rl.ret|apply sR.l|apply sR.r))))
 all_goals exact ⟨rfl,rfl,h3.trans h1,h4.trans h2⟩
end
theorem aBk {K:Nat} {im:eW} {cs:List gY} {js:List oN} {d w:Int} (h:Cs im.bB cs) (n:Int):cT (F48 K (k8 im cs js d w) n)=cT (F48 K im n):=by
 refine Rl.eq (Rl.cT ?_)
 have e1:(k8 im cs js d w).bB=cs:=rfl
 unfold F48
 simp only[e1,h.len,h.ops]
 (repeat' (first|(with_reducible first|apply Rl.bO|apply Rl.bL|apply Rl.bI|apply Rl.dX|refine Rl.ite (fun _=>?_) (fun _=>?_)|apply Rl.c5|apply Rl.ret|apply sR.l|apply sR.r)))
 ·rfl
 obtain ⟨x,hx⟩:=h.at_ n.toNat
 rw[hx]
 refine Rl.call (wT (s:=⟨im,im.bB.getD n.toNat default,List.replicate (Int.ofNat (im.bB.getD n.toNat default).bT.length).toNat default,List.replicate (Int.ofNat (im.bB.getD n.toNat default).bT.length).toNat default,[],0⟩) _ _) (fun v v' hv=>?_)
 obtain ⟨v1',v2'⟩:=v';obtain ⟨r1,r2,h1,h2⟩:=hv;simp only at r1 r2 h1 h2;subst r1;subst r2
 (repeat' (first|(with_reducible first|apply Rl.bO|apply Rl.bL|apply Rl.bI|apply Rl.dX|refine Rl.ite (fun _=>?_) (fun _=>?_)|apply Rl.c5|apply Rl.ret|apply sR.l|apply sR.r)))
 ·rfl
 refine Rl.iter (fun t t'=>t'=kM t cs js d w x∧t.bP=im) ⟨rfl,h1⟩ (fun t t' ht=>?_)
 obtain ⟨rfl,hi⟩:=ht
 (repeat' (first|(with_reducible first|apply Rl.bO|apply Rl.bL|apply Rl.bI|apply Rl.dX|refine Rl.ite (fun _=>?_) (fun _=>?_)|apply Rl.c5|apply Rl.ret|apply sR.l|apply sR.r)))
 ·refine Rl.call (aFL (s:=⟨t.bP,t.fc,t.bN,t.bK,_,t.dN⟩) (by rw[hi];exact h) _) (fun y y' hy=>?_)
  obtain ⟨y1',y2'⟩:=y';obtain ⟨r1,r2,h3,h4⟩:=hy;simp only at r1 r2 h3 h4;subst r1;subst r2
  (repeat' (first|(with_reducible first|apply Rl.bO|apply Rl.bL|apply Rl.bI|apply Rl.dX|refine Rl.ite (fun _=>?_) (fun _=>?_)|apply Rl.c5|apply Rl.ret|apply sR.l|apply sR.r)))
  ·rfl
  ·exact ⟨rfl,h3.trans hi⟩
 ·rfl
end Go.Proofs.YtngjamedgphjiaaGreatDoor

namespace Go.Proofs.YtngjamedgphjiaaGreatDoor
open Go Go.Dl
set_option maxRecDepth 100000
set_option maxHeartbeats 2000000
section
variable {K:Nat} {im:eW} {cs:List gY} {js:List oN} {d w:Int}
theorem aFM (h:Cs im.bB cs) (i:Nat):F23 K (cs.getD i default)=F23 K (im.bB.getD i default):=by
 obtain ⟨x,e⟩:=h.at_ i;rw[e];rfl
theorem aFN (h:Cs im.bB cs) (i:Nat):F29 K (cs.getD i default)=F29 K (im.bB.getD i default):=by
 obtain ⟨x,e⟩:=h.at_ i;rw[e];rfl
theorem aDG (h:Cs im.bB cs):oG K cs=oG K im.bB:=by
 unfold oG wU
 simp only[h.len,aFM h]
theorem aDH (h:Cs im.bB cs):oH K cs=oH K im.bB:=by
 unfold oH wV
 simp only[h.len,aFN h]
theorem aBl (h:Cs im.bB cs) (hj:js.length≤100) (hy:cT (F15 K im)=some true):cT (F15 K (k8 im cs js d w))=some true:=by
 unfold F15 at hy ⊢
 have e1:(k8 im cs js d w).bB=cs:=rfl
 have e2:(k8 im cs js d w).bR=im.bR:=rfl
 have e3:(k8 im cs js d w).bE=im.bE:=rfl
 have e4:(k8 im cs js d w).bX=im.bX:=rfl
 have e5:(k8 im cs js d w).bQ=im.bQ:=rfl
 have e6:(k8 im cs js d w).cU=im.cU:=rfl
 have e7:(k8 im cs js d w).b8=im.b8:=rfl
 have e8:(k8 im cs js d w).bM=im.bM:=rfl
 have e9:(k8 im cs js d w).bU=js:=rfl
 simp only[e1,e2,e3,e4,e5,e6,e7,e8,e9,h.len,aDG h]
 unfold bO at hy ⊢
 dsimp only at hy ⊢
 split at hy
 ·cases hy
 ·rename_i hc
  rw[aH ?_]
  ·exact hy
  ·simp only[aP,aC,rV,aD,not_or] at hc ⊢
   omega
theorem aBm (h:Cs im.bB cs):F16 K (k8 im cs js d w)=F16 K im:=by
 unfold F16
 have e1:(k8 im cs js d w).bB=cs:=rfl
 simp only[e1,aDH h]
theorem aBn:F17 K (k8 im cs js d w)=F17 K im:=by kernel_rfl
theorem aFO (a b:Int):F58 K (k8 im cs js d w) a b=F58 K im a b:=by kernel_rfl
theorem aFP (h:Cs im.bB cs) (n:Int) (l:List Int) (t:List Bytes):F38 K (k8 im cs js d w) n l t=F38 K im n l t:=by
 have e1:(k8 im cs js d w).bB=cs:=rfl
 have e3:(k8 im cs js d w).bE=im.bE:=rfl
 unfold F38
 simp only[e1,e3,h.len,h.cl,h.pa,h.re,aFO]
theorem aBo (h:Cs im.bB cs):F18 K (k8 im cs js d w)=F18 K im:=by
 have e3:(k8 im cs js d w).bE=im.bE:=rfl
 have e2:(k8 im cs js d w).bR=im.bR:=rfl
 unfold F18
 simp only[e2,e3,aFP h]
theorem aFQ (l:List Int):qH K l (k8 im cs js d w)=qH K l im:=by kernel_rfl
theorem aFR (l:List nI):oI K l (k8 im cs js d w)=oI K l im:=by kernel_rfl
theorem aBp (h:Cs im.bB cs):F19 K (k8 im cs im.bU d w)=F19 K im:=by
 have e1:(k8 im cs im.bU d w).bB=cs:=rfl
 unfold F19
 simp only[e1,h.len,h.cl,aFQ,aFR]
theorem aFS:zG K (k8 im im.bB js d w)=zG K im:=by
 unfold zG
 have e1:(k8 im im.bB js d w).bB=im.bB:=rfl
 have e3:(k8 im im.bB js d w).bE=im.bE:=rfl
 simp only[e1,e3,aBk (Cs.refl im.bB)]
theorem aFT (n:Int):F86 K (k8 im im.bB js d w) n=F86 K im n:=by kernel_rfl
theorem aFU:∀ (K:Nat) (kn:Mp lX) (und:Mp Bool) (n:Int),Rl (cT (yR K ⟨im,kn,und⟩ n)) (cT (yR K ⟨k8 im im.bB js d w,kn,und⟩ n)) (fun v v'=>v'.1=v.1∧v'.2=⟨k8 im im.bB js d w,v.2.bN,v.2.cZ⟩∧v.2.bP=im):=by
 intro K
 induction K with
|zero=>intro kn und n;rw[yR,yR];exact Rl.none
|succ K ih =>
   intro kn und n
   refine Rl.cT ?_
   rw[yR,yR]
   simp only[aFT]
   (repeat' (first|(with_reducible first|apply Rl.bO|apply Rl.bL|apply Rl.bI|apply Rl.dX|refine Rl.ite (fun _=>?_) (fun _=>?_)|apply Rl.c5|apply Rl.ret|apply sR.l|apply sR.r)))
   ·exact ⟨rfl,rfl,rfl⟩
   ·exact ⟨rfl,rfl,rfl⟩
   refine Rl.yS rfl (fun v=>?_)
   (repeat' (first|(with_reducible first|apply Rl.bO|apply Rl.bL|apply Rl.bI|apply Rl.dX|refine Rl.ite (fun _=>?_) (fun _=>?_)|apply Rl.c5|apply Rl.ret|apply sR.l|apply sR.r)))
   refine Rl.iter (fun t t'=>t'.2=t.2∧t'.1=⟨k8 im im.bB js d w,t.1.bN,t.1.cZ⟩∧t.1.bP=im) ⟨rfl,rfl,rfl⟩ (fun t t' ht=>?_)
   obtain ⟨⟨im1,kn1,un1⟩,t2⟩:=t
   obtain ⟨t1',t2'⟩:=t'
   obtain ⟨h1,h2,h3⟩:=ht
   simp only at h1 h2 h3
   subst h1;subst h2;subst h3
   (repeat' (first|(with_reducible first|apply Rl.bO|apply Rl.bL|apply Rl.bI|apply Rl.dX|refine Rl.ite (fun _=>?_) (fun _=>?_)|apply Rl.c5|apply Rl.ret|apply sR.l|apply sR.r)))
   ·refine Rl.call (ih _ _ _) (fun y y' hy=>?_)
    obtain ⟨y1',y2'⟩:=y'
    obtain ⟨q1,q2,q3⟩:=hy
    simp only at q1 q2 q3
    subst q1;subst q2
    (repeat' (first|(with_reducible first|apply Rl.bO|apply Rl.bL|apply Rl.bI|apply Rl.dX|refine Rl.ite (fun _=>?_) (fun _=>?_)|apply Rl.c5|apply Rl.ret|apply sR.l|apply sR.r)))
    exact ⟨rfl,rfl,q3⟩
   ·refine Rl.yS rfl (fun v=>?_)
    (repeat' (first|(with_reducible first|apply Rl.bO|apply Rl.bL|apply Rl.bI|apply Rl.dX|refine Rl.ite (fun _=>?_) (fun _=>?_)|apply Rl.c5|apply Rl.ret|apply sR.l|apply sR.r)))
    exact ⟨rfl,rfl,rfl⟩
end
end Go.Proofs.YtngjamedgphjiaaGreatDoor

namespace Go.Proofs.YtngjamedgphjiaaGreatDoor
open Go Go.Dl
set_option maxRecDepth 100000
set_option maxHeartbeats 2000000
theorem aFV {K:Nat} {im:eW} {js:List oN} {d w:Int}:cT (F49 K (k8 im im.bB js d w))=cT (F49 K im):=by
 refine Rl.eq (Rl.cT ?_)
 have e1:(k8 im im.bB js d w).bB=im.bB:=rfl
 unfold F49
 simp only[e1]
 (repeat' (first|(with_reducible first|apply Rl.bO|apply Rl.bL|apply Rl.bI|apply Rl.dX|refine Rl.ite (fun _=>?_) (fun _=>?_)|apply Rl.c5|apply Rl.ret|apply sR.l|apply sR.r)))
 refine Rl.iter (fun t t'=>(⟨t.1,t.2.1,t.2.2.1,t.2.2.2.1,t.2.2.2.2.1,t.2.2.2.2.2.1,t.2.2.2.2.2.2.1,t.2.2.2.2.2.2.2.1,t.2.2.2.2.2.2.2.2.1,t.2.2.2.2.2.2.2.2.2.1,t.2.2.2.2.2.2.2.2.2.2.1,t.2.2.2.2.2.2.2.2.2.2.2.1⟩:eW)=im∧(⟨t'.1,t'.2.1,t'.2.2.1,t'.2.2.2.1,t'.2.2.2.2.1,t'.2.2.2.2.2.1,t'.2.2.2.2.2.2.1,t'.2.2.2.2.2.2.2.1,t'.2.2.2.2.2.2.2.2.1,t'.2.2.2.2.2.2.2.2.2.1,t'.2.2.2.2.2.2.2.2.2.2.1,t'.2.2.2.2.2.2.2.2.2.2.2.1⟩:eW)=k8 im im.bB js d w∧t'.2.2.2.2.2.2.2.2.2.2.2.2=t.2.2.2.2.2.2.2.2.2.2.2.2) ⟨rfl,rfl,rfl⟩ (fun t t' ht=>?_)
 obtain ⟨x1,x2,x3,x4,x5,x6,x7,x8,x9,kN,x11,x12,r⟩:=t
 obtain ⟨y1,y2,y3,y4,y5,y6,y7,y8,y9,y10,y11,y12,r'⟩:=t'
 obtain ⟨h1,h2,h3⟩:=ht
 simp only at h1 h2 h3
 subst h3
 simp only[h1,h2]
 (repeat' (first|(with_reducible first|apply Rl.bO|apply Rl.bL|apply Rl.bI|apply Rl.dX|refine Rl.ite (fun _=>?_) (fun _=>?_)|apply Rl.c5|apply Rl.ret|apply sR.l|apply sR.r)))
 ·exact ⟨rfl,rfl,rfl⟩
 ·refine Rl.call (aFU _ _ _ _) (fun v v' hv=>?_)
  obtain ⟨v1',v2'⟩:=v'
  obtain ⟨q1,q2,q3⟩:=hv
  simp only at q1 q2 q3
  subst q1;subst q2
  (repeat' (first|(with_reducible first|apply Rl.bO|apply Rl.bL|apply Rl.bI|apply Rl.dX|refine Rl.ite (fun _=>?_) (fun _=>?_)|apply Rl.c5|apply Rl.ret|apply sR.l|apply sR.r)))
  ·rfl
  ·exact ⟨q3,rfl,rfl⟩
 ·rfl
theorem aBq {x b:Int} (h1:1≤b) (h2:b≤9):IntKind.i64.wrap (x+b)≠x:=by
 rw[IntKind.wrap_i64];omega
theorem aDI {x b:Int} (h1:1≤b) (h2:b≤9):IntKind.i64.wrap (x - b)≠x:=by
 rw[IntKind.wrap_i64];omega
theorem aDJ {K:Nat} {a n:Int} (h1:1≤n) (h2:n≤1000):eA (F9 K a n) (fun v=>0≤v∧v<n):=by
 have hn:IntKind.u64.wrap n=n:=by show n % 18446744073709551616=n;omega
 refine eA.of ?_
 unfold F9
 rw[hn]
 have ha:0≤IntKind.u64.wrap a:=by show 0≤a % 18446744073709551616;omega
 have hb:0≤(IntKind.u64.wrap a).tmod n∧(IntKind.u64.wrap a).tmod n<n:=by
  rw[Int.tmod_eq_emod_of_nonneg ha]
  exact ⟨Int.emod_nonneg _ (by omega),Int.emod_lt_of_pos _ (by omega)⟩
 refine bF.c5 (by simp;omega) (bF.cJ (bF.bO ?_))
 rw[wrap64 (by omega) (by omega)]
 (repeat' (first|(with_reducible first|apply bF.bO|apply bF.cJ|apply bF.ret|apply sE.l|apply sE.r)))
 exact hb
theorem aHH {K:Nat} {im:eW} {d w:Int} (hy:cT (F21 K im)=some true) (h:d≠im.fD∨w≠im.fW):cT (F21 K (k8 im im.bB im.bU d w))=some false:=by
 unfold F21 at hy ⊢
 rw[aFV]
 cases hv:cT (F49 K im) with
|none=>rw[hv] at hy;cases hy
|some v =>
   rw[hv] at hy
   have hy:(v.2.2 && v.1 == im.fD && v.2.1 == im.fW)=true:=by
    have:some (v.2.2 && v.1 == im.fD && v.2.1 == im.fW)=some true:=hy
    exact Option.some.inj this
   simp only[aB,beq_iff_eq] at hy
   show some (v.2.2 && v.1 == d && v.2.1 == w)=some false
   obtain ⟨⟨h1,h2⟩,h3⟩:=hy
   rw[h1,h2,h3]
   congr 1
   rcases h with h|h
   ·have:(im.fD == d)=false:=by simpa using fun e=>h e.symm
    rw[this];rfl
   ·have:(im.fW == w)=false:=by simpa using fun e=>h e.symm
    rw[this];simp
theorem aDK {K:Nat} {im:eW} {d w:Int} {m:Nat} (hs:Sm im m) (hy:Yes K im) (h:d≠im.fD∨w≠im.fW):rW K (k8 im im.bB im.bU d w)=some (.inl [98,111,117,110,100,115]):=by
 have hj:=hs.aHo
 exact nF (aBl (Cs.refl _) (by omega) hy.y1) (fun _=>by rw[aBm (Cs.refl _)];exact hy.y2) (fun _ _=>by rw[aBn];exact hy.y3) (fun _ _ _=>by rw[aBo (Cs.refl _)];exact hy.y4) (fun _ _ _ _=>by rw[aBp (Cs.refl _)];exact hy.y5)
  (fun _ _ _ _ _=>by rw[aFS];exact hy.y6) (fun _ _ _ _ _ _=>aHH hy.y7 h)
structure OkC (K:Nat) (a0:eW) (i:Nat):Prop where
 c:(((decide ((((a0.bB.getD i default).cC):Int)<(-1))) || (decide ((((a0.bB.getD i default).cC):Int) ≥ (Int.ofNat a0.bE.length)))) || (((((a0.bB.getD i default).cC):Int) == (-1)) && ((!(((a0.bB.getD i default).b9) == ([]:Bytes))) || ((a0.bB.getD i default).dK))))=false
 f:cT (F48 K a0 (i:Int))=some ((a0.bB.getD i default).cO,true)
theorem aFW {K:Nat} {a0:eW} {m:Nat} (hK:1000<K) (hm:m≤1) (h:Sm a0 m):eA (zG K a0) (fun v=>v=true→∀ i,i<a0.bB.length→OkC K a0 i):=by
 have hl:=h.tJ
 refine eA.of ?_
 unfold zG
 refine bF.bL (bF.bI (bF.dX ?_))
 refine bF.upP a0.bB.length (fun i=>OkC K a0 i) (by omega) (fun i hi=>?_) (fun hp=>?_)
 ·refine bF.bO (bF.dF (by simp only[aD,aC];omega) ?_)
  refine bF.bL (bF.bI (bF.c5 (gC hi) (bF.cJ (bF.bO (bF.ite (fun _=>?_) (fun hc=>?_))))))
  ·(repeat' (first|(with_reducible first|apply bF.bO|apply bF.bL|apply bF.bI|refine bF.dF (by assumption) ?_|refine bF.dB (by assumption) ?_|refine bF.ite (fun _=>?_) (fun _=>?_)|apply bF.cJ|apply bF.ret|apply sE.l|apply sE.r)))
   (all_goals (try (first|trivial|(intro h;cases h;done))))
  obtain ⟨v,hv,_⟩:=aBj (K:=K) (n:=(i:Int)) hK hm h
  refine bF.call (eA.eq hv) (fun v' hv'=>?_)
  subst hv'
  refine bF.bO (bF.ite (fun _=>?_) (fun hc2=>?_))
  ·(repeat' (first|(with_reducible first|apply bF.bO|apply bF.bL|apply bF.bI|refine bF.dF (by assumption) ?_|refine bF.dB (by assumption) ?_|refine bF.ite (fun _=>?_) (fun _=>?_)|apply bF.cJ|apply bF.ret|apply sE.l|apply sE.r)))
   (all_goals (try (first|trivial|(intro h;cases h;done))))
  (repeat' (first|(with_reducible first|apply bF.bO|apply bF.bL|apply bF.bI|refine bF.dF (by assumption) ?_|refine bF.dB (by assumption) ?_|refine bF.ite (fun _=>?_) (fun _=>?_)|apply bF.cJ|apply bF.ret|apply sE.l|apply sE.r)))
  refine ⟨wrap64 (by omega) (by omega),?_,?_⟩
  ·simpa only[aM,Bool.not_eq_true] using hc
  ·rw[hv]
   simp only[aM,Bool.not_eq_true,Bool.or_eq_false_iff,Bool.not_eq_false',bne_eq_false_iff_eq] at hc2
   obtain ⟨v1,v2⟩:=v'
   simp only at hc2
   rw[hc2.1,hc2.2]
 ·refine bF.bO (bF.dB (by simp) ?_)
  (repeat' (first|(with_reducible first|apply bF.bO|apply bF.bL|apply bF.bI|refine bF.dF (by assumption) ?_|refine bF.dB (by assumption) ?_|refine bF.ite (fun _=>?_) (fun _=>?_)|apply bF.cJ|apply bF.ret|apply sE.l|apply sE.r)))
  exact fun _=>hp
theorem aFX {K:Nat} {im:eW} {cs:List gY} {js:List oN} {d w y:Int} {m k:Nat} (hK:1000<K) (hs:Sm im m) (h:Cs im.bB cs) (hk:k<im.bB.length) (ho:∀ i,i<im.bB.length→OkC K im i) (hy:(cs.getD k default).cO≠(im.bB.getD k default).cO):eA (zG K (k8 im cs js d w)) (fun v=>v=false):=by
 have hl:=hs.tJ
 have e1:(k8 im cs js d w).bB=cs:=rfl
 have e3:(k8 im cs js d w).bE=im.bE:=rfl
 refine eA.of ?_
 unfold zG
 simp only[e1,e3,aBk h,h.len,h.cl,h.pa,h.re]
 refine bF.bL (bF.bI (bF.dX ?_))
 refine bF.upP im.bB.length (fun i=>i≠k) (by omega) (fun i hi=>?_) (fun hp=>absurd rfl (hp k hk))
 refine bF.bO (bF.dF (by simp only[aD,aC];omega) ?_)
 refine bF.bL (bF.bI (bF.c5 (gC hi) (bF.cJ (bF.bO (bF.ite (fun _=>?_) (fun hc=>?_))))))
 ·(repeat' (first|(with_reducible first|apply bF.bO|apply bF.bL|apply bF.bI|refine bF.dF (by assumption) ?_|refine bF.dB (by assumption) ?_|refine bF.ite (fun _=>?_) (fun _=>?_)|apply bF.cJ|apply bF.ret|apply sE.l|apply sE.r)))
  (all_goals (try (first|trivial|(intro h;cases h;done))))
 refine bF.call (eA.eq (ho i hi).f) (fun v' hv'=>?_)
 subst hv'
 refine bF.bO (bF.ite (fun _=>?_) (fun hc2=>?_))
 ·(repeat' (first|(with_reducible first|apply bF.bO|apply bF.bL|apply bF.bI|refine bF.dF (by assumption) ?_|refine bF.dB (by assumption) ?_|refine bF.ite (fun _=>?_) (fun _=>?_)|apply bF.cJ|apply bF.ret|apply sE.l|apply sE.r)))
  (all_goals (try (first|trivial|(intro h;cases h;done))))
 (repeat' (first|(with_reducible first|apply bF.bO|apply bF.bL|apply bF.bI|refine bF.dF (by assumption) ?_|refine bF.dB (by assumption) ?_|refine bF.ite (fun _=>?_) (fun _=>?_)|apply bF.cJ|apply bF.ret|apply sE.l|apply sE.r)))
 refine ⟨wrap64 (by omega) (by omega),fun e=>?_⟩
 subst e
 simp only[aM,Bool.not_eq_true,Bool.or_eq_false_iff,Bool.not_eq_false',bne_eq_false_iff_eq] at hc2
 exact hy hc2.2.symm
theorem aHI {K:Nat} {im:eW} {m:Nat} (hK:2000000<K) (hm:m≤1) (h:Sm im m):eA (F7 K im) (fun e=>e=none→Yes K im):=by
 refine eA.of ?_
 unfold F7
 refine bF.call (aFD hK hm h) (fun v hv=>?_)
 refine bF.ite (fun _=>?_) (fun hc=>?_)
 ·refine bF.call (eA.eq (r:=some (20,0)) rfl) (fun e he=>?_)
  subst he
  (repeat' (first|(with_reducible first|refine bF.dF (by assumption) ?_|refine bF.dB (by assumption) ?_|refine bF.ite (fun _=>?_) (fun _=>?_)|apply bF.ret|apply sE.l|apply sE.r)))
  simp
 ·(repeat' (first|(with_reducible first|refine bF.dF (by assumption) ?_|refine bF.dB (by assumption) ?_|refine bF.ite (fun _=>?_) (fun _=>?_)|apply bF.ret|apply sE.l|apply sE.r)))
  have nB:v=[]:=by simpa using hc
  exact fun _=>hv nB
theorem wW {K:Nat} (hK:2000000<K):eA (F8 K) (fun v=>v=true):=eA.eq (aFH hK)
theorem aHJ {K:Nat} {im:eW} {k b:Int} (hK:2000000<K):eA (F3 K im k b) (fun v=>v=true):=by
 refine eA.of ?_
 unfold F3
 refine bF.call (aHp (by omega)) (fun v1 h1=>?_)
 cases v1
 case true =>
  refine bF.cF (P:=fun _=>True) (fun h=>by cases h) (fun e _=>?_)
  refine bF.dF rfl (bF.call (wW hK) (fun v hv=>?_))
  (repeat' (first|(with_reducible first|apply bF.bO|refine bF.dF (by assumption) ?_|refine bF.dB (by assumption) ?_|refine bF.ite (fun _=>?_) (fun _=>?_)|apply bF.cJ|apply bF.ret|apply sE.l|apply sE.r)))
  exact hv
 case false =>
  have hs:=h1 rfl
  refine bF.cF (fun _=>aHI hK (by omega) hs) (fun e he=>?_)
  have he:=he rfl
  refine bF.ite (fun _=>?_) (fun hc=>?_)
  ·refine bF.call (wW hK) (fun v hv=>?_)
   (repeat' (first|(with_reducible first|apply bF.bO|refine bF.dF (by assumption) ?_|refine bF.dB (by assumption) ?_|refine bF.ite (fun _=>?_) (fun _=>?_)|apply bF.cJ|apply bF.ret|apply sE.l|apply sE.r)))
   exact hv
  have hy:Yes K im:=by
   refine he ?_
   cases e with
  |none=>rfl
  |some x=>exact absurd rfl hc
  refine bF.call (aDJ (by omega) (by omega)) (fun r4 hr=>?_)
  have hw:IntKind.i64.wrap (1+r4)=1+r4:=wrap64 (by omega) (by omega)
  rw[hw]
  have ha:=aDK (d:=IntKind.i64.wrap (im.fD+(1+r4))) (w:=im.fW) hs hy (Or.inl (aBq (by omega) (by omega)))
  have hb:=aDK (d:=im.fD) (w:=IntKind.i64.wrap (im.fW - (1+r4))) hs hy (Or.inr (aDI (by omega) (by omega)))
  refine bF.call (eA.eq (r:=[98,111,117,110,100,115]) (congrArg cT ha)) (fun v7 h7=>?_)
  subst h7
  refine bF.bO (bF.cF (fun _=>eA.eq (r:=[98,111,117,110,100,115]) (congrArg cT hb)) (fun v9 h9=>?_))
  have h9:=h9 rfl
  subst h9
  refine bF.bO (bF.dB (by decide) ?_)
  refine bF.ite (fun _=>?_) (fun hn=>?_)
  ·refine bF.call (wW hK) (fun v hv=>?_)
   (repeat' (first|(with_reducible first|apply bF.bO|refine bF.dF (by assumption) ?_|refine bF.dB (by assumption) ?_|refine bF.ite (fun _=>?_) (fun _=>?_)|apply bF.cJ|apply bF.ret|apply sE.l|apply sE.r)))
   exact hv
  have hn:im.bB.length≠0:=by
   intro e
   rw[e] at hn
   exact hn rfl
  have hcl:=hs.tJ
  refine bF.c5 (by simp only[room,aC];omega) (bF.cJ ?_)
  refine bF.cF (fun _=>aDJ (by simp;omega) (by simp;omega)) (fun gL h12=>?_)
  have h12:=h12 rfl
  simp only[aD] at h12
  have hi:cR gL im.bB.length=true:=by simp only[cR,aB,aC];omega
  refine bF.c5 hi (bF.c5 hi (bF.cJ (bF.bO ?_)))
  obtain ⟨q,hq⟩:∃ q:Nat,gL.toNat=q:=⟨_,rfl⟩
  have hql:q<im.bB.length:=by omega
  rw[hq]
  generalize hx:IntKind.i64.wrap ((im.bB.getD q default).cO+(1+r4))=x
  have hne:x≠(im.bB.getD q default).cO:=by rw[← hx];exact aBq (by omega) (by omega)
  have hcs:Cs im.bB (im.bB.set q (stk (im.bB.getD q default) x)):=by
   refine ⟨by simp,fun i=>?_⟩
   by_cases h:i=q
   ·subst h
    exact ⟨x,by rw[List.getD,List.getElem?_set_self hql];rfl⟩
   ·exact ⟨(im.bB.getD i default).cO,by rw[List.getD,List.getElem?_set_ne (fun e=>h e.symm)];rfl⟩
  obtain ⟨v20,h20,ho⟩:=aFW (K:=K) (by omega) (by omega) hs
  have aLP:v20=true:=by have:=hy.y6;rw[h20] at this;exact Option.some.inj this
  obtain ⟨bb,hbb,ebb⟩:=aFX (K:=K) (js:=im.bU) (d:=im.fD) (w:=im.fW) (y:=0) (by omega) hs hcs hql (ho aLP) (by rw[List.getD,List.getElem?_set_self hql];exact hne)
  subst ebb
  have hj:=hs.aHo
  have aLQ:rW K (k8 im (im.bB.set q (stk (im.bB.getD q default) x)) im.bU im.fD im.fW)=some (.inl [99,111,100,101,115]) :=
   nF (b2:=true) (b3:=true) (b4:=true) (b5:=true) (b7:=true) (aBl hcs (by omega) hy.y1) (fun _=>by rw[aBm hcs];exact hy.y2) (fun _ _=>by rw[aBn];exact hy.y3) (fun _ _ _=>by rw[aBo hcs];exact hy.y4) (fun _ _ _ _=>by rw[aBp hcs];exact hy.y5)
    (fun _ _ _ _ _=>hbb) (fun _ _ _ _ _ h=>by cases h)
  refine bF.call (eA.eq (r:=[99,111,100,101,115]) (congrArg cT aLQ)) (fun v14 h14=>?_)
  subst h14
  refine bF.cF (fun _=>wW hK) (fun v15 h15=>?_)
  have h15:=h15 rfl
  subst h15
  (repeat' (first|(with_reducible first|apply bF.bO|refine bF.dF (by assumption) ?_|refine bF.dB (by assumption) ?_|refine bF.ite (fun _=>?_) (fun _=>?_)|apply bF.cJ|apply bF.ret|apply sE.l|apply sE.r)))
  rfl
theorem aAg (im:eW) (k b:Int):cT (F3 2000001 im k b)=some true:=by
 obtain ⟨v,h,e⟩:=aHJ (K:=2000001) (im:=im) (k:=k) (b:=b) (by omega)
 rw[h,e]
end Go.Proofs.YtngjamedgphjiaaGreatDoor
