/- No conditions. -/
import Derived.Test.YtidjangjfekfjaaGreatDoorLCe
import Derived.Test.YtidjangjfekfjaaGreatDoorIs
set_option linter.unusedVariables false
set_option linter.unusedSimpArgs false
set_option linter.unusedSectionVars false
namespace Go.Proofs.YtidjangjfekfjaaGreatDoor
open Go Go.Proofs Go.RowKit Go.Dl Go.Shelf
set_option maxRecDepth 100000
theorem cQ.aLY {P:Program} {R:Type} {f:FuncId} {args:List D} {mr:Option R} {res:R→D}
 (h:∀ S β w vs,fT.I w→Holds S w→iY S β args vs→∀ r,mr=some r→Calls P f vs.toArray w fun e w'=>∃ v S',e = .returned v∧eI S' β (res r) v∧lP S S'∧(∀ b i,b<w.heap.size→S' b i=S b i)∧Holds S' w'∧Up w w'):cQ P f args [] mr res (fun _=>[]):=by
 intro S β w vs hc hv r hr
 refine (h S β w vs hc.inv hc.holds hv r hr).mono fun e w' ⟨v,S',he,hd,hm,hs,hh,hu⟩=>?_
 exact ⟨v,S',β,he,hd,fun o k ho _=>by simp at ho,⟨⟨hu.os,hu.tape,hu.output,hu.size,fun b hb _=>hu.block b hb,fun b i hb _=>hs b i hb,hm,hc.frame.aGe,hc.frame.inv⟩,hh,fun o x hx=>by simp at hx,hc.out,fun o o' k k' x x' hx=>by simp at hx,fun o k x hx=>by simp at hx,fun o k x hx=>by simp at hx⟩⟩
def F34 (K:Nat):mF→Option (mF ⊕ mF)
 | []=>some (.inl [])
 | [x]=>if x.1=1∨x.1=2∨x.1=5 then some (.inl [x,x]) else none
 | _=>none
theorem aC4 (w:World):Calls Tryz.prog 34 #[.nilIface] w fun e w'=>e = .returned .nilIface∧RowKit.Below w.heap.size w w':=by
 have hn:=fun (b:Addr) (w:World)=>run_eql_iface_nil_left (P:=Tryz.prog) w 96 (.pointer (some b)) Tryz.underlying27
 go_enter Tryz.func34,Tryz.ntmps34
 go_wp2
 refine wp_loop_rounds 4 ?_
 rw[rounds_succ]
 go_wp2
 rw[rounds_succ]
 go_wp2
 rw[rounds_succ]
 go_wp2
 rw[rounds_succ]
 go_wp2
 go_ret
 exact ⟨rfl,((iX _ _).trans ((iX _ _).mono (by simp))).trans (((iX _ _).mono (by simp <;> omega)).trans ((iX _ _).mono (by simp <;> omega)))⟩
theorem aJA {b off:Nat} {c a:Int} {w:World} (L:Lf b off c a w) (hc:c=1∨c=2∨c=5):Calls Tryz.prog 34 #[.iface 96 (.pointer (some ⟨b,off,none⟩))] w (pF b off c a w):=by
 rcases hc with rfl | rfl | rfl
 ·exact aHr b off w a L
 ·exact aHs b off w a L
 ·exact aFC b off w a L
theorem aUc (K:Nat) (a0:mF):cQ Tryz.prog 34 [.c (fH a0)] [] (b5 (F34 K a0)) (fun r=>.c (fH r)) (fun r=>[]):=by
 refine cQ.aLY fun S β w vs hI hH hv r hr=>?_
 obtain ⟨v0,r0,rfl,h0,rfl⟩:=hv
 match a0,h0,hr with
 | [],h0,hr =>
   obtain rfl:[]=r:=by simpa [F34,b5] using hr
   obtain rfl:v0 = .nilIface:=h0
   exact (aC4 w).mono fun e w' ⟨he,hw⟩=>⟨_,S,he,pY S β _ rfl,lP.refl _,fun _ _ _=>rfl,fun b i v hv=>by
    obtain ⟨h1,h2⟩:=hH b i v hv
    exact ⟨Up.cell (oD hw) h1,h2⟩,oD hw⟩
 | [(c,a)],h0,hr =>
   change b5 (if c=1∨c=2∨c=5 then some (.inl [(c,a),(c,a)]) else none:Option (mF ⊕ mF))=some r at hr
   split at hr
   ·rename_i hc
    obtain rfl:[(c,a),(c,a)]=r:=by simpa [b5] using hr
    obtain ⟨u,rfl,b,off,rfl,hb⟩:=id h0
    obtain ⟨u0,s0,r0⟩:=hb 0 (by omega)
    obtain ⟨u1,s1,r1⟩:=hb 1 (by omega)
    obtain ⟨u2,s2,r2⟩:=hb 2 (by omega)
    obtain rfl:u0 = .int .i64 c:=r0
    obtain rfl:u1 = .int .i64 a:=r1
    obtain rfl:u2 = .nilIface:=r2
    have L:Lf b off c a w:=⟨(hH _ _ _ s0).1,(hH _ _ _ s1).1,(hH _ _ _ s2).1,WI.err hI⟩
    refine (aJA L hc).mono fun e w' ⟨B,he,hB,hn,hw⟩=>?_
    have hnone:∀ i,S B i=none:=by
     intro i
     cases hs:S B i with
     | none=>rfl
     | some v =>
       have:=aFA (hH B i v hs).1
       dsimp only at this
       omega
    have hle:lP S (xX S B [.int .i64 c,.int .i64 a,.iface 96 (.pointer (some ⟨b,off,none⟩))]):=by
     intro b' i v hv
     unfold xX
     by_cases hb:b'=B
     ·subst hb;rw[hnone] at hv;cases hv
     ·rw[aG hb];exact hv
    have hp:dN (xX S B [.int .i64 c,.int .i64 a,.iface 96 (.pointer (some ⟨b,off,none⟩))]) qD (fH [(c,a)]) (.iface 96 (.pointer (some ⟨b,off,none⟩))):=by
     refine ⟨_,rfl,b,off,rfl,fun j hj=>?_⟩
     obtain ⟨u,hu,hr⟩:=hb j hj
     exact ⟨u,hle _ _ _ hu,dN.mono hle _ _ _ hr⟩
    refine ⟨_,xX S B [.int .i64 c,.int .i64 a,.iface 96 (.pointer (some ⟨b,off,none⟩))],he,?_,hle,fun b' i hb'=>?_,fun b' i v hv=>?_,oD hw⟩
    ·refine ⟨_,rfl,B,0,rfl,fun j hj=>?_⟩
     have:j=0∨j=1∨j=2:=by omega
     rcases this with rfl | rfl | rfl
     ·exact ⟨_,by unfold xX;rw[aJ rfl];rfl,rfl⟩
     ·exact ⟨_,by unfold xX;rw[aJ rfl];rfl,rfl⟩
     ·exact ⟨_,by unfold xX;rw[aJ rfl];rfl,hp⟩
    ·unfold xX;rw[aG (by omega)]
    ·unfold xX at hv
     by_cases hb':b'=B
     ·subst hb'
      rw[aJ rfl] at hv
      refine ⟨by rw[cell_of_heap hn,List.getElem?_toArray];exact hv,?_⟩
      have:i=0∨i=1∨i=2∨3≤i:=by omega
      rcases this with rfl | rfl | rfl | hi
      ·cases hv;rfl
      ·cases hv;rfl
      ·cases hv;rfl
      ·rw[aZ (by simpa using hi)] at hv;cases hv
     ·rw[aG hb'] at hv
      obtain ⟨h1,h2⟩:=hH b' i v hv
      exact ⟨Up.cell (oD hw) h1,h2⟩
   ·cases hr
 | _::_::_,h0,hr=>cases hr
end Go.Proofs.YtidjangjfekfjaaGreatDoor
