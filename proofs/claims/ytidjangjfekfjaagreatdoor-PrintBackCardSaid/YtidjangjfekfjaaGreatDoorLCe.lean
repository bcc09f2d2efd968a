/- No conditions. -/
import Derived.Test.YtidjangjfekfjaaGreatDoorLCd
import Derived.Test.YtidjangjfekfjaaGreatDoorPSh
import Derived.Test.YtidjangjfekfjaaGreatDoorWr
import Derived.Lib.AtoiErrMem
import Derived.Test.YtidjangjfekfjaaGreatDoorPBd
import Derived.Lib.ItoaLen
set_option linter.unusedVariables false
set_option linter.unusedSimpArgs false
set_option linter.unusedSectionVars false
namespace Go.Proofs.YtidjangjfekfjaaGreatDoor
open Go Go.Proofs Go.Dl
set_option maxRecDepth 100000
theorem oD {w w':World} (h:RowKit.Below w.heap.size w w'):Up w w':=h
theorem aQP (K:Nat) (a0 a1:Bytes):cQ Tryz.prog 111  [.c (.str a0),.c (.str a1)] [] (b5 (aOw K a0 a1)) (fun r=>.c (.val (.int .i64 r))) (fun r=>[]):=by
 refine cQ.aCj fun S β w vs hI hv r hr=>?_
 obtain ⟨v0,r0,rfl,⟨h0,hl⟩,v1,r1,rfl,⟨h1,hl1⟩,rfl⟩:=hv
 subst h0;subst h1
 unfold aOw at hr
 split at hr
 ·rename_i hs
  simp only[b5,aF] at hr
  subst hr
  obtain ⟨m,hm⟩:=WI.max hI
  exact (Tryz.strings_Index ⟨a0.toArray⟩ ⟨a1.toArray⟩ m w hs hm).mono fun e w' ⟨he,hw⟩=>⟨_,he,rfl,by rw[hw];exact Up.refl w⟩
 ·cases hr
theorem aFD:∀ (l cur:Bytes),(∀ x∈Lib.fieldsGo cur l,x.length≤cur.length+l.length)∧(Lib.fieldsGo cur l).length≤cur.length+l.length:=by
 intro l
 induction l with
 | nil =>
   intro cur
   unfold Lib.fieldsGo
   split
   ·exact ⟨fun x hx=>(by cases hx),by simp⟩
   ·rename_i h
    refine ⟨fun x hx=>?_,?_⟩
    ·simp only[aS] at hx;subst hx;simp
    ·cases cur with
     | nil=>simp at h
     | cons a r=>simp
 | cons b r ih =>
   intro cur
   unfold Lib.fieldsGo
   have h0:=ih []
   split
   ·split
    ·exact ⟨fun x hx=>by have:=h0.1 x hx;simp at this ⊢;omega,by have:=h0.2;simp at this ⊢;omega⟩
    ·rename_i h
     have hc:1≤cur.length:=by
      cases cur with
      | nil=>simp at h
      | cons a t=>simp
     refine ⟨fun x hx=>?_,by have:=h0.2;simp at this ⊢;omega⟩
     rcases aT.1 hx with rfl | hx
     ·simp
     ·have:=h0.1 x hx;simp at this ⊢;omega
   ·have h1:=ih (cur++[b])
    exact ⟨fun x hx=>by have:=h1.1 x hx;simp at this ⊢;omega,by have:=h1.2;simp at this ⊢;omega⟩
theorem aQQ (K:Nat) (a0:Bytes):cQ Tryz.prog 137  [.c (.str a0)] [] (b5 (aJx K a0)) (fun r=>.c (E9.tree r)) (fun r=>[]):=by
 have hmr:∀ r,b5 (aJx K a0)=some r→a0.length<4294967281∧(a0.all (fun b=>decide (b.toNat<128))=true)∧r=Lib.fields a0:=by
  intro r hr
  unfold aJx at hr
  split at hr
  ·rename_i h
   simp only[b5,aF] at hr
   exact ⟨h.1,h.2,hr.symm⟩
  ·cases hr
 have hlen:(∀ x∈Lib.fields a0,x.length≤a0.length)∧(Lib.fields a0).length≤a0.length:=by
  have:=aFD a0 []
  simpa [Lib.fields] using this
 refine cQ.fresh (dR:=fun r=>r) (ty:=9) (fun x:Bytes=>Value.string ⟨x.toArray⟩) rfl (fun r hr x hx=>⟨rfl,fun S=>?_⟩) (fun S β w vs hI hv r hr=>?_)
 ·obtain ⟨hl,_,rfl⟩:=hmr r hr
  have:=hlen.1 x hx
  exact ⟨rfl,by unfold maxLen;omega⟩
 ·obtain ⟨hl,ha,rfl⟩:=hmr r hr
  obtain ⟨v0,r0,rfl,⟨h0,_⟩,rfl⟩:=hv
  subst h0
  have h2:=hlen.2
  refine ⟨by show (Lib.fields a0).length≤maxLen;unfold maxLen;omega,(Tryz.strings_Fields ⟨a0.toArray⟩ w hl (fun j b hb=>?_) (WI.tab hI)).mono fun e w' ⟨he,hw⟩=>⟨he,hw⟩⟩
  rw[aW] at ha
  have:=ha b (List.mem_of_getElem? hb)
  simpa using this
theorem aQR (K:Nat) (a0:Bytes):cQ Tryz.prog 115  [.c (.str a0)] [] (b5 (aLW K a0)) (fun r=>.lG [.c (.val (.int .i64 r.1)),.c (.iface r.2 193 .bot)]) (fun r=>[]):=by
 refine cQ.aCj fun S β w vs hI hv r hr=>?_
 obtain ⟨v0,r0,rfl,⟨h0,hl⟩,rfl⟩:=hv
 subst h0
 have hmx:a0.length≤281474976710656:=by
  unfold aLW at hr
  split at hr
  ·assumption
  ·cases hr
 unfold aLW at hr
 rw[aJ hmx] at hr
 simp only[b5,aF] at hr
 subst hr
 replace hmx:(⟨a0.toArray⟩:ByteArray).size≤281474976710656:=hmx
 have up1:∀ {w w':World},(w'=w∨∃ t,w'=Lib.bytesWorld w 5 t)→Up w w':=by
  rintro w w' (rfl | ⟨t,rfl⟩)
  ·exact Up.refl _
  ·exact oD (Lib.bytesWorld_below w 5 t)
 cases ha:Lib.atoiAll a0 with
 | ok n =>
   refine (Tryz.strconv_Atoi_ok ⟨a0.toArray⟩ (by omega) n ha w).mono fun e w' ⟨he,hw⟩=>⟨_,he,?_,up1 hw⟩
   exact ⟨_,rfl,_,_,rfl,rfl,_,_,rfl,rfl,rfl⟩
 | range =>
   obtain ⟨ev,h1,h2⟩:=WI.rng hI
   refine (Tryz.strconv_Atoi_range ⟨a0.toArray⟩ hmx ha ev w h1 h2).mono fun e w' ⟨N,he,_,_,hw⟩=>⟨_,he,?_,oD hw⟩
   exact ⟨_,rfl,_,_,rfl,rfl,_,_,rfl,⟨_,rfl,trivial⟩,rfl⟩
 | _ =>
   obtain ⟨ev,h1,h2⟩:=WI.syn hI
   refine (Any.strconv_Atoi_syntax Tryz.aC3 ⟨a0.toArray⟩ hmx ha ev w h1 h2).mono fun e w' ⟨N,he,_,_,hw⟩=>⟨_,he,?_,oD hw⟩
   exact ⟨_,rfl,_,_,rfl,rfl,_,_,rfl,⟨_,rfl,trivial⟩,rfl⟩
section
variable {R:Type} {P:Program}
theorem cQ.aLX {f:FuncId} {args:List D} {mr:Option R} {res:R→D}
 (h:∀ S β w vs,fT.I w→Holds S w→iY S β args vs→∀ r,mr=some r→Calls P f vs.toArray w fun e w'=>∃ v,e = .returned v∧eI S β (res r) v∧Up w w'):cQ P f args [] mr res (fun _=>[]):=by
 intro S β w vs hc hv r hr
 refine (h S β w vs hc.inv hc.holds hv r hr).mono fun e w' ⟨v,he,hd,hu⟩=>⟨v,S,β,he,hd,fun o k ho _=>by simp at ho,hc.aGt hu.os hu.tape hu.output hu.size hu.block⟩
end
theorem aQS (w:World) (n:Nat) (os:Array Go.Obj):Up w (Sort.grow (w.drewN n) os) :=
 ⟨rfl,rfl,rfl,by show w.heap.size≤(w.heap++os).size;simp,fun b hb=>by show (w.heap++os)[b]? = _;rw[Array.getElem?_append_left hb]⟩
theorem aTO (K:Nat) (a0:Int):cQ Tryz.prog 73 [.c (.val (.int .i64 a0))] [] (b5 (F73 K a0)) (fun r=>.c (.str r)) (fun r=>[]):=by
 refine cQ.aCj fun S β w vs hI hv r hr=>?_
 obtain ⟨v0,r0,rfl,h0,rfl⟩:=hv
 obtain rfl:v0=_:=h0
 unfold F73 at hr
 split at hr
 ·rename_i hb
  simp only[b5,aF] at hr
  subst hr
  refine (Tryz.strconv_Itoa a0 hb.1 hb.2 w (WI.aZm hI)).mono fun e w' ⟨he,k,os,hw⟩=>⟨_,he,⟨rfl,?_⟩,by rw[hw];exact aQS _ _ _⟩
  have:=Lib.itoa_length_le a0 hb.1 hb.2
  unfold maxLen;omega
 ·cases hr
theorem aT3 (K:Nat) (a0:List Bytes) (a1:Bytes):cQ Tryz.prog 48 [.c (E9.tree a0),.c (.str a1)] [] (b5 (F48 K a0 a1)) (fun r=>.c (.str r)) (fun r=>[]):=by
 refine cQ.aLX fun S β w vs hI hH hv r hr=>?_
 obtain ⟨v0,r0,rfl,⟨a,cap,rfl,h1,h2,h3⟩,v1,r1,rfl,⟨h4,hl⟩,rfl⟩:=hv
 subst h4
 unfold F48 at hr
 split at hr
 ·rename_i hb
  simp only[b5,aF] at hr
  subst hr
  have hml:maxLen=9223372036854775807:=by unfold maxLen;rfl
  obtain ⟨hb,hb2⟩:=hb
  rcases h3 with h0 | ⟨b,off,rfl,hc⟩
  ·have h0:a0=[]:=List.eq_nil_of_length_eq_zero h0
   subst h0
   refine (Tryz.strings_Join_none a cap ⟨a1.toArray⟩ w).mono fun e w' ⟨he,hw⟩=>⟨_,he,⟨rfl,Nat.zero_le _⟩,by rw[hw];exact Up.refl w⟩
  ·by_cases h0:a0=[]
   ·subst h0
    refine (Tryz.strings_Join_none (some ⟨b,off,none⟩) cap ⟨a1.toArray⟩ w).mono fun e w' ⟨he,hw⟩=>⟨_,he,⟨rfl,Nat.zero_le _⟩,by rw[hw];exact Up.refl w⟩
   have hcell:∀ (j:Nat) (x:Bytes),a0[j]? = some x→∃ v,S b (off+j)=some v∧v = .string ⟨x.toArray⟩:=by
    intro j x hx
    obtain ⟨hj,hjx⟩:=List.getElem?_eq_some_iff.1 hx
    obtain ⟨v,hv1,hv2⟩:=hc j 0 hj (by decide)
    refine ⟨v,by simpa [E9] using hv1,?_⟩
    have e:E9.at a0 j 0 = .str x:=by
     unfold El.at
     have:a0.getD j E9.d=x:=by rw[← hjx];simp [List.getD,aN hj]
     rw[this];rfl
    rw[e] at hv2
    exact hv2.1
   have hxs:(a0.map (fun x:Bytes=>(⟨x.toArray⟩:ByteArray))).map (·.data.toList)=a0:=by
    rw[List.map_map]
    exact (List.map_congr_left (fun x _=>rfl)).trans (List.map_id a0)
   have hbk:b<w.heap.size:=by
    cases a0 with
    | nil=>exact absurd rfl h0
    | cons x t =>
      obtain ⟨v,hv1,_⟩:=hcell 0 x rfl
      have hv2:S b off=some v:=hv1
      exact hH.lt (b:=b) (i:=off) (by rw[hv2];rfl)
   have hj:=Tryz.strings_Join b off cap (a0.map (fun x:Bytes=>(⟨x.toArray⟩:ByteArray))) ⟨a1.toArray⟩ w (fun j x hx=>by
    rw[bD] at hx
    cases hy:a0[j]? with
    | none=>rw[hy] at hx;cases hx
    | some y =>
      rw[hy] at hx
      simp only[aQ,aF] at hx
      subst hx
      obtain ⟨v,hv1,rfl⟩:=hcell j y hy
      exact (hH _ _ _ hv1).1) hbk (by simp;omega) (by simpa using h1) (by rw[hxs];exact hb)
   rw[hxs,List.length_map] at hj
   refine hj.mono fun e w' ⟨he,hw⟩=>⟨_,he,⟨rfl,by show (Lib.join a0 a1).length≤maxLen;omega⟩,oD hw⟩
 ·cases hr
theorem aQT:liesAt Tryz.prog Tryz.prog.depth 75 (2 / Tryz.prog.cellsOf 75) 0 75 1=true:=by kernel_rfl
theorem aT6 (K:Nat) (a0:S75):cQ Tryz.prog 59 [.c (.ptr 0 0 0)] [.cells [.self 75 a0.rE 0,.own 1 a0.kG.length],E5.row a0.kG] (b5 (F59 K a0)) (fun r=>.lG []) (fun r=>[.cells [.self 75 r.rE 0,.own 1 r.kG.length],E5.row r.kG]):=by
 refine cQ.aLx a0.rE [.own 1 a0.kG.length] [E5.row a0.kG] (fun r hr=>?_) aQU (fun b w h0 hsh hfz=>aOx b 75 2 w h0 hsh (by decide) hfz aQT)
 simp only[F59,b5,aF] at hr
 subst hr
 rfl
theorem aKK {g:Nat} {w w':World} (h:But g w w'):aQr g w w':=⟨h.os,h.tape,h.output,h.size,h.block⟩
theorem aT8 (K:Nat) (a0:S75):cQ Tryz.prog 28 [.c (.ptr 0 0 0)] [.cells [.self 75 a0.rE 0,.own 1 a0.kG.length],E5.row a0.kG] (b5 (F28 K a0)) (fun r=>.c (.str r)) (fun r=>[.dead,.dead]):=by
 have hr':∀ r,b5 (F28 K a0)=some r→r=a0.kG:=by
  intro r hr
  simp only[F28,b5,aF] at hr
  exact hr.symm
 refine cQ.aIE a0.rE a0.kG [] (fun r hr=>by rw[hr' r hr]) (fun r=>rfl) ?_ ?_
 ·intro b g cap cs cur w hb hc1 hg hnc hcm hcs hcell hlt
  by_cases h0:a0.kG=[]
  ·rw[h0] at hc1 ⊢
   by_cases hc0:cap=0
   ·subst hc0
    exact (aJz b g 75 cs cur w hlt hb hc1 hg).mono fun e w' ⟨h1,h2⟩=>⟨h1,aKK h2⟩
   ·exact (aOy b g cap 75 cs w hc0 hb hc1).mono fun e w' ⟨h1,h2⟩=>⟨h1,aKK h2⟩
  ·exact (aOz b g cap 75 cs cur w a0.kG hb hc1 hg hnc hcm hcs hcell h0).mono fun e w' ⟨h1,h2⟩=>⟨h1,aKK h2⟩
 ·intro h0 b cs w hb hc1
  rw[h0]
  exact (aQV b b 75 cs w hb hc1).mono fun e w' ⟨h1,h2⟩=>⟨h1,aKK h2⟩
end Go.Proofs.YtidjangjfekfjaaGreatDoor
