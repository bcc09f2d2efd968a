/- No conditions. -/
import Derived.Test.YtidjangjfekfjaaGreatDoorTyA
import Derived.Test.YtidjangjfekfjaaGreatDoorProg
import Derived.KernelRfl
import Derived.Lib.LaidTab
import Derived.Lib.ItoaNum
import Derived.Lib.Join
import Derived.Lib.AtoiAllCases
import Derived.Lib.IndexMore
import Derived.Lib.FieldsLaws
set_option linter.unusedVariables false
set_option linter.unusedSimpArgs false
set_option linter.unusedSectionVars false
namespace Go.Proofs.YtidjangjfekfjaaGreatDoor
open Go Go.Proofs Go.Dl
set_option maxRecDepth 100000
structure WI (w:World):Prop where
 size:10≤w.heap.size
 max:∃ m,w.cell? ⟨1,0,none⟩=some (.int .i64 m)
 syn:∃ ev,w.cell? ⟨4,0,none⟩=some ev∧(ev = .nilIface∨∃ te pe,ev = .iface te pe)
 rng:∃ ev,w.cell? ⟨5,0,none⟩=some ev∧(ev = .nilIface∨∃ te pe,ev = .iface te pe)
 tab:Lib.TabIs Tryz.prog w "strings.asciiSpace" .u8 Lib.asciiSpaceTab
 aZm:Lib.TabIs Tryz.prog w "internal/strconv.uint64pow10" .u64 Lib.pow10Tab
 err:w.cell? ⟨0,0,none⟩=some (.iface 155 (.agg #[.pointer (some ⟨10,27,none⟩)]))
theorem aOv:Tryz.prog.globalNamed "strings.asciiSpace" = some 3:=by kernel_rfl
theorem aLV:Tryz.prog.globalNamed "internal/strconv.uint64pow10" = some 2:=by kernel_rfl
theorem WI.keep {w w':World} (hs:w.heap.size≤w'.heap.size) (hb:∀ b,b<10→w'.heap[b]? = w.heap[b]?) (h:WI w):WI w':=by
 have hc:∀ b,b<10→w'.cell? ⟨b,0,none⟩=w.cell? ⟨b,0,none⟩:=fun b hl=>World.cell?_of_block (hb b hl)
 obtain ⟨h1,h2,h3,h4,h5,h7,h6⟩:=h
 refine ⟨bV h1 hs,?_,?_,?_,?_,?_,?_⟩
 ·rw[hc _ (by decide)];exact h2
 ·rw[hc _ (by decide)];exact h3
 ·rw[hc _ (by decide)];exact h4
 ·unfold Lib.TabIs World.var? at h5 ⊢
  rw[aOv] at h5 ⊢
  simp only[aA] at h5 ⊢
  rw[hb _ (by decide)];exact h5
 ·unfold Lib.TabIs World.var? at h7 ⊢
  rw[aLV] at h7 ⊢
  simp only[aA] at h7 ⊢
  rw[hb _ (by decide)];exact h7
 ·rw[hc _ (by decide)];exact h6
instance a1A:fT where
 N:=10
 I:=WI
 size:=fun _ h=>h.size
 keep:=fun _ _ hs hb h=>h.keep hs hb
def aOw (K:Nat) (a0 a1:Bytes):Option (Int ⊕ Int):=if a0.length<4294967281 then some (.inl (Lib.index a0 a1)) else none
def aJx (K:Nat) (a0:Bytes):Option (List Bytes ⊕ List Bytes):=if a0.length<4294967281∧a0.all (fun b=>decide (b.toNat<128))=true then some (.inl (Lib.fields a0)) else none
def aLW (K:Nat) (a0:Bytes):Option ((Int × Bool) ⊕ (Int × Bool)):=if a0.length≤281474976710656 then some (.inl (match Lib.atoiAll a0 with
 | .ok n=>(n,false)
 | .range=>(Lib.atoiSat a0,true)
 | _=>(0,true))) else none
def F59 (K:Nat) (a0:S75):Option (S75 ⊕ S75):=some (.inl ⟨true,a0.kG⟩)
def F28 (K:Nat) (a0:S75):Option (Bytes ⊕ Bytes):=some (.inl a0.kG)
def F73 (K:Nat) (a0:Int):Option (Bytes ⊕ Bytes):=if -9223372036854775808≤a0∧a0≤9223372036854775807 then some (.inl (Lib.itoa a0)) else none
def F48 (K:Nat) (a0:List Bytes) (a1:Bytes):Option (Bytes ⊕ Bytes):=if (Lib.join a0 a1).length≤140737488355328∧a0.length≤140737488355328 then some (.inl (Lib.join a0 a1)) else none
end Go.Proofs.YtidjangjfekfjaaGreatDoor
