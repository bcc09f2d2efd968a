/- No conditions. -/
import Derived.Test.YtidjangjfekfjaaGreatDoorDC
import Derived.Test.YtidjangjfekfjaaGreatDoorChecked
import Derived.KernelRfl
import Derived.WalkKit
import Derived.LaidEql
import Derived.RowKitTokens
set_option linter.unusedVariables false
set_option linter.unusedSimpArgs false
namespace Go.Proofs.YtidjangjfekfjaaGreatDoor
open Go Go.RowKit in
theorem iX (w:World) (o:Obj):Below w.heap.size w (w.alloc o):=(Below.refl _ _).alloc (aR _) o
end Go.Proofs.YtidjangjfekfjaaGreatDoor
namespace Go.Proofs.YtidjangjfekfjaaGreatDoor.rl
open Go Go.RowKit Go.Extern.Stop Go.Stop Go.Extern
set_option maxRecDepth 1000000
noncomputable section
theorem aMd (t:Addr) (w:World):(ReflectliteValue.unpack (.iface 98 (.pointer (some t)))).run Tryz.prog w
 = .ok (.agg #[.pointer (some ⟨10,98,none⟩),.pointer (some ⟨w.heap.size,0,none⟩),.int .u64 150]) (w.alloc (.cells #[.pointer (some t)] 98)):=by kernel_rfl
theorem aUo (a:Addr) (w:World):(ReflectliteValue.methodAny (ReflectliteValue.valueError "reflectlite.Value.Type" 0) (fun t _ _ _=>ReflectliteType.toType t) #[.agg #[.pointer (some ⟨10,98,none⟩),.pointer (some a),.int .u64 150]]).run Tryz.prog w
 = .ok (.iface 155 (.agg #[.pointer (some ⟨10,98,none⟩)])) w:=by kernel_rfl
theorem aJJ (h:Value) (w:World):(Go.method 362 155 (.agg #[h]) "Kind").run Tryz.prog w = .ok (176,h) w:=by kernel_rfl
theorem aUp (w:World):((ReflectliteType.abiMethod fun t=>Functor.map (fun a:Nat=>Value.int IntKind.u8 (a:Int)) (Rtype.kind t)) #[.pointer (some ⟨10,98,none⟩)]).run Tryz.prog w = .ok (.int .u8 22) w:=by kernel_rfl
theorem aXe (w:World):((ReflectliteType.abiMethod fun t=>Functor.map (fun a:Nat=>Value.int IntKind.u8 (a:Int)) (Rtype.kind t)) #[.pointer (some ⟨10,96,none⟩)]).run Tryz.prog w = .ok (.int .u8 22) w:=by kernel_rfl
theorem rlm (z:Sem Value) (f:TypeId→Addr→Nat→Nat→Sem Value) (v:Value) :
 ReflectliteValue.method z f #[v]=(do match ← ReflectliteValue.parts v with | none=>z | some (t,a,fl)=>f t a fl (fl % 32)):=rfl
theorem aKU (a:Addr) (w:World):(ReflectliteValue.parts (.agg #[.pointer (some ⟨10,98,none⟩),.pointer (some a),.int .u64 150])).run Tryz.prog w = .ok (some (98,a,150)) w:=by kernel_rfl
theorem aRb (a p:Addr) (W:World) (ha:W.cell? a=some (.pointer (some p))) :
 (ReflectliteValue.method (ReflectliteValue.valueError "reflectlite.Value.IsNil" 0) ReflectliteValue.isNil #[.agg #[.pointer (some ⟨10,98,none⟩),.pointer (some a),.int .u64 150]]).run Tryz.prog W = .ok (.bool false) W:=by
 rw[rlm]
 simp only[Sem.run_bind,aKU,Result.andThen]
 simp [ReflectliteValue.isNil,loadVar,isAgg,underlying,Tryz.underlying98,ha,Result.andThen]
theorem aJK (h:Value) (w:World):(Go.method 362 155 (.agg #[h]) "Elem").run Tryz.prog w = .ok (189,.agg #[h]) w:=by kernel_rfl
theorem aAT (h:Value) (w:World):(Go.method 362 155 (.agg #[h]) "Implements").run Tryz.prog w = .ok (190,.agg #[h]) w:=by kernel_rfl
theorem yP (h:Value) (w:World):(Go.method 362 155 (.agg #[h]) "AssignableTo").run Tryz.prog w = .ok (187,.agg #[h]) w:=by kernel_rfl
theorem aUq (w:World):(ReflectliteType.method ReflectliteType.elem #[.agg #[.pointer (some ⟨10,98,none⟩)]]).run Tryz.prog w = .ok (.iface 155 (.agg #[.pointer (some ⟨10,96,none⟩)])) w:=by kernel_rfl
theorem aHM (w:World):(ReflectliteType.relation "Implements" ReflectliteType.implements_ #[.agg #[.pointer (some ⟨10,96,none⟩)],.iface 155 (.agg #[.pointer (some ⟨10,27,none⟩)])]).run Tryz.prog w = .ok (.bool true) w:=by kernel_rfl
theorem aKJ (v:Value) (w:World):(ReflectliteType.typeOf #[.iface 96 v]).run Tryz.prog w = .ok (.iface 155 (.agg #[.pointer (some ⟨10,96,none⟩)])) w:=by kernel_rfl
theorem aHN (w:World):(ReflectliteType.relation "AssignableTo" ReflectliteType.assignableTo #[.agg #[.pointer (some ⟨10,96,none⟩)],.iface 155 (.agg #[.pointer (some ⟨10,96,none⟩)])]).run Tryz.prog w = .ok (.bool true) w:=by kernel_rfl
theorem aO8 (e:Addr) (w:World):(ReflectliteValue.unpack (.iface 96 (.pointer (some e)))).run Tryz.prog w
 = .ok (.agg #[.pointer (some ⟨10,96,none⟩),.pointer (some ⟨w.heap.size,0,none⟩),.int .u64 150]) (w.alloc (.cells #[.pointer (some e)] 96)):=by kernel_rfl
theorem aO9 (w:World):(Rtype.elem? 98).run Tryz.prog w = .ok (some 96) w:=by kernel_rfl
theorem mkP (p:Addr) (w:World):(ReflectliteValue.mk 96 p ReflectliteValue.flagAddr).run Tryz.prog w = .ok (.agg #[.pointer (some ⟨10,96,none⟩),.pointer (some p),.int .u64 406]) w:=by kernel_rfl
theorem aRc (a p:Addr) (W:World) (ha:W.cell? a=some (.pointer (some p))) :
 (ReflectliteValue.method (ReflectliteValue.valueError "reflectlite.Value.Elem" 0) ReflectliteValue.elem #[.agg #[.pointer (some ⟨10,98,none⟩),.pointer (some a),.int .u64 150]]).run Tryz.prog W
  = .ok (.agg #[.pointer (some ⟨10,96,none⟩),.pointer (some p),.int .u64 406]) W:=by
 rw[rlm]
 simp only[Sem.run_bind,aKU,Result.andThen]
 simp [ReflectliteValue.elem,loadVar,isAgg,underlying,Tryz.underlying98,ha,Result.andThen,aO9,mkP]
theorem rls (v x:Value):ReflectliteValue.set #[v,x]=(do
 let (some (dst,a,fl),some (src,b,_)):=(← ReflectliteValue.parts v,← ReflectliteValue.parts x)
  | unsupported (.noEntry "extern/(internal/reflectlite.Value).Set.zeroValue")
 if fl / ReflectliteValue.flagAddr % 2 == 0 then unsupported (.noEntry "extern/(internal/reflectlite.Value).Set.unaddressable")
 let val ← loadVar src b
 if ← Rtype.directlyAssignable dst src then storeVar dst a val
 else if ← Rtype.implements dst src then
  if (← Rtype.kind src) == 20 then
   match val with
   | .nilIface=>unsupported (.noEntry "extern/reflectlite: a nil value of one interface type handed on as a value of another")
   | _=>storeVar dst a val
  else storeVar dst a (.iface src val)
 else panicString ("reflectlite.Set: value of type "++(← Rtype.spelt src)++ " is not assignable to type "++(← Rtype.spelt dst))
 pure (.tuple #[])):=rfl
theorem aRd (a:Addr) (w:World):(ReflectliteValue.parts (.agg #[.pointer (some ⟨10,96,none⟩),.pointer (some a),.int .u64 406])).run Tryz.prog w = .ok (some (96,a,406)) w:=by kernel_rfl
theorem aUr (a:Addr) (w:World):(ReflectliteValue.parts (.agg #[.pointer (some ⟨10,96,none⟩),.pointer (some a),.int .u64 150])).run Tryz.prog w = .ok (some (96,a,150)) w:=by kernel_rfl
theorem aRe (w:World):(Rtype.directlyAssignable 96 96).run Tryz.prog w = .ok true w:=by kernel_rfl
theorem aZy (ta b e:Addr) (old:Value) (W:World) (hb:W.cell? b=some (.pointer (some e))) (ht:W.cell? ta=some old) (hf:W.frozen? ta=false) :
 (ReflectliteValue.set #[.agg #[.pointer (some ⟨10,96,none⟩),.pointer (some ta),.int .u64 406],.agg #[.pointer (some ⟨10,96,none⟩),.pointer (some b),.int .u64 150]]).run Tryz.prog W
  = .ok (.tuple #[]) (W.setCell ta (.pointer (some e))):=by
 rw[rls]
 simp only[Sem.run_bind,aRd,aUr,Result.andThen]
 simp [ReflectliteValue.flagAddr,loadVar,isAgg,underlying,Tryz.underlying96,hb,Result.andThen,aRe,storeVar,Value.cells,storeCells,Addr.add]
 rw[run_store Tryz.prog W ta _ _ (by rfl)]
 simp [ht,hf]
def made (e t:Addr) (w:World):World:=((((w.alloc (.cells #[.pointer (some t)] 98)).alloc (.cells #[.pointer (some ⟨10,98,none⟩),.pointer (some ⟨w.heap.size,0,none⟩),.int .u64 150] 129)).alloc (.cells #[.pointer (some ⟨10,98,none⟩),.pointer (some ⟨w.heap.size,0,none⟩),.int .u64 150] 129)).alloc (.cells #[.pointer (some e)] 96))
set_option maxHeartbeats 8000000 in
theorem aUs (e t:Addr) (old:Value) (w:World) (hg:w.cell? ⟨0,0,none⟩=some (.iface 155 (.agg #[.pointer (some ⟨10,27,none⟩)]))) (ht0:w.cell? t=some old) (hf0:w.frozen? t=false) :
 Calls Tryz.prog 49 #[.iface 96 (.pointer (some e)),.iface 98 (.pointer (some t))] w fun ev w'=>ev = .returned (.bool true)∧w'=(made e t w).setCell t (.pointer (some e)):=by
 have hVO:=@run_callFunc_extern Tryz.prog 75 _ (fun args=>ReflectliteValue.unpack (args.getD 0 (.tuple #[]))) Tryz.func75 (by kernel_rfl) (by kernel_rfl) (by kernel_rfl) (by kernel_rfl)
 have hTY:=@run_callFunc_extern Tryz.prog 76 _ (ReflectliteValue.methodAny (ReflectliteValue.valueError "reflectlite.Value.Type" 0) (fun t _ _ _=>ReflectliteType.toType t)) Tryz.func76 (by kernel_rfl) (by kernel_rfl) (by kernel_rfl) (by kernel_rfl)
 have a17:=@run_callFunc_extern Tryz.prog 77 _ (ReflectliteValue.method (ReflectliteValue.valueError "reflectlite.Value.IsNil" 0) ReflectliteValue.isNil) Tryz.func77 (by kernel_rfl) (by kernel_rfl) (by kernel_rfl) (by kernel_rfl)
 have a0v:=@run_callFunc_extern Tryz.prog 176 _ (ReflectliteType.abiMethod fun t=>do pure (.int .u8 (← Rtype.kind t))) Tryz.func176 (by kernel_rfl) (by kernel_rfl) (by kernel_rfl) (by kernel_rfl)
 have a18:=@run_callFunc_extern Tryz.prog 189 _ (ReflectliteType.method ReflectliteType.elem) Tryz.func189 (by kernel_rfl) (by kernel_rfl) (by kernel_rfl) (by kernel_rfl)
 have a19:=@run_callFunc_extern Tryz.prog 190 _ (ReflectliteType.relation "Implements" ReflectliteType.implements_) Tryz.func190 (by kernel_rfl) (by kernel_rfl) (by kernel_rfl) (by kernel_rfl)
 have hTO:=@run_callFunc_extern Tryz.prog 95 _ ReflectliteType.typeOf Tryz.func95 (by kernel_rfl) (by kernel_rfl) (by kernel_rfl) (by kernel_rfl)
 have a2a:=@run_callFunc_extern Tryz.prog 187 _ (ReflectliteType.relation "AssignableTo" ReflectliteType.assignableTo) Tryz.func187 (by kernel_rfl) (by kernel_rfl) (by kernel_rfl) (by kernel_rfl)
 have a2b:=@run_callFunc_extern Tryz.prog 100 _ (ReflectliteValue.method (ReflectliteValue.valueError "reflectlite.Value.Elem" 0) ReflectliteValue.elem) Tryz.func100 (by kernel_rfl) (by kernel_rfl) (by kernel_rfl) (by kernel_rfl)
 have a0w:=@run_callFunc_extern Tryz.prog 101 _ ReflectliteValue.set Tryz.func101 (by kernel_rfl) (by kernel_rfl) (by kernel_rfl) (by kernel_rfl)
 have tO:=aKJ
 have mA:=yP
 have a25:=aHN
 have v25:=aO8
 have f6:=aMd
 have f7:=aUo
 have mK:=aJJ
 have mE:=aJK
 have mI:=aAT
 have k27:=aUp
 have k25:=aXe
 have e27:=aUq
 have i25:=aHM
 have n8:=aRb ⟨w.heap.size,0,none⟩ t ((w.alloc (.cells #[.pointer (some t)] 98)).alloc (.cells #[.pointer (some ⟨10,98,none⟩),.pointer (some ⟨w.heap.size,0,none⟩),.int .u64 150] 129)) (by simp)
 have hlt:0<w.heap.size:=by
  rcases bI 0 w.heap.size with h | h
  ·exact h
  ·simp [World.cell?,Array.getElem?_eq_none h] at hg
 have hg2:((w.alloc (.cells #[.pointer (some t)] 98)).alloc (.cells #[.pointer (some ⟨10,98,none⟩),.pointer (some ⟨w.heap.size,0,none⟩),.int .u64 150] 129)).cell? ⟨0,0,none⟩=some (.iface 155 (.agg #[.pointer (some ⟨10,27,none⟩)])):=by
  rw[World.cell?_alloc_lt _ _ ⟨0,0,none⟩ (by simp <;> omega),World.cell?_alloc_lt _ _ ⟨0,0,none⟩ hlt];exact hg
 have htl:t.block<w.heap.size:=by
  rcases bI t.block w.heap.size with h | h
  ·exact h
  ·simp [World.cell?,Array.getElem?_eq_none h] at ht0
 have el:=aRc ⟨w.heap.size,0,none⟩ t (((w.alloc (.cells #[.pointer (some t)] 98)).alloc (.cells #[.pointer (some ⟨10,98,none⟩),.pointer (some ⟨w.heap.size,0,none⟩),.int .u64 150] 129)).alloc (.cells #[.pointer (some ⟨10,98,none⟩),.pointer (some ⟨w.heap.size,0,none⟩),.int .u64 150] 129)) (by rw[World.cell?_alloc_lt _ _ ⟨w.heap.size,0,none⟩ (by simp <;> omega)];simp)
 have st:=aZy t ⟨w.heap.size+1+1+1,0,none⟩ e old ((((w.alloc (.cells #[.pointer (some t)] 98)).alloc (.cells #[.pointer (some ⟨10,98,none⟩),.pointer (some ⟨w.heap.size,0,none⟩),.int .u64 150] 129)).alloc (.cells #[.pointer (some ⟨10,98,none⟩),.pointer (some ⟨w.heap.size,0,none⟩),.int .u64 150] 129)).alloc (.cells #[.pointer (some e)] 96))
  (by rw[World.cell?_alloc_at _ _ _ _ (by simp)];rfl)
  (by rw[World.cell?_alloc_lt _ _ t (by simp <;> omega),World.cell?_alloc_lt _ _ t (by simp <;> omega),World.cell?_alloc_lt _ _ t (by simp <;> omega),World.cell?_alloc_lt _ _ t htl];exact ht0)
  (by rw[World.frozen?_alloc_old _ _ t (by simp <;> omega),World.frozen?_alloc_old _ _ t (by simp <;> omega),World.frozen?_alloc_old _ _ t (by simp <;> omega),World.frozen?_alloc_old _ _ t (Nat.ne_of_lt htl)];exact hf0)
 go_enter Tryz.func49,Tryz.ntmps49
 go_wp2
 refine wp_loop_rounds 1 ?_
 rw[rounds_succ]
 go_wp2
 go_ret
 exact ⟨rfl,rfl⟩
theorem aJL (e t:Addr) (w:World):Below w.heap.size w (made e t w):=by
 unfold made
 exact ((iX _ _).trans ((iX _ _).mono (by simp))).trans (((iX _ _).mono (by simp <;> omega)).trans ((iX _ _).mono (by simp <;> omega)))
end
end Go.Proofs.YtidjangjfekfjaaGreatDoor.rl
