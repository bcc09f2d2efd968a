/- No conditions. -/
import Derived.Shelf.Strings.Builder1
import Derived.Shelf.Strings.Builder2
import Derived.Shelf.Small.Bits
import Derived.Shelf.Strings.BuilderF
import Derived.Shelf.Strings.BuilderK
import Derived.Shelf.Strconv.Itoa0
import Derived.Shelf.Sort.Plain
import Derived.Shelf.Strings.Prefix
import Derived.Shelf.Bits.Mul64
import Derived.Shelf.Strings.Repeat
import Derived.Shelf.Slices.Turned
import Derived.Ground.Names2Prog
import Derived.Shelf.Slices.SearchI
import Derived.Shelf.Slices.In.SortNone
import Derived.Test.YtdbfbedholdjaaaGreatProg
import Derived.Test.YtdbfbedholdjaaaGreatHDC
import Derived.Lib.Builder
import Derived.Lib.Walk
import Derived.WalkKit
import Derived.Laws.Externs
import Derived.Shelf.RegionOpenPlain
import Derived.Lib.UnsafeStr
import Derived.Test.YtdbfbedholdjaaaGreatHTy
set_option linter.unusedVariables false
set_option linter.unusedSimpArgs false
set_option linter.unusedSectionVars false
namespace Go.Proofs
open Go.Shelf
def Tryz.aHN:Go.Shelf.Ren:=⟨fun | 189=>89 | 125=>131 | 257=>130 | 128=>176 | 129=>177 | 294=>167 | 295=>168 | 296=>169 | 297=>170 | 298=>171 | 299=>172 | 216=>173 | 300=>174 | 301=>175 | 328=>204 | 329=>205 | 330=>206 | 331=>207 | 332=>208 | 215=>209 | 343=>216 | n=>n,fun | 28=>45 | 3=>3 | 46=>96 | 0=>0 | 51=>200 | 53=>203 | 4=>4 | 183=>208 | 182=>207 | 131=>212 | 5=>5 | 9=>9 | 218=>232 | 222=>236 | 228=>240 | 229=>192 | n=>n,fun | n=>n⟩
theorem Tryz.aK9:Go.Proofs.Lays.n189 Tryz.prog Tryz.aHN:={
 mixed:=by kernel_rfl
 f125:=Tryz.func131.trans (congrArg some (by kernel_rfl))
 f128:=Tryz.func176.trans (congrArg some (by kernel_rfl))
 f129:=Tryz.func177.trans (congrArg some (by kernel_rfl))
 f189:=Tryz.func89.trans (congrArg some (by kernel_rfl))
 f215:=Tryz.func209.trans (congrArg some (by kernel_rfl))
 f216:=Tryz.func173.trans (congrArg some (by kernel_rfl))
 f257:=Tryz.func130.trans (congrArg some (by kernel_rfl))
 f294:=Tryz.func167.trans (congrArg some (by kernel_rfl))
 f295:=Tryz.func168.trans (congrArg some (by kernel_rfl))
 f296:=Tryz.func169.trans (congrArg some (by kernel_rfl))
 f297:=Tryz.func170.trans (congrArg some (by kernel_rfl))
 f298:=Tryz.func171.trans (congrArg some (by kernel_rfl))
 f299:=Tryz.func172.trans (congrArg some (by kernel_rfl))
 f300:=Tryz.func174.trans (congrArg some (by kernel_rfl))
 f301:=Tryz.func175.trans (congrArg some (by kernel_rfl))
 f328:=Tryz.func204.trans (congrArg some (by kernel_rfl))
 f329:=Tryz.func205.trans (congrArg some (by kernel_rfl))
 f330:=Tryz.func206.trans (congrArg some (by kernel_rfl))
 f331:=Tryz.func207.trans (congrArg some (by kernel_rfl))
 f332:=Tryz.func208.trans (congrArg some (by kernel_rfl))
 f343:=Tryz.func216.trans (congrArg some (by kernel_rfl))
 t0:=Tryz.underlying0
 a0:=Tryz.isAgg0
 z0:=Tryz.sizeOf0
 v0:=Tryz.zeroValue0
 t3:=Tryz.underlying3
 a3:=Tryz.isAgg3
 z3:=Tryz.sizeOf3
 v3:=Tryz.zeroValue3
 t4:=Tryz.underlying4
 a4:=Tryz.isAgg4
 z4:=Tryz.sizeOf4
 v4:=Tryz.zeroValue4
 t5:=Tryz.underlying5
 a5:=Tryz.isAgg5
 z5:=Tryz.sizeOf5
 v5:=Tryz.zeroValue5
 t9:=Tryz.underlying9
 a9:=Tryz.isAgg9
 z9:=Tryz.sizeOf9
 v9:=Tryz.zeroValue9
 t28:=Tryz.underlying45
 a28:=Tryz.isAgg45
 z28:=Tryz.sizeOf45
 v28:=Tryz.zeroValue45
 t46:=Tryz.underlying96
 a46:=Tryz.isAgg96
 z46:=Tryz.sizeOf96
 v46:=Tryz.zeroValue96
 t51:=Tryz.underlying200
 a51:=Tryz.isAgg200
 z51:=Tryz.sizeOf200
 v51:=Tryz.zeroValue200
 t53:=Tryz.underlying203
 a53:=Tryz.isAgg203
 z53:=Tryz.sizeOf203
 v53:=Tryz.zeroValue203
 t131:=Tryz.underlying212
 a131:=Tryz.isAgg212
 z131:=Tryz.sizeOf212
 v131:=Tryz.zeroValue212
 t182:=Tryz.underlying207
 a182:=Tryz.isAgg207
 z182:=Tryz.sizeOf207
 v182:=Tryz.zeroValue207
 t183:=Tryz.underlying208
 a183:=Tryz.isAgg208
 z183:=Tryz.sizeOf208
 v183:=Tryz.zeroValue208
 t218:=Tryz.underlying232
 a218:=Tryz.isAgg232
 z218:=Tryz.sizeOf232
 v218:=Tryz.zeroValue232
 t222:=Tryz.underlying236
 a222:=Tryz.isAgg236
 z222:=Tryz.sizeOf236
 v222:=Tryz.zeroValue236
 t228:=Tryz.underlying240
 a228:=Tryz.isAgg240
 z228:=Tryz.sizeOf240
 v228:=Tryz.zeroValue240
 t229:=Tryz.underlying192
 a229:=Tryz.isAgg192
 z229:=Tryz.sizeOf192
 v229:=Tryz.zeroValue192 }
open Go.Sort Go.RowKit in
theorem Tryz.slices_Sort_int (blk off cap:Nat) (zs:List Int) (w:World) (hH:Holds (Value.int .i64) w blk off zs.toArray) (hblk:blk<w.heap.size) (hsz:zs.length<4611686018427387904) :
 Calls Tryz.prog 89 #[.slice (some ⟨blk,off,none⟩) zs.length cap] w fun e w' =>
  e = .returned (.tuple #[])∧∃ n os,w'=grow (putRow (Value.int .i64) (Sort.ahead w n) blk off (zs.mergeSort fun x y=>decide (x≤y)).toArray) os:=Any.slices_Sort_int Tryz.aK9 blk off cap zs w hH hblk hsz
def Tryz.aA2:Go.Shelf.Ren:=⟨fun | 105=>82 | 212=>124 | 99=>125 | 165=>126 | 166=>81 | 170=>127 | 169=>85 | 263=>163 | 264=>164 | 206=>165 | 240=>123 | 241=>166 | 276=>162 | 277=>203 | n=>n,fun | 9=>9 | 3=>3 | 4=>4 | 20=>20 | 0=>0 | 46=>96 | 109=>160 | 5=>5 | 72=>121 | 76=>124 | 51=>200 | 146=>201 | 53=>203 | 148=>204 | 70=>118 | 37=>119 | 75=>123 | 127=>163 | 164=>198 | 80=>129 | n=>n,fun | n=>n⟩
theorem Tryz.aGb:Go.Proofs.Lays.n105 Tryz.prog Tryz.aA2:={
 mixed:=by kernel_rfl
 f99:=Tryz.func125.trans (congrArg some (by kernel_rfl))
 f105:=Tryz.func82.trans (congrArg some (by kernel_rfl))
 f165:=Tryz.func126.trans (congrArg some (by kernel_rfl))
 f166:=Tryz.func81.trans (congrArg some (by kernel_rfl))
 f169:=Tryz.func85.trans (congrArg some (by kernel_rfl))
 f170:=Tryz.func127.trans (congrArg some (by kernel_rfl))
 f206:=Tryz.func165.trans (congrArg some (by kernel_rfl))
 f212:=Tryz.func124.trans (congrArg some (by kernel_rfl))
 f240:=Tryz.func123.trans (congrArg some (by kernel_rfl))
 f241:=Tryz.func166.trans (congrArg some (by kernel_rfl))
 f263:=Tryz.func163.trans (congrArg some (by kernel_rfl))
 f264:=Tryz.func164.trans (congrArg some (by kernel_rfl))
 f276:=Tryz.func162.trans (congrArg some (by kernel_rfl))
 f277:=Tryz.func203.trans (congrArg some (by kernel_rfl))
 t0:=Tryz.underlying0
 a0:=Tryz.isAgg0
 z0:=Tryz.sizeOf0
 v0:=Tryz.zeroValue0
 t3:=Tryz.underlying3
 a3:=Tryz.isAgg3
 z3:=Tryz.sizeOf3
 v3:=Tryz.zeroValue3
 t4:=Tryz.underlying4
 a4:=Tryz.isAgg4
 z4:=Tryz.sizeOf4
 v4:=Tryz.zeroValue4
 t5:=Tryz.underlying5
 a5:=Tryz.isAgg5
 z5:=Tryz.sizeOf5
 v5:=Tryz.zeroValue5
 t9:=Tryz.underlying9
 a9:=Tryz.isAgg9
 z9:=Tryz.sizeOf9
 v9:=Tryz.zeroValue9
 t20:=Tryz.underlying20
 a20:=Tryz.isAgg20
 z20:=Tryz.sizeOf20
 v20:=Tryz.zeroValue20
 t37:=Tryz.underlying119
 a37:=Tryz.isAgg119
 z37:=Tryz.sizeOf119
 v37:=Tryz.zeroValue119
 t46:=Tryz.underlying96
 a46:=Tryz.isAgg96
 z46:=Tryz.sizeOf96
 v46:=Tryz.zeroValue96
 t51:=Tryz.underlying200
 a51:=Tryz.isAgg200
 z51:=Tryz.sizeOf200
 v51:=Tryz.zeroValue200
 t53:=Tryz.underlying203
 a53:=Tryz.isAgg203
 z53:=Tryz.sizeOf203
 v53:=Tryz.zeroValue203
 t70:=Tryz.underlying118
 a70:=Tryz.isAgg118
 z70:=Tryz.sizeOf118
 v70:=Tryz.zeroValue118
 t72:=Tryz.underlying121
 a72:=Tryz.isAgg121
 z72:=Tryz.sizeOf121
 v72:=Tryz.zeroValue121
 t75:=Tryz.underlying123
 a75:=Tryz.isAgg123
 z75:=Tryz.sizeOf123
 v75:=Tryz.zeroValue123
 t76:=Tryz.underlying124
 a76:=Tryz.isAgg124
 z76:=Tryz.sizeOf124
 v76:=Tryz.zeroValue124
 t109:=Tryz.underlying160
 a109:=Tryz.isAgg160
 z109:=Tryz.sizeOf160
 v109:=Tryz.zeroValue160
 t127:=Tryz.underlying163
 a127:=Tryz.isAgg163
 z127:=Tryz.sizeOf163
 v127:=Tryz.zeroValue163
 t146:=Tryz.underlying201
 a146:=Tryz.isAgg201
 z146:=Tryz.sizeOf201
 v146:=Tryz.zeroValue201
 t148:=Tryz.underlying204
 a148:=Tryz.isAgg204
 z148:=Tryz.sizeOf204
 v148:=Tryz.zeroValue204
 t164:=Tryz.underlying198
 a164:=Tryz.isAgg198
 z164:=Tryz.sizeOf198
 v164:=Tryz.zeroValue198 }
theorem Tryz.zC:Builder.Extra Tryz.prog Tryz.aA2:={
 sizeBuilder:=by kernel_rfl
 liesBuilder:=by kernel_rfl
 t5:=Tryz.underlying5
 a5:=Tryz.isAgg5
 z5:=Tryz.sizeOf5
 v5:=Tryz.zeroValue5
 infoByte:=by kernel_rfl
 cellsByte:=by kernel_rfl
 sizeByte:=by kernel_rfl
 neB5:=by decide }
open Go.RowKit Go.Lib in
theorem Tryz.strings_Repeat_main (s:ByteArray) (c:Nat) (w:World) (hc2:2≤c) (hc:c≤9223372036854775807) (hlen:s.size * c≤140737488355328) (h0:0<s.size) :
 Calls Tryz.prog 82 #[.string s,.int .i64 c] w fun e w'=>e = .returned (.string ⟨(Lib.repeatL s.data.toList c).toArray⟩)∧Below w.heap.size w w':=Any.strings_Repeat_main Tryz.aGb Tryz.zC s c w hc2 hc hlen h0
open Go.RowKit Go.Lib in
theorem Tryz.strings_Repeat_zero (s:ByteArray) (w:World) :
 Calls Tryz.prog 82 #[.string s,.int .i64 0] w fun e w'=>e = .returned (.string ⟨#[]⟩)∧w'=w:=Any.strings_Repeat_zero Tryz.aGb s w
open Go.RowKit Go.Lib in
theorem Tryz.strings_Repeat_one (s:ByteArray) (w:World) :
 Calls Tryz.prog 82 #[.string s,.int .i64 1] w fun e w'=>e = .returned (.string s)∧w'=w:=Any.strings_Repeat_one Tryz.aGb s w
open Go.RowKit Go.Sort in
theorem Tryz.slices_Sort_int_none (p:Option Addr) (cap:Nat) (w:World) :
 Calls Tryz.prog 89 #[.slice p 0 cap] w fun e w'=>e = .returned (.tuple #[])∧w'=w:=Any.slices_Sort_int_none Tryz.aK9 p cap w
end Go.Proofs

namespace Go.Proofs.YtdbfbedholdjaaaGreat
open Go Go.Proofs Go.RowKit
set_option maxHeartbeats 1000000 in
set_option maxRecDepth 100000 in
theorem aSk (b:Nat) (w:World) (h0:w.cell? ⟨b,0,none⟩=some (.pointer (some ⟨b,0,none⟩))) :
 Calls Tryz.prog 123 #[.pointer (some ⟨b,0,none⟩)] w fun e w'=>e = .returned (.tuple #[])∧w'=w:=by
 obtain ⟨j,hj,hjs⟩:=Option.map_eq_some_iff.1 (show (Tryz.prog.info? 121).map (·.size)=some 2 by kernel_rfl)
 go_enter Tryz.func123,Tryz.ntmps123
 go_wp2
 rw[Lib.run_neq_ptr_same (tp:=118) (te:=121) w _ (by kernel_rfl) hj]
 go_wp2
 go_end0
 exact ⟨rfl,rfl⟩
set_option maxHeartbeats 1000000 in
set_option maxRecDepth 100000 in
theorem aNh (b T m:Nat) (w:World) (h0:w.cell? ⟨b,0,none⟩=some (.pointer none)) (hsh:w.shape? b=some (T,m)) (hm:0<m) (hfz:w.frozen? ⟨b,0,none⟩=false)
 (hl:liesAt Tryz.prog Tryz.prog.depth T (m / Tryz.prog.cellsOf T) 0 121 1=true) :
 Calls Tryz.prog 123 #[.pointer (some ⟨b,0,none⟩)] w fun e w'=>e = .returned (.tuple #[])∧w'=w.setCell ⟨b,0,none⟩ (.pointer (some ⟨b,0,none⟩)):=by
 obtain ⟨j,hj,hjs⟩:=Option.map_eq_some_iff.1 (show (Tryz.prog.info? 121).map (·.size)=some 2 by kernel_rfl)
 go_enter Tryz.func123,Tryz.ntmps123
 go_wp2
 rw[Lib.run_to_unsafe w ⟨b,0,none⟩ (src:=118) (dst:=198) (t:=121) (by kernel_rfl) (by kernel_rfl) hj (by rw[hjs];decide) hsh hm]
 simp only[Result.andThen]
 rw[Oper.upon_value]
 go_wp2
 rw[run_callFunc_extern (f:=162) (fn:=Tryz.f162) (by kernel_rfl) (by kernel_rfl) (by kernel_rfl) (by kernel_rfl) (e:=Extern.AbiNoEscape.same) (by kernel_rfl)]
 rw[Lib.run_noEscape]
 simp only[Result.andThen]
 rw[Oper.upon_value]
 go_wp2
 rw[Lib.run_from_unsafe w ⟨b,0,none⟩ (src:=198) (dst:=118) (u:=121) (by kernel_rfl) (by kernel_rfl) hj hsh hl]
 simp only[Result.andThen]
 rw[Oper.upon_value]
 go_wp2
 go_end0
 exact ⟨rfl,rfl⟩
end Go.Proofs.YtdbfbedholdjaaaGreat

namespace Go.Proofs.YtdbfbedholdjaaaGreat
open Go Go.Proofs Go.RowKit Go.Shelf
structure But (g:Nat) (w w':World):Prop where
 os:w'.os=w.os
 tape:w'.tape=w.tape
 output:w'.output=w.output
 size:w.heap.size≤w'.heap.size
 block:∀ c,c<w.heap.size→c≠g→w'.heap[c]? = w.heap[c]?
theorem But.freeze (w:World) (g n:Nat):But g w (w.drew.freeze ⟨g,0,none⟩ n):=by
 unfold World.freeze
 split
 ·exact ⟨rfl,rfl,rfl,aM _,fun _ _ _=>rfl⟩
 ·exact ⟨rfl,rfl,rfl,by simp,fun k hk hne=>by
   simp only[Array.getElem?_modify]
   rw[aD (fun e=>hne e.symm)];rfl⟩
theorem But.drew (w:World) (g:Nat):But g w w.drew:=⟨rfl,rfl,rfl,aM _,fun _ _ _=>rfl⟩
theorem But.alloc (w:World) (g:Nat) (o:Obj):But g w (w.drew.alloc o):=⟨rfl,rfl,rfl,by simp,fun c hc _=>Lib.alloc_old w.drew o c hc⟩
section
variable (b g cap T:Nat) (cs cur:Array Value) (w:World)
set_option maxHeartbeats 2000000 in
set_option maxRecDepth 100000 in
theorem aNi (l:List UInt8) (hbk:w.heap[b]? = some (.cells cs T (0,0))) (hc1:cs[1]? = some (.slice (some ⟨g,0,none⟩) l.length cap)) (hg:w.heap[g]? = some (.cells cur 5 (0,0)))
 (hnc:l.length≤cap) (hcm:cap≤maxLen) (hcs:cur.size=cap) (hcell:∀ (j:Nat) (x:UInt8),l[j]? = some x→cur[j]? = some (Value.int .u8 x.toNat)) (h0:l≠[]) :
 Calls Tryz.prog 85 #[.pointer (some ⟨b,0,none⟩)] w fun e w'=>e = .returned (.string ⟨l.toArray⟩)∧But g w w':=by
 have hl0:l.length≠0:=by simpa using h0
 have c1:w.drew.cell? ⟨b,1,none⟩=some (.slice (some ⟨g,0,none⟩) l.length cap):=by
  have:w.drew.heap[b]? = some (.cells cs T (0,0)):=hbk
  rw[Lib.cell_of_heap this];exact hc1
 have hSD:(Builtin.unsafeSliceData_ #[119] 163 #[.slice (some ⟨g,0,none⟩) l.length cap]).run Tryz.prog w.drew = .ok (.pointer (some ⟨g,0,none⟩)) w.drew :=
  Lib.run_unsafeSliceData_row _ _ _ _ _ _ (by omega)
 have hUS:(Builtin.unsafeString_ #[163,3] 9 #[.pointer (some ⟨g,0,none⟩),.int .i64 l.length]).run Tryz.prog w.drew = .ok (.string ⟨l.toArray⟩) (w.drew.freeze ⟨g,0,none⟩ l.length):=by
  refine Lib.run_unsafeString_row w.drew 163 3 9 5 (by kernel_rfl) (by kernel_rfl) g cur.size (by have hg':w.drew.heap[g]? = some (.cells cur 5 (0,0)):=hg;simp [World.shape?,hg']) l h0 (by omega) (by unfold maxLen at hcm;omega) ?_
  intro j x hx
  have hg':w.drew.heap[g]? = some (.cells cur 5 (0,0)):=hg
  have e:(⟨g,0,none⟩:Addr).add j=⟨g,j,none⟩:=by unfold Addr.add;split <;> simp_all
  rw[e,Lib.cell_of_heap hg']
  exact hcell j x hx
 clear hcell hg
 have mixed:Tryz.prog.follows .mixedOrders=true:=by kernel_rfl
 go_enter Tryz.func85,Tryz.ntmps85
 go_wp2
 go_region_o
 all_goals (go_wp2;go_ret;exact ⟨rfl,But.freeze w g _⟩)
set_option maxHeartbeats 2000000 in
set_option maxRecDepth 100000 in
theorem aSl (hbk:w.heap[b]? = some (.cells cs T (0,0))) (hc1:cs[1]? = some (.slice none 0 0)) :
 Calls Tryz.prog 85 #[.pointer (some ⟨b,0,none⟩)] w fun e w'=>e = .returned (.string ⟨#[]⟩)∧But g w w':=by
 have hUS:=fun W q=>Lib.run_unsafeString_none (P:=Tryz.prog) (w:=W) 163 3 9 q
 have c1:w.drew.cell? ⟨b,1,none⟩=some (.slice none 0 0):=by
  have:w.drew.heap[b]? = some (.cells cs T (0,0)):=hbk
  rw[Lib.cell_of_heap this];exact hc1
 have hSD:(Builtin.unsafeSliceData_ #[119] 163 #[.slice none 0 0]).run Tryz.prog w.drew = .ok (.pointer none) w.drew:=rfl
 have mixed:Tryz.prog.follows .mixedOrders=true:=by kernel_rfl
 go_enter Tryz.func85,Tryz.ntmps85
 go_wp2
 go_region_o
 all_goals (go_wp2;go_ret;exact ⟨rfl,But.drew w g⟩)
set_option maxHeartbeats 2000000 in
set_option maxRecDepth 100000 in
theorem aIp (hlt:b<w.heap.size) (hbk:w.heap[b]? = some (.cells cs T (0,0))) (hc1:cs[1]? = some (.slice (some ⟨g,0,none⟩) 0 0)) (hg:w.heap[g]? = some (.cells cur 5 (0,0))) :
 Calls Tryz.prog 85 #[.pointer (some ⟨b,0,none⟩)] w fun e w'=>e = .returned (.string ⟨#[]⟩)∧But g w w':=by
 have hUS:=fun W q=>Lib.run_unsafeString_none (P:=Tryz.prog) (w:=W) 163 3 9 q
 have c1:w.drew.cell? ⟨b,1,none⟩=some (.slice (some ⟨g,0,none⟩) 0 0):=by
  have:w.drew.heap[b]? = some (.cells cs T (0,0)):=hbk
  rw[Lib.cell_of_heap this];exact hc1
 have hSD:(Builtin.unsafeSliceData_ #[119] 163 #[.slice (some ⟨g,0,none⟩) 0 0]).run Tryz.prog w.drew = .ok (.pointer (some ⟨w.drew.heap.size,0,none⟩)) (w.drew.alloc (.view ⟨g,0,none⟩ 5)) :=
  Lib.run_unsafeSliceData_zero w.drew _ _ 5 (by kernel_rfl) ⟨g,0,none⟩ 0 (5,cur.size) (by have hg':w.drew.heap[g]? = some (.cells cur 5 (0,0)):=hg;simp [World.shape?,hg'])
 have c2:(w.drew.alloc (.view ⟨g,0,none⟩ 5)).cell? ⟨b,1,none⟩=some (.slice (some ⟨g,0,none⟩) 0 0):=by
  have:(w.drew.alloc (.view ⟨g,0,none⟩ 5)).heap[b]? = _:=(Lib.alloc_old w.drew _ b hlt).trans hbk
  rw[Lib.cell_of_heap this];exact hc1
 have c3:(w.alloc (.view ⟨g,0,none⟩ 5)).drew.cell? ⟨b,1,none⟩=some (.slice (some ⟨g,0,none⟩) 0 0):=c2
 have c0:w.cell? ⟨b,1,none⟩=some (.slice (some ⟨g,0,none⟩) 0 0):=c1
 have mixed:Tryz.prog.follows .mixedOrders=true:=by kernel_rfl
 go_enter Tryz.func85,Tryz.ntmps85
 go_wp2
 go_region_o
 all_goals (go_wp2;go_ret;exact ⟨rfl,But.alloc w g _⟩)
set_option maxHeartbeats 2000000 in
set_option maxRecDepth 100000 in
theorem aNj (hc0:cap≠0) (hbk:w.heap[b]? = some (.cells cs T (0,0))) (hc1:cs[1]? = some (.slice (some ⟨g,0,none⟩) 0 cap)) :
 Calls Tryz.prog 85 #[.pointer (some ⟨b,0,none⟩)] w fun e w'=>e = .returned (.string ⟨#[]⟩)∧But g w w':=by
 have hUS:=fun W q=>Lib.run_unsafeString_none (P:=Tryz.prog) (w:=W) 163 3 9 q
 have c1:w.drew.cell? ⟨b,1,none⟩=some (.slice (some ⟨g,0,none⟩) 0 cap):=by
  have:w.drew.heap[b]? = some (.cells cs T (0,0)):=hbk
  rw[Lib.cell_of_heap this];exact hc1
 have hSD:(Builtin.unsafeSliceData_ #[119] 163 #[.slice (some ⟨g,0,none⟩) 0 cap]).run Tryz.prog w.drew = .ok (.pointer (some ⟨g,0,none⟩)) w.drew :=
  Lib.run_unsafeSliceData_row _ _ _ _ _ _ hc0
 clear hc0
 have mixed:Tryz.prog.follows .mixedOrders=true:=by kernel_rfl
 go_enter Tryz.func85,Tryz.ntmps85
 go_wp2
 go_region_o
 all_goals (go_wp2;go_ret;exact ⟨rfl,But.drew w g⟩)
end
end Go.Proofs.YtdbfbedholdjaaaGreat

namespace Go.Proofs.YtdbfbedholdjaaaGreat
open Go Go.Proofs Go.Dl
variable [dO]
set_option maxRecDepth 100000
abbrev aSq (e:Err):C:=aUQ 0 e
theorem aNs:hG (.val .nilIface) (aSq none):=aLE
def aWr (K:Nat) (a0:xF):Option (xF ⊕ xF):=some (.inl ⟨true,a0.jH⟩)
def F85 (K:Nat) (a0:xF):Option (Bytes ⊕ Bytes):=some (.inl a0.jH)
def F82 (K:Nat) (a0:Bytes) (a1:Int):Option (Bytes ⊕ Bytes):=if 0≤a1∧a1≤1000000∧0<a0.length∧a0.length * a1.toNat≤140737488355328 then some (.inl (Lib.repeatL a0 a1.toNat)) else none
def F89 (K:Nat) (a:List Int):Option (List Int ⊕ List Int):=if a.length<4611686018427387904 then some (.inl (a.mergeSort fun x y=>decide (x≤y))) else none
theorem aSr:liesAt Tryz.prog Tryz.prog.depth 121 (2 / Tryz.prog.cellsOf 121) 0 121 1=true:=by kernel_rfl
theorem aSs (K:Nat) (a0:xF):bV Tryz.prog 123 [.c (.ptr 0 0 0)] [.cells [.self 121 a0.vJ 0,.own 1 a0.jH.length],E5.row a0.jH] (bX (aWr K a0)) (fun r=>.jW []) (fun r=>[.cells [.self 121 r.vJ 0,.own 1 r.jH.length],E5.row r.jH]):=by
 refine bV.aLF a0.vJ [.own 1 a0.jH.length] [E5.row a0.jH] (fun r hr=>?_) aSk (fun b w h0 hsh hfz=>aNh b 121 2 w h0 hsh (by decide) hfz aSr)
 simp only[aWr,bX,aA] at hr
 subst hr
 rfl
theorem aJP {g:Nat} {w w':World} (h:But g w w'):aSt g w w':=⟨h.os,h.tape,h.output,h.size,h.block⟩
theorem aWs (K:Nat) (a0:xF):bV Tryz.prog 85 [.c (.ptr 0 0 0)] [.cells [.self 121 a0.vJ 0,.own 1 a0.jH.length],E5.row a0.jH] (bX (F85 K a0)) (fun r=>.c (.str r)) (fun r=>[.dead,.dead]):=by
 have hr':∀ r,bX (F85 K a0)=some r→r=a0.jH:=by
  intro r hr
  simp only[F85,bX,aA] at hr
  exact hr.symm
 refine bV.aIs a0.vJ a0.jH [] (fun r hr=>by rw[hr' r hr]) (fun r=>rfl) ?_ ?_
 ·intro b g cap cs cur w hb hc1 hg hnc hcm hcs hcell hlt
  by_cases h0:a0.jH=[]
  ·rw[h0] at hc1 ⊢
   by_cases hc0:cap=0
   ·subst hc0
    exact (aIp b g 121 cs cur w hlt hb hc1 hg).mono fun e w' ⟨h1,h2⟩=>⟨h1,aJP h2⟩
   ·exact (aNj b g cap 121 cs w hc0 hb hc1).mono fun e w' ⟨h1,h2⟩=>⟨h1,aJP h2⟩
  ·exact (aNi b g cap 121 cs cur w a0.jH hb hc1 hg hnc hcm hcs hcell h0).mono fun e w' ⟨h1,h2⟩=>⟨h1,aJP h2⟩
 ·intro h0 b cs w hb hc1
  rw[h0]
  exact (aSl b b 121 cs w hb hc1).mono fun e w' ⟨h1,h2⟩=>⟨h1,aJP h2⟩
theorem aNt {w w':World} (h:RowKit.Below w.heap.size w w'):Up w w':=h
theorem aWt (K:Nat) (a0:Bytes) (a1:Int):bV Tryz.prog 82 [.c (.str a0),.c (.val (.int .i64 a1))] [] (bX (F82 K a0 a1)) (fun r=>.c (.str r)) (fun r=>[]):=by
 refine bV.aNu fun S β w vs hI hv r hr=>?_
 obtain ⟨v0,r0,rfl,⟨h0,hl⟩,v1,r1,rfl,h1,rfl⟩:=hv
 have h1:v1 = .int .i64 a1:=h1
 subst h0;subst h1
 unfold F82 at hr
 split at hr
 ·rename_i hs
  obtain ⟨h1,h2,h3,h4⟩:=hs
  simp only[bX,aA] at hr
  obtain ⟨n,rfl⟩:=aP h1
  rw[Int.toNat_natCast] at h4 hr
  have hlen:(Lib.repeatL a0 n).length≤maxLen:=by rw[Lib.repeatL_length];rw[Nat.mul_comm];exact aS h4 (by unfold maxLen;omega)
  subst hr
  by_cases n0:n=0
  ·subst n0
   exact (Tryz.strings_Repeat_zero ⟨a0.toArray⟩ w).mono fun e w' ⟨he,hw⟩=>⟨_,he,⟨rfl,hlen⟩,hw ▸ Up.refl w⟩
  ·by_cases n1:n=1
   ·subst n1
    exact (Tryz.strings_Repeat_one ⟨a0.toArray⟩ w).mono fun e w' ⟨he,hw⟩=>⟨_,he,⟨by simp [Lib.repeatL],hlen⟩,hw ▸ Up.refl w⟩
   ·exact (Tryz.strings_Repeat_main ⟨a0.toArray⟩ n w (by omega) (by omega) (by simpa [ByteArray.size] using h4) (by simpa [ByteArray.size] using h3)).mono fun e w' ⟨he,hw⟩=>⟨_,he,⟨rfl,hlen⟩,aNt hw⟩
 ·cases hr
theorem aWu (K:Nat) (a:List Int):bV Tryz.prog 89 [.c (.own 0 a.length)] [E3.row a] (bX (F89 K a)) (fun r=>.jW []) (fun r=>[E3.row r]):=by
 refine bV.congr (bV.aNv E3 rfl rfl Tryz.slices_Sort_int Tryz.slices_Sort_int_none a) ?_
 unfold F89
 split <;> rfl
end Go.Proofs.YtdbfbedholdjaaaGreat
