/- No conditions. -/
import Derived.Test.YtidjangjfekfjaaGreatDoorDD
import Derived.Test.YtidjangjfekfjaaGreatDoorLCd
import Derived.Test.YtidjangjfekfjaaGreatDoorRows
set_option linter.unusedVariables false
set_option linter.unusedSimpArgs false
set_option linter.unusedSectionVars false
namespace Go.Proofs.YtidjangjfekfjaaGreatDoor
open Go Go.Proofs Go.Dl Go.RowKit
set_option maxRecDepth 1000000
theorem own:ownKnob Tryz.prog.godebug=none:=by kernel_rfl
theorem laidOut:laidOutB Tryz.prog=true:=by kernel_rfl
theorem aXf:(Tryz.prog.cutTypes.find? (·.1 == "internal/reflectlite.rtype")).map (·.2)=some 155:=by kernel_rfl
theorem aUu:((List.range Tryz.prog.types.size).filter fun t=>Tryz.prog.rowNamed t [101,114,114,111,114])=[27]:=by kernel_rfl
theorem aMe:typeHandle Tryz.prog 27 = .pointer (some ⟨10,27,none⟩):=by kernel_rfl
theorem aMf {H:Type}:(Rows.laid_strings_asciiSpace:DataW H)=Lib.tabData .u8 Lib.asciiSpaceTab:=by kernel_rfl
theorem aRf {H:Type}:(Rows.laid_internal_strconv_uint64pow10:DataW H)=Lib.tabData .u64 Lib.pow10Tab:=by kernel_rfl
abbrev aDe:List (String × DataW Unit):=Rows.printBackRow.laid
theorem aXg:((begin Tryz.prog (fun _ _=>0) default).world.heap[1]?).bind Obj.row? = some (#[.int .i64 0],3):=by kernel_rfl
theorem aUv:Tryz.prog.cellTypes Tryz.prog.depth 3=some [3]:=by kernel_rfl
theorem aXh:(((begin Tryz.prog (fun _ _=>0) default).world.heap[9]?).bind Obj.row?).isSome=true:=by kernel_rfl
theorem wi {W:World} (h:laidMetH Tryz.prog aDe W) (hsh:W.ShapedOpen Tryz.prog):WI W:=by
 have hp:=aDP h
 refine ⟨?_,?_,?_,?_,?_,?_,?_⟩
 ·obtain ⟨⟨z,t⟩,hz⟩:=bL.1 aXh
  obtain ⟨cs,hh,_⟩:=hsh.1 9 z t (of_decide_eq_true (by kernel_rfl)) hz
  have:=(Array.getElem?_eq_some_iff.1 hh).1
  omega
 ·exact aDQ hsh aXg Tryz.underlying3 aUv (by kernel_rfl) (of_decide_eq_true (by kernel_rfl))
 ·exact xA (name:= "strconv.ErrSyntax") (nm:= "*errors.errorString") (d:=.ptr (.agg [.lit (.string [105,110,118,97,108,105,100,32,115,121,110,116,97,120])])) (g:=4) hp (List.mem_filter.2 ⟨by simp [aDe,Rows.printBackRow,Rows.laid_strconv_ErrSyntax],by kernel_rfl⟩) (by kernel_rfl) (by kernel_rfl) Tryz.underlying27
 ·exact xA (name:= "strconv.ErrRange") (nm:= "*errors.errorString") (d:=.ptr (.agg [.lit (.string [118,97,108,117,101,32,111,117,116,32,111,102,32,114,97,110,103,101])])) (g:=5) hp (List.mem_filter.2 ⟨by simp [aDe,Rows.printBackRow,Rows.laid_strconv_ErrRange],by kernel_rfl⟩) (by kernel_rfl) (by kernel_rfl) Tryz.underlying27
 ·exact xB (g:=3) hp (List.mem_filter.2 ⟨by simp [aDe,Rows.printBackRow,aMf],by kernel_rfl⟩) (by kernel_rfl) (by kernel_rfl) Tryz.underlying203 Tryz.underlying5 (by kernel_rfl) (by kernel_rfl)
 ·exact xB (g:=2) hp (List.mem_filter.2 ⟨by simp [aDe,Rows.printBackRow,aRf],by kernel_rfl⟩) (by kernel_rfl) (by kernel_rfl) Tryz.underlying197 Tryz.underlying180 (by kernel_rfl) (by kernel_rfl)
 ·have:=aCo (x:=("errors.errorType",Rows.laid_errors_errorType)) (name:=[101,114,114,111,114]) (g:=0) (u:=155) (ty:=27) h
   (List.mem_filter.2 ⟨by simp [aDe,Rows.printBackRow],by kernel_rfl⟩) (by kernel_rfl) (by kernel_rfl) aXf aUu (by kernel_rfl)
  rw[aMe] at this
  exact this
def nmV (s:String):TypeId:=if s = "*errors.errorString" then 219 else if s = "internal/reflectlite.rtype" then 155 else 27
noncomputable def aPa (os:Os):World:=aMV Tryz.prog nmV aDe os
section
variable {H:Type} {enc:TypeId × Value→H} {w:World} {sp:Nat→Bool} {held:Bool}
end
end Go.Proofs.YtidjangjfekfjaaGreatDoor
