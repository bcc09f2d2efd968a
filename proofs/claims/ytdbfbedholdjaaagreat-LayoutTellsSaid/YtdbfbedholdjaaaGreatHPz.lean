/- No conditions. -/
import Derived.Test.YtdbfbedholdjaaaGreatHDC
import Derived.IntWalk
set_option linter.unusedVariables false
set_option linter.unusedSimpArgs false
namespace Go.Dl
theorem bV.none [dO] {P:Program} {f:FuncId} {R:Type} {args:List D} {xs:List Obj} {m:Option R} {res:R→D} {out:R→List Obj} (h:m=Option.none):bV P f args xs m res out:=fun S β w vs hc hv r hr=>by rw[h] at hr;cases hr
theorem wrap64 {x:Int} (h1 : -9223372036854775808≤x) (h2:x≤9223372036854775807):IntKind.i64.wrap x=x:=by
 rw[IntKind.wrap_i64];omega
end Go.Dl
