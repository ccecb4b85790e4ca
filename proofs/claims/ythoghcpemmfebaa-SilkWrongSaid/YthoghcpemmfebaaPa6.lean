/- Shares between consistent bounds, and their tables: plain Lean. -/
import Derived.Test.YthoghcpemmfebaaPa4
set_option linter.unusedVariables false
namespace Go.Ab.Silk
section
variable {n : Nat} {frm : Int → Int} {parts : Int → List Int}
end
end Go.Ab.Silk
