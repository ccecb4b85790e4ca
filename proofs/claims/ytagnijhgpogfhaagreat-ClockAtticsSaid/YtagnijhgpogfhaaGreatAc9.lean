/- Maps whose keys are pairs of integers. -/
import Derived.Test.YtagnijhgpogfhaaGreatAc2
set_option linter.unusedSimpArgs false
set_option linter.unusedVariables false
namespace Go.Ab
abbrev kP (i:Int × Int):V:=.agg [.int .i64 i.1,.int .i64 i.2]
end Go.Ab
