/- clear: what it does, as a rule. -/
import Derived.Test.YtagnijhgpogfhaaAc2
set_option linter.unusedSimpArgs false
set_option linter.unusedVariables false
namespace Go.Ab
end Go.Ab
