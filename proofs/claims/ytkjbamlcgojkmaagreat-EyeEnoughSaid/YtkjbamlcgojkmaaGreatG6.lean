/- EyeChains. The law's own match; the sum of all kin. -/
import Derived.Test.YtkjbamlcgojkmaaGreatG4
import Derived.Test.YtkjbamlcgojkmaaGreatG5
set_option linter.unusedSimpArgs false
set_option linter.unusedVariables false
namespace Go.Ab.Tryz
end Go.Ab.Tryz
set_option linter.unusedSimpArgs false
set_option linter.unusedVariables false
namespace Go.Ab.Tryz
end Go.Ab.Tryz
