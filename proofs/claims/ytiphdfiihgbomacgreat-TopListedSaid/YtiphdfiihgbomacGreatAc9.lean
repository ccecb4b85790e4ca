/- Maps whose keys are pairs of integers. -/
import Derived.Test.YtiphdfiihgbomacGreatAc2
set_option linter.unusedSimpArgs false
set_option linter.unusedVariables false
namespace Go.Ab
end Go.Ab
