/- Sums by kind, weight by weight: closed forms. Plain Lean. -/
import Derived.Test.YthoghcpemmfebaaGP
set_option linter.unusedVariables false
namespace Go.Ab.Silk
end Go.Ab.Silk
