/- Range over a function, in the calculus. -/
import Derived.Test.YtagnijhgpogfhaaGreatAc4
set_option linter.unusedSimpArgs false
set_option linter.unusedVariables false
namespace Go.Ab
section
variable {Fn:Nat→Option FD} {fast:Nat→Option (List V→H→Option (V × H))} {N:Nat} {fn:FuncId}
end
end Go.Ab
