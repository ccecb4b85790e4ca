/- Ways that meet again. -/
import Derived.Test.YtiphdfiihgbomabGreatAc2
set_option linter.unusedSimpArgs false
set_option linter.unusedVariables false
namespace Go.Ab
section
variable {Fn:Nat→Option FD} {fast:Nat→Option (List V→H→Option (V × H))} {N:Nat} {fn:FuncId} {ro:Option Nat}
end
end Go.Ab
