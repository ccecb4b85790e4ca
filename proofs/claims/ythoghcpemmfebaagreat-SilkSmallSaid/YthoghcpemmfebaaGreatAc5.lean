import Derived.Test.YthoghcpemmfebaaGreatAc3
import Derived.Test.YthoghcpemmfebaaGreatAc1
import Derived.ChangeArms
import Derived.DataReads
import Derived.WideShapes
import Derived.WideKeyArgs
set_option linter.unusedSimpArgs false
set_option linter.unusedVariables false
namespace Go.Ab
section
variable {H':Type} {enc:TypeId × Value→H'} {P:Program} {w:World} {base:Nat} {spare:Nat→Bool} {held:Bool}
end
end Go.Ab
