/- clear: what it does, as a rule. -/
import Derived.Test.YtiphdfiihgbomabGreatAc2
set_option linter.unusedSimpArgs false
set_option linter.unusedVariables false
namespace Go.Ab
theorem e_clr_nils (h:H)(z:List V):e_clr h z .nils=some (.und,h):=rfl
theorem e_clr_sl (h:H)(z:List V)(b o n:Nat)(c:Cap):e_clr h z (.sl b o n c)=withV .und (h.put b o (repN n z)):=rfl
end Go.Ab
