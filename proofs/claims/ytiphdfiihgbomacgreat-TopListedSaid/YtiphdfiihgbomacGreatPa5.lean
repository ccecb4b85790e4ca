/- The shortest lists, and of these the first, for which something holds: plain Lean. -/
set_option linter.unusedVariables false
namespace Go.Ab.Silk
def lexlt:List Int→List Int→Bool
 |a::l,b::r=>if a=b then lexlt l r else decide (a<b)
 |_,_=>false
def before (a b:List Int):Bool:=if a.length=b.length then lexlt a b else decide (a.length<b.length)
end Go.Ab.Silk
