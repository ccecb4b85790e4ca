/- Slices of our own, of any capacity: rows appended, cleared. -/
import Derived.Test.YtagnijhgpogfhaaAc6
import Derived.Test.YtagnijhgpogfhaaAc1
set_option linter.unusedSimpArgs false
set_option linter.unusedVariables false
namespace Go.Ab
theorem SlAt.elems {h:H}{x:V}{sz:Nat}{rows:List (List V)}(a:SlAt h x sz rows):elems h sz x=some rows.flatten∧lenV x=some rows.length:=by
 rcases a.2.2 with⟨rfl,rfl⟩|⟨b,o,c,cs,rfl,h2,h3⟩
 ·exact⟨rfl,rfl⟩
 ·refine⟨?_,rfl⟩
  cases hn:rows.length with
  |zero=>
   have:rows=[]:=List.length_eq_zero_iff.1 hn
   subst this;rfl
  |succ k=>
   replace h2:h.cells b=some cs:=h2.resolve_left (fun e=>by rw[e] at hn;simp at hn)
   rw[elems_s,h2,elC_some,←hn];exact h3
end Go.Ab
