import Derived.Test.YtglaieeholjhgaaGreatAc2
set_option linter.unusedSimpArgs false
set_option linter.unusedVariables false
namespace Go.Ab
section
variable {Fn:Nat→Option FD} {fast:Nat→Option (List V→H→Option (V × H))} {N:Nat} {fn:FuncId} {ro:Option Nat}
def Kcut (I:St→Prop)(x:X)(s:St):Prop:=x=.nrm∧I s
theorem W_cut {a:C}{s:St}{K:X→St→Prop}(I:St→Prop)(ha:W Fn fast N fn ro a s (Kcut I))(tail:∀s',I s'→K .nrm s'):W Fn fast N fn ro a s K:=
 ha.mono fun x s' ⟨e,hi⟩=>by subst e;exact tail s' hi
theorem PB_cut {p:Prop}[Decidable p]{a b:C}{s:St}{K:X→St→Prop}(I:St→Prop)(ha:p→W Fn fast N fn ro a s (Kcut I))(hb:¬p→W Fn fast N fn ro b s (Kcut I))(tail:∀s',I s'→K .nrm s'):
  PBd (.bool (decide p)) (W Fn fast N fn ro a s K) (W Fn fast N fn ro b s K) ⟨⟩:=
 PBd_dec (fun h=>W_cut I (ha h) tail) (fun h=>W_cut I (hb h) tail)
end
end Go.Ab
