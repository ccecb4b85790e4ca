import Derived.Test.YthoghcpemmfebaaGreatAc2
set_option linter.unusedSimpArgs false
set_option linter.unusedVariables false
namespace Go.Ab
section
variable {Fn:Nat→Option FD} {fast:Nat→Option (List V→H→Option (V × H))} {N:Nat} {fn:FuncId} {ro:Option Nat}
def Kcut (I:St→Prop)(x:X)(s:St):Prop:=x=.nrm∧I s
theorem W_cut {a:C}{s:St}{K:X→St→Prop}(I:St→Prop)(ha:W Fn fast N fn ro a s (Kcut I))(tail:∀s',I s'→K .nrm s'):W Fn fast N fn ro a s K:=
 ha.mono fun x s' ⟨e,hi⟩=>by subst e;exact tail s' hi
theorem Us {p:Prop}[Decidable p]{a b:C}{s:St}{K:X→St→Prop}(I:St→Prop)(ha:p→W Fn fast N fn ro a s (Kcut I))(hb:¬p→W Fn fast N fn ro b s (Kcut I))(tail:∀s',I s'→K .nrm s'):
  PBd (.bool (decide p)) (W Fn fast N fn ro a s K) (W Fn fast N fn ro b s K) ⟨⟩:=
 PBd_dec (fun h=>W_cut I (ha h) tail) (fun h=>W_cut I (hb h) tail)
theorem Up (a b c:C)(s:St)(Q:X→St→Prop):W Fn fast N fn ro (.seq a (.seq b c)) s Q=W Fn fast N fn ro (.seq (.seq a b) c) s Q:=by
 rw[W_seq,W_seq,W_seq]
 congr 1
 funext x s
 cases x with
 |nrm=>rw[Kseq_nrm,Kseq_nrm,W_seq]
 |ext j=>rw[Kseq_ext,Kseq_ext,Kseq_ext]
 |ret=>rw[Kseq_ret,Kseq_ret,Kseq_ret]
end
end Go.Ab
