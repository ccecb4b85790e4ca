/- Ways that meet again. -/
import Derived.Test.YtkjbamlcgojkmaaGreatAc2
set_option linter.unusedSimpArgs false
set_option linter.unusedVariables false
namespace Go.Ab
section
variable {Fn:Nat→Option FD} {fast:Nat→Option (List V→H→Option (V × H))} {N:Nat} {fn:FuncId} {ro:Option Nat}
theorem W_assoc (a b c:C)(s:St)(Q:X→St→Prop):W Fn fast N fn ro (.seq a (.seq b c)) s Q=W Fn fast N fn ro (.seq (.seq a b) c) s Q:=by
 rw[W_seq,W_seq,W_seq]
 congr 1
 funext x s
 cases x with
 |nrm=>rw[Kseq_nrm,Kseq_nrm,W_seq]
 |ext j=>rw[Kseq_ext,Kseq_ext,Kseq_ext]
 |ret=>rw[Kseq_ret,Kseq_ret,Kseq_ret]
end
end Go.Ab
