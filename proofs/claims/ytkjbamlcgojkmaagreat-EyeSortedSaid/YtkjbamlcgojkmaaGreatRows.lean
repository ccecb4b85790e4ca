/-
  No cell of these rows narrows 'for every input' (looked for: loops, veiled, ifaces, maps, wideKeys, modest, calm, conditions, laid).
  DERIVED. THE GIVEN ROWS OF THIS SEAT. 4 by the template 'for every input the law returns true; each argument reads behind the call as it read before'; 0 by the template 'total and deterministic' (their statements: YtkjbamlcgojkmaaGreatTotals.lean).
  GIVEN WITH THE SEED: the statements are not yours to turn. If you find one false, say at which input.
  Laid BY PROGRAM, IN A SANDBOX (cutbox-rows.mjs): the forced cells as the released guide's own fill.sh prints them over the translation 0596eb628d8fc206… (all of the seat's roots in one cut). By AI agents, Wed Nov 11 2026. No macro, syntax, notation, axiom, sorry.
-/
import Derived.Test.YtkjbamlcgojkmaaGreatChecked
import GoSem.Claim
import GoSem.ClaimJoined
import GoSem.ClaimMapViews
import Derived.JoinedTies
import Derived.KernelRfl
namespace Go.Proofs.YtkjbamlcgojkmaaGreat
/- THE CELL 'sum', in the pinned program and in every row, IS THE sha256 OF THE DUMP (.gsa) THAT YtkjbamlcgojkmaaGreatProg.lean LOADS. Nothing in Lean hashes anything: it is a label: what it is worth is what the hold of that sum in a sandbox is worth. -/
noncomputable def Tryz.pinned : Pinned := { name := "ytkjbamlcgojkmaagreat", sum := "0596eb628d8fc206e8d5b0a8f280cc0d43ffb392a00155a105248d0d857c04d2", checked := Tryz.checked }
namespace Rows
def none {H : Type} : Left H := { results := [], args := [] }

/-- 'petershamlaw06.EyeSets': WHATEVER THE INPUT: true; the input reads as it did. -/
def eyeSetsSpec : ChangeSpec := { name := "eyeSets", fn := fun _ => fun
  | [d1, d2, d3] => { results := [.lit (.bool true)], args := [d1, d2, d3] }
  | _ => none }
def eyeSetsRow : OpenClaim := { program := "ytkjbamlcgojkmaagreat", sum := "0596eb628d8fc206e8d5b0a8f280cc0d43ffb392a00155a105248d0d857c04d2", func := "petersham/petershamlaw06.EyeSets", spec := "eyeSets", unfollowed := true, recurses := true, apart := false }
def EyeSetsSaid : Prop := eyeSetsRow.holds Tryz.pinned (OpenSpec.ofChange eyeSetsSpec)

/-- ITS FALSE NEIGHBOUR: 'it returns false'. Refute it at one input. -/
def eyeSetsWrong : ChangeSpec := { name := "eyeSets", fn := fun _ => fun
  | [d1, d2, d3] => { results := [.lit (.bool false)], args := [d1, d2, d3] }
  | _ => none }
def EyeSetsWrongFalsely : Prop := eyeSetsRow.holds Tryz.pinned (OpenSpec.ofChange eyeSetsWrong)

/-- 'petershamlaw06.EyeEnough': WHATEVER THE INPUT: true; the input reads as it did. -/
def eyeEnoughSpec : ChangeSpec := { name := "eyeEnough", fn := fun _ => fun
  | [d1, d2, d3] => { results := [.lit (.bool true)], args := [d1, d2, d3] }
  | _ => none }
def eyeEnoughRow : OpenClaim := { program := "ytkjbamlcgojkmaagreat", sum := "0596eb628d8fc206e8d5b0a8f280cc0d43ffb392a00155a105248d0d857c04d2", func := "petersham/petershamlaw06.EyeEnough", spec := "eyeEnough", unfollowed := true, recurses := true, apart := false }
def EyeEnoughSaid : Prop := eyeEnoughRow.holds Tryz.pinned (OpenSpec.ofChange eyeEnoughSpec)

/-- ITS FALSE NEIGHBOUR: 'it returns false'. Refute it at one input. -/
def eyeEnoughWrong : ChangeSpec := { name := "eyeEnough", fn := fun _ => fun
  | [d1, d2, d3] => { results := [.lit (.bool false)], args := [d1, d2, d3] }
  | _ => none }
def EyeEnoughWrongFalsely : Prop := eyeEnoughRow.holds Tryz.pinned (OpenSpec.ofChange eyeEnoughWrong)

/-- 'petershamlaw06.EyeSmall': WHATEVER THE INPUT: true; the input reads as it did. -/
def eyeSmallSpec : ChangeSpec := { name := "eyeSmall", fn := fun _ => fun
  | [] => { results := [.lit (.bool true)], args := [] }
  | _ => none }
def eyeSmallRow : OpenClaim := { program := "ytkjbamlcgojkmaagreat", sum := "0596eb628d8fc206e8d5b0a8f280cc0d43ffb392a00155a105248d0d857c04d2", func := "petersham/petershamlaw06.EyeSmall", spec := "eyeSmall", unfollowed := true, recurses := true, apart := false }
def EyeSmallSaid : Prop := eyeSmallRow.holds Tryz.pinned (OpenSpec.ofChange eyeSmallSpec)

/-- ITS FALSE NEIGHBOUR: 'it returns false'. Refute it at one input. -/
def eyeSmallWrong : ChangeSpec := { name := "eyeSmall", fn := fun _ => fun
  | [] => { results := [.lit (.bool false)], args := [] }
  | _ => none }
def EyeSmallWrongFalsely : Prop := eyeSmallRow.holds Tryz.pinned (OpenSpec.ofChange eyeSmallWrong)

/-- 'petershamlaw06.EyeSorted': WHATEVER THE INPUT: true; the input reads as it did. -/
def eyeSortedSpec : ChangeSpec := { name := "eyeSorted", fn := fun _ => fun
  | [d1, d2] => { results := [.lit (.bool true)], args := [d1, d2] }
  | _ => none }
def eyeSortedRow : OpenClaim := { program := "ytkjbamlcgojkmaagreat", sum := "0596eb628d8fc206e8d5b0a8f280cc0d43ffb392a00155a105248d0d857c04d2", func := "petersham/petershamlaw06.EyeSorted", spec := "eyeSorted", unfollowed := true, recurses := true, apart := false }
def EyeSortedSaid : Prop := eyeSortedRow.holds Tryz.pinned (OpenSpec.ofChange eyeSortedSpec)

/-- ITS FALSE NEIGHBOUR: 'it returns false'. Refute it at one input. -/
def eyeSortedWrong : ChangeSpec := { name := "eyeSorted", fn := fun _ => fun
  | [d1, d2] => { results := [.lit (.bool false)], args := [d1, d2] }
  | _ => none }
def EyeSortedWrongFalsely : Prop := eyeSortedRow.holds Tryz.pinned (OpenSpec.ofChange eyeSortedWrong)

/- THE SECOND FORM. 'bulk': how many values and letters a reading holds, each counted each time it is reached (what is shared counts as often as it is met; a slice's spare places count too). A statement '..UptoSaid' is the law's where the arguments, and the package variables that the reading takes, are together of bulk at most 1048576: NARROWER than '..Said'. Prove '..Said' where nothing that the law and all that it calls make is longer than what came in: it says more and counts as full. Else prove '..UptoSaid'. A law counts once. -/
mutual
def uptoBulk {H : Type} : DataW H → Nat
  | .lit (.string bytes) => bytes.length + 1
  | .lit _ => 1
  | .nil => 1
  | .ptr d => uptoBulk d + 1
  | .slice elems spare => uptoBulkAll elems + uptoBulkAll spare + 1
  | .agg parts => uptoBulkAll parts + 1
  | .iface _ d => uptoBulk d + 1
  | .map entries => uptoBulkEntries entries + 1
  | .held _ => 1
def uptoBulkAll {H : Type} : List (DataW H) → Nat
  | [] => 0
  | d :: r => uptoBulk d + uptoBulkAll r
def uptoBulkEntries {H : Type} : List (Lit × DataW H) → Nat
  | [] => 0
  | x :: r => uptoBulkEntry x + uptoBulkEntries r
def uptoBulkEntry {H : Type} : Lit × DataW H → Nat
  | (.string bytes, d) => bytes.length + uptoBulk d + 1
  | (_, d) => uptoBulk d + 1
 end
def uptoSmall : (H : Type) → List (DataW H) → Bool := fun _ ds => decide (uptoBulkAll ds ≤ 1048576)
def OpenSpec.upto (s : _root_.Go.ChangeSpec) : _root_.Go.OpenSpec := { _root_.Go.OpenSpec.ofChange s with cond := some uptoSmall }

/-- 'petershamlaw06.EyeSets', WHERE WHAT IT READS IS OF BULK AT MOST 1048576: true; the input reads as it did. -/
def eyeSetsUptoRow : OpenClaim := { program := "ytkjbamlcgojkmaagreat", sum := "0596eb628d8fc206e8d5b0a8f280cc0d43ffb392a00155a105248d0d857c04d2", func := "petersham/petershamlaw06.EyeSets", spec := "eyeSets", unfollowed := true, recurses := true, apart := false, narrowed := true }
def EyeSetsUptoSaid : Prop := eyeSetsUptoRow.holds Tryz.pinned (OpenSpec.upto eyeSetsSpec)

/-- 'petershamlaw06.EyeEnough', WHERE WHAT IT READS IS OF BULK AT MOST 1048576: true; the input reads as it did. -/
def eyeEnoughUptoRow : OpenClaim := { program := "ytkjbamlcgojkmaagreat", sum := "0596eb628d8fc206e8d5b0a8f280cc0d43ffb392a00155a105248d0d857c04d2", func := "petersham/petershamlaw06.EyeEnough", spec := "eyeEnough", unfollowed := true, recurses := true, apart := false, narrowed := true }
def EyeEnoughUptoSaid : Prop := eyeEnoughUptoRow.holds Tryz.pinned (OpenSpec.upto eyeEnoughSpec)

/-- 'petershamlaw06.EyeSmall', WHERE WHAT IT READS IS OF BULK AT MOST 1048576: true; the input reads as it did. -/
def eyeSmallUptoRow : OpenClaim := { program := "ytkjbamlcgojkmaagreat", sum := "0596eb628d8fc206e8d5b0a8f280cc0d43ffb392a00155a105248d0d857c04d2", func := "petersham/petershamlaw06.EyeSmall", spec := "eyeSmall", unfollowed := true, recurses := true, apart := false, narrowed := true }
def EyeSmallUptoSaid : Prop := eyeSmallUptoRow.holds Tryz.pinned (OpenSpec.upto eyeSmallSpec)

/-- 'petershamlaw06.EyeSorted', WHERE WHAT IT READS IS OF BULK AT MOST 1048576: true; the input reads as it did. -/
def eyeSortedUptoRow : OpenClaim := { program := "ytkjbamlcgojkmaagreat", sum := "0596eb628d8fc206e8d5b0a8f280cc0d43ffb392a00155a105248d0d857c04d2", func := "petersham/petershamlaw06.EyeSorted", spec := "eyeSorted", unfollowed := true, recurses := true, apart := false, narrowed := true }
def EyeSortedUptoSaid : Prop := eyeSortedUptoRow.holds Tryz.pinned (OpenSpec.upto eyeSortedSpec)

end Rows
end Go.Proofs.YtkjbamlcgojkmaaGreat
