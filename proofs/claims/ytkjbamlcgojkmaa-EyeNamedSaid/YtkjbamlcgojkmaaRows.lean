/-
  No cell of these rows narrows 'for every input' (looked for: loops, veiled, ifaces, maps, wideKeys, modest, calm, conditions, laid).
  DERIVED. THE GIVEN ROWS OF THIS SEAT. 9 by the template 'for every input the law returns true; each argument reads behind the call as it read before'; 0 by the template 'total and deterministic' (their statements: YtkjbamlcgojkmaaTotals.lean).
  GIVEN WITH THE SEED: the statements are not yours to turn. If you find one false, say at which input.
  Laid BY PROGRAM, IN A SANDBOX (cutbox-rows.mjs): the forced cells as the released guide's own fill.sh prints them over the translation 39f9fcd833401246… (all of the seat's roots in one cut). By AI agents, Wed Nov 11 2026. No macro, syntax, notation, axiom, sorry.
-/
import Derived.Test.YtkjbamlcgojkmaaChecked
import GoSem.Claim
import GoSem.ClaimJoined
import GoSem.ClaimMapViews
import Derived.JoinedTies
import Derived.KernelRfl
namespace Go.Proofs.Ytkjbamlcgojkmaa
/- THE CELL 'sum', in the pinned program and in every row, IS THE sha256 OF THE DUMP (.gsa) THAT YtkjbamlcgojkmaaProg.lean LOADS. Nothing in Lean hashes anything: it is a label: what it is worth is what the hold of that sum in a sandbox is worth. -/
noncomputable def Try.pinned : Pinned := { name := "ytkjbamlcgojkmaa", sum := "39f9fcd8334012469639e7d484bddac7165253afc703e275e16beca90ae750e5", checked := Try.checked }
namespace Rows
def none {H : Type} : Left H := { results := [], args := [] }

/-- 'petershamlaw06.EyeChains': WHATEVER THE INPUT: true; the input reads as it did. -/
def eyeChainsSpec : ChangeSpec := { name := "eyeChains", fn := fun _ => fun
  | [d1, d2, d3] => { results := [.lit (.bool true)], args := [d1, d2, d3] }
  | _ => none }
def eyeChainsRow : OpenClaim := { program := "ytkjbamlcgojkmaa", sum := "39f9fcd8334012469639e7d484bddac7165253afc703e275e16beca90ae750e5", func := "petersham/petershamlaw06.EyeChains", spec := "eyeChains", unfollowed := true, recurses := true, apart := false }
def EyeChainsSaid : Prop := eyeChainsRow.holds Try.pinned (OpenSpec.ofChange eyeChainsSpec)

/-- ITS FALSE NEIGHBOUR: 'it returns false'. Refute it at one input. -/
def eyeChainsWrong : ChangeSpec := { name := "eyeChains", fn := fun _ => fun
  | [d1, d2, d3] => { results := [.lit (.bool false)], args := [d1, d2, d3] }
  | _ => none }
def EyeChainsWrongFalsely : Prop := eyeChainsRow.holds Try.pinned (OpenSpec.ofChange eyeChainsWrong)

/-- 'petershamlaw06.EyeBetween': WHATEVER THE INPUT: true; the input reads as it did. -/
def eyeBetweenSpec : ChangeSpec := { name := "eyeBetween", fn := fun _ => fun
  | [d1, d2, d3] => { results := [.lit (.bool true)], args := [d1, d2, d3] }
  | _ => none }
def eyeBetweenRow : OpenClaim := { program := "ytkjbamlcgojkmaa", sum := "39f9fcd8334012469639e7d484bddac7165253afc703e275e16beca90ae750e5", func := "petersham/petershamlaw06.EyeBetween", spec := "eyeBetween", unfollowed := true, recurses := true, apart := false }
def EyeBetweenSaid : Prop := eyeBetweenRow.holds Try.pinned (OpenSpec.ofChange eyeBetweenSpec)

/-- ITS FALSE NEIGHBOUR: 'it returns false'. Refute it at one input. -/
def eyeBetweenWrong : ChangeSpec := { name := "eyeBetween", fn := fun _ => fun
  | [d1, d2, d3] => { results := [.lit (.bool false)], args := [d1, d2, d3] }
  | _ => none }
def EyeBetweenWrongFalsely : Prop := eyeBetweenRow.holds Try.pinned (OpenSpec.ofChange eyeBetweenWrong)

/-- 'petershamlaw06.EyeMatches': WHATEVER THE INPUT: true; the input reads as it did. -/
def eyeMatchesSpec : ChangeSpec := { name := "eyeMatches", fn := fun _ => fun
  | [d1, d2, d3, d4, d5, d6] => { results := [.lit (.bool true)], args := [d1, d2, d3, d4, d5, d6] }
  | _ => none }
def eyeMatchesRow : OpenClaim := { program := "ytkjbamlcgojkmaa", sum := "39f9fcd8334012469639e7d484bddac7165253afc703e275e16beca90ae750e5", func := "petersham/petershamlaw06.EyeMatches", spec := "eyeMatches", unfollowed := true, recurses := true, apart := false }
def EyeMatchesSaid : Prop := eyeMatchesRow.holds Try.pinned (OpenSpec.ofChange eyeMatchesSpec)

/-- ITS FALSE NEIGHBOUR: 'it returns false'. Refute it at one input. -/
def eyeMatchesWrong : ChangeSpec := { name := "eyeMatches", fn := fun _ => fun
  | [d1, d2, d3, d4, d5, d6] => { results := [.lit (.bool false)], args := [d1, d2, d3, d4, d5, d6] }
  | _ => none }
def EyeMatchesWrongFalsely : Prop := eyeMatchesRow.holds Try.pinned (OpenSpec.ofChange eyeMatchesWrong)

/-- 'petershamlaw06.EyeNamed': WHATEVER THE INPUT: true; the input reads as it did. -/
def eyeNamedSpec : ChangeSpec := { name := "eyeNamed", fn := fun _ => fun
  | [d1, d2] => { results := [.lit (.bool true)], args := [d1, d2] }
  | _ => none }
def eyeNamedRow : OpenClaim := { program := "ytkjbamlcgojkmaa", sum := "39f9fcd8334012469639e7d484bddac7165253afc703e275e16beca90ae750e5", func := "petersham/petershamlaw06.EyeNamed", spec := "eyeNamed", unfollowed := true, recurses := true, apart := false }
def EyeNamedSaid : Prop := eyeNamedRow.holds Try.pinned (OpenSpec.ofChange eyeNamedSpec)

/-- ITS FALSE NEIGHBOUR: 'it returns false'. Refute it at one input. -/
def eyeNamedWrong : ChangeSpec := { name := "eyeNamed", fn := fun _ => fun
  | [d1, d2] => { results := [.lit (.bool false)], args := [d1, d2] }
  | _ => none }
def EyeNamedWrongFalsely : Prop := eyeNamedRow.holds Try.pinned (OpenSpec.ofChange eyeNamedWrong)

/-- 'petershamlaw06.EyeChained': WHATEVER THE INPUT: true; the input reads as it did. -/
def eyeChainedSpec : ChangeSpec := { name := "eyeChained", fn := fun _ => fun
  | [d] => { results := [.lit (.bool true)], args := [d] }
  | _ => none }
def eyeChainedRow : OpenClaim := { program := "ytkjbamlcgojkmaa", sum := "39f9fcd8334012469639e7d484bddac7165253afc703e275e16beca90ae750e5", func := "petersham/petershamlaw06.EyeChained", spec := "eyeChained", unfollowed := true, recurses := true, apart := false }
def EyeChainedSaid : Prop := eyeChainedRow.holds Try.pinned (OpenSpec.ofChange eyeChainedSpec)

/-- ITS FALSE NEIGHBOUR: 'it returns false'. Refute it at one input. -/
def eyeChainedWrong : ChangeSpec := { name := "eyeChained", fn := fun _ => fun
  | [d] => { results := [.lit (.bool false)], args := [d] }
  | _ => none }
def EyeChainedWrongFalsely : Prop := eyeChainedRow.holds Try.pinned (OpenSpec.ofChange eyeChainedWrong)

/-- 'petershamlaw06.EyeTables': WHATEVER THE INPUT: true; the input reads as it did. -/
def eyeTablesSpec : ChangeSpec := { name := "eyeTables", fn := fun _ => fun
  | [d1, d2, d3, d4] => { results := [.lit (.bool true)], args := [d1, d2, d3, d4] }
  | _ => none }
def eyeTablesRow : OpenClaim := { program := "ytkjbamlcgojkmaa", sum := "39f9fcd8334012469639e7d484bddac7165253afc703e275e16beca90ae750e5", func := "petersham/petershamlaw06.EyeTables", spec := "eyeTables", unfollowed := true, recurses := true, apart := false }
def EyeTablesSaid : Prop := eyeTablesRow.holds Try.pinned (OpenSpec.ofChange eyeTablesSpec)

/-- ITS FALSE NEIGHBOUR: 'it returns false'. Refute it at one input. -/
def eyeTablesWrong : ChangeSpec := { name := "eyeTables", fn := fun _ => fun
  | [d1, d2, d3, d4] => { results := [.lit (.bool false)], args := [d1, d2, d3, d4] }
  | _ => none }
def EyeTablesWrongFalsely : Prop := eyeTablesRow.holds Try.pinned (OpenSpec.ofChange eyeTablesWrong)

/-- 'petershamlaw06.EyeMore': WHATEVER THE INPUT: true; the input reads as it did. -/
def eyeMoreSpec : ChangeSpec := { name := "eyeMore", fn := fun _ => fun
  | [d1, d2] => { results := [.lit (.bool true)], args := [d1, d2] }
  | _ => none }
def eyeMoreRow : OpenClaim := { program := "ytkjbamlcgojkmaa", sum := "39f9fcd8334012469639e7d484bddac7165253afc703e275e16beca90ae750e5", func := "petersham/petershamlaw06.EyeMore", spec := "eyeMore", unfollowed := true, recurses := true, apart := false }
def EyeMoreSaid : Prop := eyeMoreRow.holds Try.pinned (OpenSpec.ofChange eyeMoreSpec)

/-- ITS FALSE NEIGHBOUR: 'it returns false'. Refute it at one input. -/
def eyeMoreWrong : ChangeSpec := { name := "eyeMore", fn := fun _ => fun
  | [d1, d2] => { results := [.lit (.bool false)], args := [d1, d2] }
  | _ => none }
def EyeMoreWrongFalsely : Prop := eyeMoreRow.holds Try.pinned (OpenSpec.ofChange eyeMoreWrong)

/-- 'petershamlaw06.EyeFound': WHATEVER THE INPUT: true; the input reads as it did. -/
def eyeFoundSpec : ChangeSpec := { name := "eyeFound", fn := fun _ => fun
  | [d1, d2] => { results := [.lit (.bool true)], args := [d1, d2] }
  | _ => none }
def eyeFoundRow : OpenClaim := { program := "ytkjbamlcgojkmaa", sum := "39f9fcd8334012469639e7d484bddac7165253afc703e275e16beca90ae750e5", func := "petersham/petershamlaw06.EyeFound", spec := "eyeFound", unfollowed := true, recurses := true, apart := false }
def EyeFoundSaid : Prop := eyeFoundRow.holds Try.pinned (OpenSpec.ofChange eyeFoundSpec)

/-- ITS FALSE NEIGHBOUR: 'it returns false'. Refute it at one input. -/
def eyeFoundWrong : ChangeSpec := { name := "eyeFound", fn := fun _ => fun
  | [d1, d2] => { results := [.lit (.bool false)], args := [d1, d2] }
  | _ => none }
def EyeFoundWrongFalsely : Prop := eyeFoundRow.holds Try.pinned (OpenSpec.ofChange eyeFoundWrong)

/-- 'petershamlaw06.EyeNeeded': WHATEVER THE INPUT: true; the input reads as it did. -/
def eyeNeededSpec : ChangeSpec := { name := "eyeNeeded", fn := fun _ => fun
  | [d1, d2] => { results := [.lit (.bool true)], args := [d1, d2] }
  | _ => none }
def eyeNeededRow : OpenClaim := { program := "ytkjbamlcgojkmaa", sum := "39f9fcd8334012469639e7d484bddac7165253afc703e275e16beca90ae750e5", func := "petersham/petershamlaw06.EyeNeeded", spec := "eyeNeeded", unfollowed := true, recurses := true, apart := false }
def EyeNeededSaid : Prop := eyeNeededRow.holds Try.pinned (OpenSpec.ofChange eyeNeededSpec)

/-- ITS FALSE NEIGHBOUR: 'it returns false'. Refute it at one input. -/
def eyeNeededWrong : ChangeSpec := { name := "eyeNeeded", fn := fun _ => fun
  | [d1, d2] => { results := [.lit (.bool false)], args := [d1, d2] }
  | _ => none }
def EyeNeededWrongFalsely : Prop := eyeNeededRow.holds Try.pinned (OpenSpec.ofChange eyeNeededWrong)

/- THE SECOND FORM. 'bulk': how many values and letters a reading holds, each counted each time it is reached (what is shared counts as often as it is met; a slice's spare places count too). A statement '..UptoSaid' is the law's where the arguments, and the package variables that the reading takes, are together of bulk at most 1048576: NARROWER than '..Said'. Prove '..Said' where nothing that the law and all that it calls make is longer than what came in: it says more and counts as full. Else prove '..UptoSaid'. A law counts once. -/
mutual
def uptoBulk {H : Type} : DataW H → Nat
  | .lit (.string bytes) => bytes.length + 1
  | .lit _ => 1
  | .nil => 1
  | .ptr d => uptoBulk d + 1
  | .slice elems spare => uptoBulkAll elems + uptoBulkAll spare + 1
  | .agg parts => uptoBulkAll parts + 1
  | .iface _ d => uptoBulk d + 1
  | .map entries => uptoBulkEntries entries + 1
  | .held _ => 1
def uptoBulkAll {H : Type} : List (DataW H) → Nat
  | [] => 0
  | d :: r => uptoBulk d + uptoBulkAll r
def uptoBulkEntries {H : Type} : List (Lit × DataW H) → Nat
  | [] => 0
  | x :: r => uptoBulkEntry x + uptoBulkEntries r
def uptoBulkEntry {H : Type} : Lit × DataW H → Nat
  | (.string bytes, d) => bytes.length + uptoBulk d + 1
  | (_, d) => uptoBulk d + 1
 end
def uptoSmall : (H : Type) → List (DataW H) → Bool := fun _ ds => decide (uptoBulkAll ds ≤ 1048576)
def OpenSpec.upto (s : _root_.Go.ChangeSpec) : _root_.Go.OpenSpec := { _root_.Go.OpenSpec.ofChange s with cond := some uptoSmall }

/-- 'petershamlaw06.EyeChains', WHERE WHAT IT READS IS OF BULK AT MOST 1048576: true; the input reads as it did. -/
def eyeChainsUptoRow : OpenClaim := { program := "ytkjbamlcgojkmaa", sum := "39f9fcd8334012469639e7d484bddac7165253afc703e275e16beca90ae750e5", func := "petersham/petershamlaw06.EyeChains", spec := "eyeChains", unfollowed := true, recurses := true, apart := false, narrowed := true }
def EyeChainsUptoSaid : Prop := eyeChainsUptoRow.holds Try.pinned (OpenSpec.upto eyeChainsSpec)

/-- 'petershamlaw06.EyeBetween', WHERE WHAT IT READS IS OF BULK AT MOST 1048576: true; the input reads as it did. -/
def eyeBetweenUptoRow : OpenClaim := { program := "ytkjbamlcgojkmaa", sum := "39f9fcd8334012469639e7d484bddac7165253afc703e275e16beca90ae750e5", func := "petersham/petershamlaw06.EyeBetween", spec := "eyeBetween", unfollowed := true, recurses := true, apart := false, narrowed := true }
def EyeBetweenUptoSaid : Prop := eyeBetweenUptoRow.holds Try.pinned (OpenSpec.upto eyeBetweenSpec)

/-- 'petershamlaw06.EyeMatches', WHERE WHAT IT READS IS OF BULK AT MOST 1048576: true; the input reads as it did. -/
def eyeMatchesUptoRow : OpenClaim := { program := "ytkjbamlcgojkmaa", sum := "39f9fcd8334012469639e7d484bddac7165253afc703e275e16beca90ae750e5", func := "petersham/petershamlaw06.EyeMatches", spec := "eyeMatches", unfollowed := true, recurses := true, apart := false, narrowed := true }
def EyeMatchesUptoSaid : Prop := eyeMatchesUptoRow.holds Try.pinned (OpenSpec.upto eyeMatchesSpec)

/-- 'petershamlaw06.EyeNamed', WHERE WHAT IT READS IS OF BULK AT MOST 1048576: true; the input reads as it did. -/
def eyeNamedUptoRow : OpenClaim := { program := "ytkjbamlcgojkmaa", sum := "39f9fcd8334012469639e7d484bddac7165253afc703e275e16beca90ae750e5", func := "petersham/petershamlaw06.EyeNamed", spec := "eyeNamed", unfollowed := true, recurses := true, apart := false, narrowed := true }
def EyeNamedUptoSaid : Prop := eyeNamedUptoRow.holds Try.pinned (OpenSpec.upto eyeNamedSpec)

/-- 'petershamlaw06.EyeChained', WHERE WHAT IT READS IS OF BULK AT MOST 1048576: true; the input reads as it did. -/
def eyeChainedUptoRow : OpenClaim := { program := "ytkjbamlcgojkmaa", sum := "39f9fcd8334012469639e7d484bddac7165253afc703e275e16beca90ae750e5", func := "petersham/petershamlaw06.EyeChained", spec := "eyeChained", unfollowed := true, recurses := true, apart := false, narrowed := true }
def EyeChainedUptoSaid : Prop := eyeChainedUptoRow.holds Try.pinned (OpenSpec.upto eyeChainedSpec)

/-- 'petershamlaw06.EyeTables', WHERE WHAT IT READS IS OF BULK AT MOST 1048576: true; the input reads as it did. -/
def eyeTablesUptoRow : OpenClaim := { program := "ytkjbamlcgojkmaa", sum := "39f9fcd8334012469639e7d484bddac7165253afc703e275e16beca90ae750e5", func := "petersham/petershamlaw06.EyeTables", spec := "eyeTables", unfollowed := true, recurses := true, apart := false, narrowed := true }
def EyeTablesUptoSaid : Prop := eyeTablesUptoRow.holds Try.pinned (OpenSpec.upto eyeTablesSpec)

/-- 'petershamlaw06.EyeMore', WHERE WHAT IT READS IS OF BULK AT MOST 1048576: true; the input reads as it did. -/
def eyeMoreUptoRow : OpenClaim := { program := "ytkjbamlcgojkmaa", sum := "39f9fcd8334012469639e7d484bddac7165253afc703e275e16beca90ae750e5", func := "petersham/petershamlaw06.EyeMore", spec := "eyeMore", unfollowed := true, recurses := true, apart := false, narrowed := true }
def EyeMoreUptoSaid : Prop := eyeMoreUptoRow.holds Try.pinned (OpenSpec.upto eyeMoreSpec)

/-- 'petershamlaw06.EyeFound', WHERE WHAT IT READS IS OF BULK AT MOST 1048576: true; the input reads as it did. -/
def eyeFoundUptoRow : OpenClaim := { program := "ytkjbamlcgojkmaa", sum := "39f9fcd8334012469639e7d484bddac7165253afc703e275e16beca90ae750e5", func := "petersham/petershamlaw06.EyeFound", spec := "eyeFound", unfollowed := true, recurses := true, apart := false, narrowed := true }
def EyeFoundUptoSaid : Prop := eyeFoundUptoRow.holds Try.pinned (OpenSpec.upto eyeFoundSpec)

/-- 'petershamlaw06.EyeNeeded', WHERE WHAT IT READS IS OF BULK AT MOST 1048576: true; the input reads as it did. -/
def eyeNeededUptoRow : OpenClaim := { program := "ytkjbamlcgojkmaa", sum := "39f9fcd8334012469639e7d484bddac7165253afc703e275e16beca90ae750e5", func := "petersham/petershamlaw06.EyeNeeded", spec := "eyeNeeded", unfollowed := true, recurses := true, apart := false, narrowed := true }
def EyeNeededUptoSaid : Prop := eyeNeededUptoRow.holds Try.pinned (OpenSpec.upto eyeNeededSpec)

end Rows
end Go.Proofs.Ytkjbamlcgojkmaa
