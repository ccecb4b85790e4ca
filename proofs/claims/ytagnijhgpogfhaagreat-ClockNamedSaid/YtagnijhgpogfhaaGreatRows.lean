/-
  No cell of these rows narrows 'for every input' (looked for: loops, veiled, ifaces, maps, wideKeys, modest, calm, conditions, laid).
  DERIVED. THE GIVEN ROWS OF THIS SEAT. 11 by the template 'for every input the law returns true; each argument reads behind the call as it read before'; 0 by the template 'total and deterministic' (their statements: YtagnijhgpogfhaaGreatTotals.lean).
  GIVEN WITH THE SEED: the statements are not yours to turn. If you find one false, say at which input.
  Laid BY PROGRAM, IN A SANDBOX (cutbox-rows.mjs): the forced cells as the released guide's own fill.sh prints them over the translation f845932c72612710… (all of the seat's roots in one cut). By AI agents, Wed Nov 11 2026. No macro, syntax, notation, axiom, sorry.
-/
import Derived.Test.YtagnijhgpogfhaaGreatChecked
import GoSem.Claim
import GoSem.ClaimJoined
import GoSem.ClaimMapViews
import Derived.JoinedTies
import Derived.KernelRfl
namespace Go.Proofs.YtagnijhgpogfhaaGreat
/- THE CELL 'sum', in the pinned program and in every row, IS THE sha256 OF THE DUMP (.gsa) THAT YtagnijhgpogfhaaGreatProg.lean LOADS. Nothing in Lean hashes anything: it is a label: what it is worth is what the hold of that sum in a sandbox is worth. -/
noncomputable def Tryz.pinned : Pinned := { name := "ytagnijhgpogfhaagreat", sum := "f845932c7261271040b7ee9570c1857184c4228a5a8ffea0abce573648ebfe2e", checked := Tryz.checked }
namespace Rows
def none {H : Type} : Left H := { results := [], args := [] }

/-- 'petershamlaw10.ClockNamed': WHATEVER THE INPUT: true; the input reads as it did. -/
def clockNamedSpec : ChangeSpec := { name := "clockNamed", fn := fun _ => fun
  | [d1, d2, d3] => { results := [.lit (.bool true)], args := [d1, d2, d3] }
  | _ => none }
def clockNamedRow : OpenClaim := { program := "ytagnijhgpogfhaagreat", sum := "f845932c7261271040b7ee9570c1857184c4228a5a8ffea0abce573648ebfe2e", func := "petersham/petershamlaw10.ClockNamed", spec := "clockNamed", unfollowed := true, recurses := true, plainKeys := false, apart := false }
def ClockNamedSaid : Prop := clockNamedRow.holds Tryz.pinned (OpenSpec.ofChange clockNamedSpec)

/-- ITS FALSE NEIGHBOUR: 'it returns false'. Refute it at one input. -/
def clockNamedWrong : ChangeSpec := { name := "clockNamed", fn := fun _ => fun
  | [d1, d2, d3] => { results := [.lit (.bool false)], args := [d1, d2, d3] }
  | _ => none }
def ClockNamedWrongFalsely : Prop := clockNamedRow.holds Tryz.pinned (OpenSpec.ofChange clockNamedWrong)

/-- 'petershamlaw10.ClockTimes': WHATEVER THE INPUT: true; the input reads as it did. -/
def clockTimesSpec : ChangeSpec := { name := "clockTimes", fn := fun _ => fun
  | [d1, d2, d3, d4] => { results := [.lit (.bool true)], args := [d1, d2, d3, d4] }
  | _ => none }
def clockTimesRow : OpenClaim := { program := "ytagnijhgpogfhaagreat", sum := "f845932c7261271040b7ee9570c1857184c4228a5a8ffea0abce573648ebfe2e", func := "petersham/petershamlaw10.ClockTimes", spec := "clockTimes", unfollowed := true, recurses := true, plainKeys := false, apart := false }
def ClockTimesSaid : Prop := clockTimesRow.holds Tryz.pinned (OpenSpec.ofChange clockTimesSpec)

/-- ITS FALSE NEIGHBOUR: 'it returns false'. Refute it at one input. -/
def clockTimesWrong : ChangeSpec := { name := "clockTimes", fn := fun _ => fun
  | [d1, d2, d3, d4] => { results := [.lit (.bool false)], args := [d1, d2, d3, d4] }
  | _ => none }
def ClockTimesWrongFalsely : Prop := clockTimesRow.holds Tryz.pinned (OpenSpec.ofChange clockTimesWrong)

/-- 'petershamlaw10.ClockRuns': WHATEVER THE INPUT: true; the input reads as it did. -/
def clockRunsSpec : ChangeSpec := { name := "clockRuns", fn := fun _ => fun
  | [d1, d2, d3] => { results := [.lit (.bool true)], args := [d1, d2, d3] }
  | _ => none }
def clockRunsRow : OpenClaim := { program := "ytagnijhgpogfhaagreat", sum := "f845932c7261271040b7ee9570c1857184c4228a5a8ffea0abce573648ebfe2e", func := "petersham/petershamlaw10.ClockRuns", spec := "clockRuns", unfollowed := true, recurses := true, plainKeys := false, apart := false }
def ClockRunsSaid : Prop := clockRunsRow.holds Tryz.pinned (OpenSpec.ofChange clockRunsSpec)

/-- ITS FALSE NEIGHBOUR: 'it returns false'. Refute it at one input. -/
def clockRunsWrong : ChangeSpec := { name := "clockRuns", fn := fun _ => fun
  | [d1, d2, d3] => { results := [.lit (.bool false)], args := [d1, d2, d3] }
  | _ => none }
def ClockRunsWrongFalsely : Prop := clockRunsRow.holds Tryz.pinned (OpenSpec.ofChange clockRunsWrong)

/-- 'petershamlaw10.ClockAgrees': WHATEVER THE INPUT: true; the input reads as it did. -/
def clockAgreesSpec : ChangeSpec := { name := "clockAgrees", fn := fun _ => fun
  | [d1, d2] => { results := [.lit (.bool true)], args := [d1, d2] }
  | _ => none }
def clockAgreesRow : OpenClaim := { program := "ytagnijhgpogfhaagreat", sum := "f845932c7261271040b7ee9570c1857184c4228a5a8ffea0abce573648ebfe2e", func := "petersham/petershamlaw10.ClockAgrees", spec := "clockAgrees", unfollowed := true, recurses := true, plainKeys := false, apart := false }
def ClockAgreesSaid : Prop := clockAgreesRow.holds Tryz.pinned (OpenSpec.ofChange clockAgreesSpec)

/-- ITS FALSE NEIGHBOUR: 'it returns false'. Refute it at one input. -/
def clockAgreesWrong : ChangeSpec := { name := "clockAgrees", fn := fun _ => fun
  | [d1, d2] => { results := [.lit (.bool false)], args := [d1, d2] }
  | _ => none }
def ClockAgreesWrongFalsely : Prop := clockAgreesRow.holds Tryz.pinned (OpenSpec.ofChange clockAgreesWrong)

/-- 'petershamlaw10.ClockTruths': WHATEVER THE INPUT: true; the input reads as it did. -/
def clockTruthsSpec : ChangeSpec := { name := "clockTruths", fn := fun _ => fun
  | [d1, d2] => { results := [.lit (.bool true)], args := [d1, d2] }
  | _ => none }
def clockTruthsRow : OpenClaim := { program := "ytagnijhgpogfhaagreat", sum := "f845932c7261271040b7ee9570c1857184c4228a5a8ffea0abce573648ebfe2e", func := "petersham/petershamlaw10.ClockTruths", spec := "clockTruths", unfollowed := true, recurses := true, plainKeys := false, apart := false }
def ClockTruthsSaid : Prop := clockTruthsRow.holds Tryz.pinned (OpenSpec.ofChange clockTruthsSpec)

/-- ITS FALSE NEIGHBOUR: 'it returns false'. Refute it at one input. -/
def clockTruthsWrong : ChangeSpec := { name := "clockTruths", fn := fun _ => fun
  | [d1, d2] => { results := [.lit (.bool false)], args := [d1, d2] }
  | _ => none }
def ClockTruthsWrongFalsely : Prop := clockTruthsRow.holds Tryz.pinned (OpenSpec.ofChange clockTruthsWrong)

/-- 'petershamlaw10.ClockTold': WHATEVER THE INPUT: true; the input reads as it did. -/
def clockToldSpec : ChangeSpec := { name := "clockTold", fn := fun _ => fun
  | [d1, d2] => { results := [.lit (.bool true)], args := [d1, d2] }
  | _ => none }
def clockToldRow : OpenClaim := { program := "ytagnijhgpogfhaagreat", sum := "f845932c7261271040b7ee9570c1857184c4228a5a8ffea0abce573648ebfe2e", func := "petersham/petershamlaw10.ClockTold", spec := "clockTold", unfollowed := true, recurses := true, plainKeys := false, apart := false }
def ClockToldSaid : Prop := clockToldRow.holds Tryz.pinned (OpenSpec.ofChange clockToldSpec)

/-- ITS FALSE NEIGHBOUR: 'it returns false'. Refute it at one input. -/
def clockToldWrong : ChangeSpec := { name := "clockTold", fn := fun _ => fun
  | [d1, d2] => { results := [.lit (.bool false)], args := [d1, d2] }
  | _ => none }
def ClockToldWrongFalsely : Prop := clockToldRow.holds Tryz.pinned (OpenSpec.ofChange clockToldWrong)

/-- 'petershamlaw10.ClockAttics': WHATEVER THE INPUT: true; the input reads as it did. -/
def clockAtticsSpec : ChangeSpec := { name := "clockAttics", fn := fun _ => fun
  | [d1, d2, d3] => { results := [.lit (.bool true)], args := [d1, d2, d3] }
  | _ => none }
def clockAtticsRow : OpenClaim := { program := "ytagnijhgpogfhaagreat", sum := "f845932c7261271040b7ee9570c1857184c4228a5a8ffea0abce573648ebfe2e", func := "petersham/petershamlaw10.ClockAttics", spec := "clockAttics", unfollowed := true, recurses := true, plainKeys := false, apart := false }
def ClockAtticsSaid : Prop := clockAtticsRow.holds Tryz.pinned (OpenSpec.ofChange clockAtticsSpec)

/-- ITS FALSE NEIGHBOUR: 'it returns false'. Refute it at one input. -/
def clockAtticsWrong : ChangeSpec := { name := "clockAttics", fn := fun _ => fun
  | [d1, d2, d3] => { results := [.lit (.bool false)], args := [d1, d2, d3] }
  | _ => none }
def ClockAtticsWrongFalsely : Prop := clockAtticsRow.holds Tryz.pinned (OpenSpec.ofChange clockAtticsWrong)

/-- 'petershamlaw10.ClockClashed': WHATEVER THE INPUT: true; the input reads as it did. -/
def clockClashedSpec : ChangeSpec := { name := "clockClashed", fn := fun _ => fun
  | [d1, d2, d3] => { results := [.lit (.bool true)], args := [d1, d2, d3] }
  | _ => none }
def clockClashedRow : OpenClaim := { program := "ytagnijhgpogfhaagreat", sum := "f845932c7261271040b7ee9570c1857184c4228a5a8ffea0abce573648ebfe2e", func := "petersham/petershamlaw10.ClockClashed", spec := "clockClashed", unfollowed := true, recurses := true, plainKeys := false, apart := false }
def ClockClashedSaid : Prop := clockClashedRow.holds Tryz.pinned (OpenSpec.ofChange clockClashedSpec)

/-- ITS FALSE NEIGHBOUR: 'it returns false'. Refute it at one input. -/
def clockClashedWrong : ChangeSpec := { name := "clockClashed", fn := fun _ => fun
  | [d1, d2, d3] => { results := [.lit (.bool false)], args := [d1, d2, d3] }
  | _ => none }
def ClockClashedWrongFalsely : Prop := clockClashedRow.holds Tryz.pinned (OpenSpec.ofChange clockClashedWrong)

/-- 'petershamlaw10.ClockMore': WHATEVER THE INPUT: true; the input reads as it did. -/
def clockMoreSpec : ChangeSpec := { name := "clockMore", fn := fun _ => fun
  | [d1, d2, d3, d4, d5] => { results := [.lit (.bool true)], args := [d1, d2, d3, d4, d5] }
  | _ => none }
def clockMoreRow : OpenClaim := { program := "ytagnijhgpogfhaagreat", sum := "f845932c7261271040b7ee9570c1857184c4228a5a8ffea0abce573648ebfe2e", func := "petersham/petershamlaw10.ClockMore", spec := "clockMore", unfollowed := true, recurses := true, plainKeys := false, apart := false }
def ClockMoreSaid : Prop := clockMoreRow.holds Tryz.pinned (OpenSpec.ofChange clockMoreSpec)

/-- ITS FALSE NEIGHBOUR: 'it returns false'. Refute it at one input. -/
def clockMoreWrong : ChangeSpec := { name := "clockMore", fn := fun _ => fun
  | [d1, d2, d3, d4, d5] => { results := [.lit (.bool false)], args := [d1, d2, d3, d4, d5] }
  | _ => none }
def ClockMoreWrongFalsely : Prop := clockMoreRow.holds Tryz.pinned (OpenSpec.ofChange clockMoreWrong)

/-- 'petershamlaw10.ClockSettled': WHATEVER THE INPUT: true; the input reads as it did. -/
def clockSettledSpec : ChangeSpec := { name := "clockSettled", fn := fun _ => fun
  | [d1, d2, d3] => { results := [.lit (.bool true)], args := [d1, d2, d3] }
  | _ => none }
def clockSettledRow : OpenClaim := { program := "ytagnijhgpogfhaagreat", sum := "f845932c7261271040b7ee9570c1857184c4228a5a8ffea0abce573648ebfe2e", func := "petersham/petershamlaw10.ClockSettled", spec := "clockSettled", unfollowed := true, recurses := true, plainKeys := false, apart := false }
def ClockSettledSaid : Prop := clockSettledRow.holds Tryz.pinned (OpenSpec.ofChange clockSettledSpec)

/-- ITS FALSE NEIGHBOUR: 'it returns false'. Refute it at one input. -/
def clockSettledWrong : ChangeSpec := { name := "clockSettled", fn := fun _ => fun
  | [d1, d2, d3] => { results := [.lit (.bool false)], args := [d1, d2, d3] }
  | _ => none }
def ClockSettledWrongFalsely : Prop := clockSettledRow.holds Tryz.pinned (OpenSpec.ofChange clockSettledWrong)

/-- 'petershamlaw10.ClockSmall': WHATEVER THE INPUT: true; the input reads as it did. -/
def clockSmallSpec : ChangeSpec := { name := "clockSmall", fn := fun _ => fun
  | [] => { results := [.lit (.bool true)], args := [] }
  | _ => none }
def clockSmallRow : OpenClaim := { program := "ytagnijhgpogfhaagreat", sum := "f845932c7261271040b7ee9570c1857184c4228a5a8ffea0abce573648ebfe2e", func := "petersham/petershamlaw10.ClockSmall", spec := "clockSmall", unfollowed := true, recurses := true, plainKeys := false, apart := false }
def ClockSmallSaid : Prop := clockSmallRow.holds Tryz.pinned (OpenSpec.ofChange clockSmallSpec)

/-- ITS FALSE NEIGHBOUR: 'it returns false'. Refute it at one input. -/
def clockSmallWrong : ChangeSpec := { name := "clockSmall", fn := fun _ => fun
  | [] => { results := [.lit (.bool false)], args := [] }
  | _ => none }
def ClockSmallWrongFalsely : Prop := clockSmallRow.holds Tryz.pinned (OpenSpec.ofChange clockSmallWrong)

/- THE SECOND FORM. 'bulk': how many values and letters a reading holds, each counted each time it is reached (what is shared counts as often as it is met; a slice's spare places count too). A statement '..UptoSaid' is the law's where the arguments, and the package variables that the reading takes, are together of bulk at most 1048576: NARROWER than '..Said'. Prove '..Said' where nothing that the law and all that it calls make is longer than what came in: it says more and counts as full. Else prove '..UptoSaid'. A law counts once. -/
mutual
def uptoBulk {H : Type} : DataW H → Nat
  | .lit (.string bytes) => bytes.length + 1
  | .lit _ => 1
  | .nil => 1
  | .ptr d => uptoBulk d + 1
  | .slice elems spare => uptoBulkAll elems + uptoBulkAll spare + 1
  | .agg parts => uptoBulkAll parts + 1
  | .iface _ d => uptoBulk d + 1
  | .map entries => uptoBulkEntries entries + 1
  | .held _ => 1
def uptoBulkAll {H : Type} : List (DataW H) → Nat
  | [] => 0
  | d :: r => uptoBulk d + uptoBulkAll r
def uptoBulkEntries {H : Type} : List (Lit × DataW H) → Nat
  | [] => 0
  | x :: r => uptoBulkEntry x + uptoBulkEntries r
def uptoBulkEntry {H : Type} : Lit × DataW H → Nat
  | (.string bytes, d) => bytes.length + uptoBulk d + 1
  | (_, d) => uptoBulk d + 1
 end
def uptoSmall : (H : Type) → List (DataW H) → Bool := fun _ ds => decide (uptoBulkAll ds ≤ 1048576)
def OpenSpec.upto (s : _root_.Go.ChangeSpec) : _root_.Go.OpenSpec := { _root_.Go.OpenSpec.ofChange s with cond := some uptoSmall }

/-- 'petershamlaw10.ClockNamed', WHERE WHAT IT READS IS OF BULK AT MOST 1048576: true; the input reads as it did. -/
def clockNamedUptoRow : OpenClaim := { program := "ytagnijhgpogfhaagreat", sum := "f845932c7261271040b7ee9570c1857184c4228a5a8ffea0abce573648ebfe2e", func := "petersham/petershamlaw10.ClockNamed", spec := "clockNamed", unfollowed := true, recurses := true, plainKeys := false, apart := false, narrowed := true }
def ClockNamedUptoSaid : Prop := clockNamedUptoRow.holds Tryz.pinned (OpenSpec.upto clockNamedSpec)

/-- 'petershamlaw10.ClockTimes', WHERE WHAT IT READS IS OF BULK AT MOST 1048576: true; the input reads as it did. -/
def clockTimesUptoRow : OpenClaim := { program := "ytagnijhgpogfhaagreat", sum := "f845932c7261271040b7ee9570c1857184c4228a5a8ffea0abce573648ebfe2e", func := "petersham/petershamlaw10.ClockTimes", spec := "clockTimes", unfollowed := true, recurses := true, plainKeys := false, apart := false, narrowed := true }
def ClockTimesUptoSaid : Prop := clockTimesUptoRow.holds Tryz.pinned (OpenSpec.upto clockTimesSpec)

/-- 'petershamlaw10.ClockRuns', WHERE WHAT IT READS IS OF BULK AT MOST 1048576: true; the input reads as it did. -/
def clockRunsUptoRow : OpenClaim := { program := "ytagnijhgpogfhaagreat", sum := "f845932c7261271040b7ee9570c1857184c4228a5a8ffea0abce573648ebfe2e", func := "petersham/petershamlaw10.ClockRuns", spec := "clockRuns", unfollowed := true, recurses := true, plainKeys := false, apart := false, narrowed := true }
def ClockRunsUptoSaid : Prop := clockRunsUptoRow.holds Tryz.pinned (OpenSpec.upto clockRunsSpec)

/-- 'petershamlaw10.ClockAgrees', WHERE WHAT IT READS IS OF BULK AT MOST 1048576: true; the input reads as it did. -/
def clockAgreesUptoRow : OpenClaim := { program := "ytagnijhgpogfhaagreat", sum := "f845932c7261271040b7ee9570c1857184c4228a5a8ffea0abce573648ebfe2e", func := "petersham/petershamlaw10.ClockAgrees", spec := "clockAgrees", unfollowed := true, recurses := true, plainKeys := false, apart := false, narrowed := true }
def ClockAgreesUptoSaid : Prop := clockAgreesUptoRow.holds Tryz.pinned (OpenSpec.upto clockAgreesSpec)

/-- 'petershamlaw10.ClockTruths', WHERE WHAT IT READS IS OF BULK AT MOST 1048576: true; the input reads as it did. -/
def clockTruthsUptoRow : OpenClaim := { program := "ytagnijhgpogfhaagreat", sum := "f845932c7261271040b7ee9570c1857184c4228a5a8ffea0abce573648ebfe2e", func := "petersham/petershamlaw10.ClockTruths", spec := "clockTruths", unfollowed := true, recurses := true, plainKeys := false, apart := false, narrowed := true }
def ClockTruthsUptoSaid : Prop := clockTruthsUptoRow.holds Tryz.pinned (OpenSpec.upto clockTruthsSpec)

/-- 'petershamlaw10.ClockTold', WHERE WHAT IT READS IS OF BULK AT MOST 1048576: true; the input reads as it did. -/
def clockToldUptoRow : OpenClaim := { program := "ytagnijhgpogfhaagreat", sum := "f845932c7261271040b7ee9570c1857184c4228a5a8ffea0abce573648ebfe2e", func := "petersham/petershamlaw10.ClockTold", spec := "clockTold", unfollowed := true, recurses := true, plainKeys := false, apart := false, narrowed := true }
def ClockToldUptoSaid : Prop := clockToldUptoRow.holds Tryz.pinned (OpenSpec.upto clockToldSpec)

/-- 'petershamlaw10.ClockAttics', WHERE WHAT IT READS IS OF BULK AT MOST 1048576: true; the input reads as it did. -/
def clockAtticsUptoRow : OpenClaim := { program := "ytagnijhgpogfhaagreat", sum := "f845932c7261271040b7ee9570c1857184c4228a5a8ffea0abce573648ebfe2e", func := "petersham/petershamlaw10.ClockAttics", spec := "clockAttics", unfollowed := true, recurses := true, plainKeys := false, apart := false, narrowed := true }
def ClockAtticsUptoSaid : Prop := clockAtticsUptoRow.holds Tryz.pinned (OpenSpec.upto clockAtticsSpec)

/-- 'petershamlaw10.ClockClashed', WHERE WHAT IT READS IS OF BULK AT MOST 1048576: true; the input reads as it did. -/
def clockClashedUptoRow : OpenClaim := { program := "ytagnijhgpogfhaagreat", sum := "f845932c7261271040b7ee9570c1857184c4228a5a8ffea0abce573648ebfe2e", func := "petersham/petershamlaw10.ClockClashed", spec := "clockClashed", unfollowed := true, recurses := true, plainKeys := false, apart := false, narrowed := true }
def ClockClashedUptoSaid : Prop := clockClashedUptoRow.holds Tryz.pinned (OpenSpec.upto clockClashedSpec)

/-- 'petershamlaw10.ClockMore', WHERE WHAT IT READS IS OF BULK AT MOST 1048576: true; the input reads as it did. -/
def clockMoreUptoRow : OpenClaim := { program := "ytagnijhgpogfhaagreat", sum := "f845932c7261271040b7ee9570c1857184c4228a5a8ffea0abce573648ebfe2e", func := "petersham/petershamlaw10.ClockMore", spec := "clockMore", unfollowed := true, recurses := true, plainKeys := false, apart := false, narrowed := true }
def ClockMoreUptoSaid : Prop := clockMoreUptoRow.holds Tryz.pinned (OpenSpec.upto clockMoreSpec)

/-- 'petershamlaw10.ClockSettled', WHERE WHAT IT READS IS OF BULK AT MOST 1048576: true; the input reads as it did. -/
def clockSettledUptoRow : OpenClaim := { program := "ytagnijhgpogfhaagreat", sum := "f845932c7261271040b7ee9570c1857184c4228a5a8ffea0abce573648ebfe2e", func := "petersham/petershamlaw10.ClockSettled", spec := "clockSettled", unfollowed := true, recurses := true, plainKeys := false, apart := false, narrowed := true }
def ClockSettledUptoSaid : Prop := clockSettledUptoRow.holds Tryz.pinned (OpenSpec.upto clockSettledSpec)

/-- 'petershamlaw10.ClockSmall', WHERE WHAT IT READS IS OF BULK AT MOST 1048576: true; the input reads as it did. -/
def clockSmallUptoRow : OpenClaim := { program := "ytagnijhgpogfhaagreat", sum := "f845932c7261271040b7ee9570c1857184c4228a5a8ffea0abce573648ebfe2e", func := "petersham/petershamlaw10.ClockSmall", spec := "clockSmall", unfollowed := true, recurses := true, plainKeys := false, apart := false, narrowed := true }
def ClockSmallUptoSaid : Prop := clockSmallUptoRow.holds Tryz.pinned (OpenSpec.upto clockSmallSpec)

end Rows
end Go.Proofs.YtagnijhgpogfhaaGreat
