/-
  No cell of these rows narrows 'for every input' (looked for: loops, veiled, ifaces, maps, wideKeys, modest, calm, conditions, laid).
  DERIVED. THE GIVEN ROWS OF THIS SEAT. 4 by the template 'for every input the law returns true; each argument reads behind the call as it read before'; 0 by the template 'total and deterministic' (their statements: YtagnijhgpogfhaaTotals.lean).
  GIVEN WITH THE SEED: the statements are not yours to turn. If you find one false, say at which input.
  Laid BY PROGRAM, IN A SANDBOX (cutbox-rows.mjs): the forced cells as the released guide's own fill.sh prints them over the translation d7ff7031251c5f95… (all of the seat's roots in one cut). By AI agents, Wed Nov 11 2026. No macro, syntax, notation, axiom, sorry.
-/
import Derived.Test.YtagnijhgpogfhaaChecked
import GoSem.Claim
import GoSem.ClaimJoined
import GoSem.ClaimMapViews
import Derived.JoinedTies
import Derived.KernelRfl
namespace Go.Proofs.Ytagnijhgpogfhaa
/- THE CELL 'sum', in the pinned program and in every row, IS THE sha256 OF THE DUMP (.gsa) THAT YtagnijhgpogfhaaProg.lean LOADS. Nothing in Lean hashes anything: it is a label: what it is worth is what the hold of that sum in a sandbox is worth. -/
noncomputable def Try.pinned : Pinned := { name := "ytagnijhgpogfhaa", sum := "d7ff7031251c5f95878e365b0cf719801d0ca07b1ca9c734918ade444909bf0d", checked := Try.checked }
namespace Rows
def none {H : Type} : Left H := { results := [], args := [] }

/-- 'petershamlaw10.ClockShown': WHATEVER THE INPUT: true; the input reads as it did. -/
def clockShownSpec : ChangeSpec := { name := "clockShown", fn := fun _ => fun
  | [d1, d2, d3, d4] => { results := [.lit (.bool true)], args := [d1, d2, d3, d4] }
  | _ => none }
def clockShownRow : OpenClaim := { program := "ytagnijhgpogfhaa", sum := "d7ff7031251c5f95878e365b0cf719801d0ca07b1ca9c734918ade444909bf0d", func := "petersham/petershamlaw10.ClockShown", spec := "clockShown", unfollowed := true, recurses := true, plainKeys := false, apart := false }
def ClockShownSaid : Prop := clockShownRow.holds Try.pinned (OpenSpec.ofChange clockShownSpec)

/-- ITS FALSE NEIGHBOUR: 'it returns false'. Refute it at one input. -/
def clockShownWrong : ChangeSpec := { name := "clockShown", fn := fun _ => fun
  | [d1, d2, d3, d4] => { results := [.lit (.bool false)], args := [d1, d2, d3, d4] }
  | _ => none }
def ClockShownWrongFalsely : Prop := clockShownRow.holds Try.pinned (OpenSpec.ofChange clockShownWrong)

/-- 'petershamlaw10.ClockPaid': WHATEVER THE INPUT: true; the input reads as it did. -/
def clockPaidSpec : ChangeSpec := { name := "clockPaid", fn := fun _ => fun
  | [d1, d2, d3, d4] => { results := [.lit (.bool true)], args := [d1, d2, d3, d4] }
  | _ => none }
def clockPaidRow : OpenClaim := { program := "ytagnijhgpogfhaa", sum := "d7ff7031251c5f95878e365b0cf719801d0ca07b1ca9c734918ade444909bf0d", func := "petersham/petershamlaw10.ClockPaid", spec := "clockPaid", unfollowed := true, recurses := true, plainKeys := false, apart := false }
def ClockPaidSaid : Prop := clockPaidRow.holds Try.pinned (OpenSpec.ofChange clockPaidSpec)

/-- ITS FALSE NEIGHBOUR: 'it returns false'. Refute it at one input. -/
def clockPaidWrong : ChangeSpec := { name := "clockPaid", fn := fun _ => fun
  | [d1, d2, d3, d4] => { results := [.lit (.bool false)], args := [d1, d2, d3, d4] }
  | _ => none }
def ClockPaidWrongFalsely : Prop := clockPaidRow.holds Try.pinned (OpenSpec.ofChange clockPaidWrong)

/-- 'petershamlaw10.ClockEven': WHATEVER THE INPUT: true; the input reads as it did. -/
def clockEvenSpec : ChangeSpec := { name := "clockEven", fn := fun _ => fun
  | [d1, d2, d3] => { results := [.lit (.bool true)], args := [d1, d2, d3] }
  | _ => none }
def clockEvenRow : OpenClaim := { program := "ytagnijhgpogfhaa", sum := "d7ff7031251c5f95878e365b0cf719801d0ca07b1ca9c734918ade444909bf0d", func := "petersham/petershamlaw10.ClockEven", spec := "clockEven", unfollowed := true, recurses := true, plainKeys := false, apart := false }
def ClockEvenSaid : Prop := clockEvenRow.holds Try.pinned (OpenSpec.ofChange clockEvenSpec)

/-- ITS FALSE NEIGHBOUR: 'it returns false'. Refute it at one input. -/
def clockEvenWrong : ChangeSpec := { name := "clockEven", fn := fun _ => fun
  | [d1, d2, d3] => { results := [.lit (.bool false)], args := [d1, d2, d3] }
  | _ => none }
def ClockEvenWrongFalsely : Prop := clockEvenRow.holds Try.pinned (OpenSpec.ofChange clockEvenWrong)

/-- 'petershamlaw10.ClockBefore': WHATEVER THE INPUT: true; the input reads as it did. -/
def clockBeforeSpec : ChangeSpec := { name := "clockBefore", fn := fun _ => fun
  | [d] => { results := [.lit (.bool true)], args := [d] }
  | _ => none }
def clockBeforeRow : OpenClaim := { program := "ytagnijhgpogfhaa", sum := "d7ff7031251c5f95878e365b0cf719801d0ca07b1ca9c734918ade444909bf0d", func := "petersham/petershamlaw10.ClockBefore", spec := "clockBefore", unfollowed := true, recurses := true, plainKeys := false, apart := false }
def ClockBeforeSaid : Prop := clockBeforeRow.holds Try.pinned (OpenSpec.ofChange clockBeforeSpec)

/-- ITS FALSE NEIGHBOUR: 'it returns false'. Refute it at one input. -/
def clockBeforeWrong : ChangeSpec := { name := "clockBefore", fn := fun _ => fun
  | [d] => { results := [.lit (.bool false)], args := [d] }
  | _ => none }
def ClockBeforeWrongFalsely : Prop := clockBeforeRow.holds Try.pinned (OpenSpec.ofChange clockBeforeWrong)

/- THE SECOND FORM. 'bulk': how many values and letters a reading holds, each counted each time it is reached (what is shared counts as often as it is met; a slice's spare places count too). A statement '..UptoSaid' is the law's where the arguments, and the package variables that the reading takes, are together of bulk at most 1048576: NARROWER than '..Said'. Prove '..Said' where nothing that the law and all that it calls make is longer than what came in: it says more and counts as full. Else prove '..UptoSaid'. A law counts once. -/
mutual
def uptoBulk {H : Type} : DataW H → Nat
  | .lit (.string bytes) => bytes.length + 1
  | .lit _ => 1
  | .nil => 1
  | .ptr d => uptoBulk d + 1
  | .slice elems spare => uptoBulkAll elems + uptoBulkAll spare + 1
  | .agg parts => uptoBulkAll parts + 1
  | .iface _ d => uptoBulk d + 1
  | .map entries => uptoBulkEntries entries + 1
  | .held _ => 1
def uptoBulkAll {H : Type} : List (DataW H) → Nat
  | [] => 0
  | d :: r => uptoBulk d + uptoBulkAll r
def uptoBulkEntries {H : Type} : List (Lit × DataW H) → Nat
  | [] => 0
  | x :: r => uptoBulkEntry x + uptoBulkEntries r
def uptoBulkEntry {H : Type} : Lit × DataW H → Nat
  | (.string bytes, d) => bytes.length + uptoBulk d + 1
  | (_, d) => uptoBulk d + 1
 end
def uptoSmall : (H : Type) → List (DataW H) → Bool := fun _ ds => decide (uptoBulkAll ds ≤ 1048576)
def OpenSpec.upto (s : _root_.Go.ChangeSpec) : _root_.Go.OpenSpec := { _root_.Go.OpenSpec.ofChange s with cond := some uptoSmall }

/-- 'petershamlaw10.ClockShown', WHERE WHAT IT READS IS OF BULK AT MOST 1048576: true; the input reads as it did. -/
def clockShownUptoRow : OpenClaim := { program := "ytagnijhgpogfhaa", sum := "d7ff7031251c5f95878e365b0cf719801d0ca07b1ca9c734918ade444909bf0d", func := "petersham/petershamlaw10.ClockShown", spec := "clockShown", unfollowed := true, recurses := true, plainKeys := false, apart := false, narrowed := true }
def ClockShownUptoSaid : Prop := clockShownUptoRow.holds Try.pinned (OpenSpec.upto clockShownSpec)

/-- 'petershamlaw10.ClockPaid', WHERE WHAT IT READS IS OF BULK AT MOST 1048576: true; the input reads as it did. -/
def clockPaidUptoRow : OpenClaim := { program := "ytagnijhgpogfhaa", sum := "d7ff7031251c5f95878e365b0cf719801d0ca07b1ca9c734918ade444909bf0d", func := "petersham/petershamlaw10.ClockPaid", spec := "clockPaid", unfollowed := true, recurses := true, plainKeys := false, apart := false, narrowed := true }
def ClockPaidUptoSaid : Prop := clockPaidUptoRow.holds Try.pinned (OpenSpec.upto clockPaidSpec)

/-- 'petershamlaw10.ClockEven', WHERE WHAT IT READS IS OF BULK AT MOST 1048576: true; the input reads as it did. -/
def clockEvenUptoRow : OpenClaim := { program := "ytagnijhgpogfhaa", sum := "d7ff7031251c5f95878e365b0cf719801d0ca07b1ca9c734918ade444909bf0d", func := "petersham/petershamlaw10.ClockEven", spec := "clockEven", unfollowed := true, recurses := true, plainKeys := false, apart := false, narrowed := true }
def ClockEvenUptoSaid : Prop := clockEvenUptoRow.holds Try.pinned (OpenSpec.upto clockEvenSpec)

/-- 'petershamlaw10.ClockBefore', WHERE WHAT IT READS IS OF BULK AT MOST 1048576: true; the input reads as it did. -/
def clockBeforeUptoRow : OpenClaim := { program := "ytagnijhgpogfhaa", sum := "d7ff7031251c5f95878e365b0cf719801d0ca07b1ca9c734918ade444909bf0d", func := "petersham/petershamlaw10.ClockBefore", spec := "clockBefore", unfollowed := true, recurses := true, plainKeys := false, apart := false, narrowed := true }
def ClockBeforeUptoSaid : Prop := clockBeforeUptoRow.holds Try.pinned (OpenSpec.upto clockBeforeSpec)

end Rows
end Go.Proofs.Ytagnijhgpogfhaa
