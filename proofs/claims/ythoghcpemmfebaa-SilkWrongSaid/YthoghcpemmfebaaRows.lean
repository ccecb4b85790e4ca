/-
  No cell of these rows narrows 'for every input' (looked for: loops, veiled, ifaces, maps, wideKeys, modest, calm, conditions, laid).
  DERIVED. THE GIVEN ROWS OF THIS SEAT. 13 by the template 'for every input the law returns true; each argument reads behind the call as it read before'; 0 by the template 'total and deterministic' (their statements: YthoghcpemmfebaaTotals.lean).
  GIVEN WITH THE SEED: the statements are not yours to turn. If you find one false, say at which input.
  Laid BY PROGRAM, IN A SANDBOX (cutbox-rows.mjs): the forced cells as the released guide's own fill.sh prints them over the translation 81b04515732022f2… (all of the seat's roots in one cut). By AI agents, Wed Nov 11 2026. No macro, syntax, notation, axiom, sorry.
-/
import Derived.Test.YthoghcpemmfebaaChecked
import GoSem.Claim
import GoSem.ClaimJoined
import GoSem.ClaimMapViews
import Derived.JoinedTies
import Derived.KernelRfl
namespace Go.Proofs.Ythoghcpemmfebaa
/- THE CELL 'sum', in the pinned program and in every row, IS THE sha256 OF THE DUMP (.gsa) THAT YthoghcpemmfebaaProg.lean LOADS. Nothing in Lean hashes anything: it is a label: what it is worth is what the hold of that sum in a sandbox is worth. -/
noncomputable def Try.pinned : Pinned := { name := "ythoghcpemmfebaa", sum := "81b04515732022f20e2f8774a7ecc1f0330e4f8b4667724b4fb8361b4072e5ef", checked := Try.checked }
namespace Rows
def none {H : Type} : Left H := { results := [], args := [] }

/-- 'petershamlaw01.SilkWhere': WHATEVER THE INPUT: true; the input reads as it did. -/
def silkWhereSpec : ChangeSpec := { name := "silkWhere", fn := fun _ => fun
  | [d1, d2] => { results := [.lit (.bool true)], args := [d1, d2] }
  | _ => none }
def silkWhereRow : OpenClaim := { program := "ythoghcpemmfebaa", sum := "81b04515732022f20e2f8774a7ecc1f0330e4f8b4667724b4fb8361b4072e5ef", func := "petersham/petershamlaw01.SilkWhere", spec := "silkWhere", unfollowed := true, recurses := true, apart := false }
def SilkWhereSaid : Prop := silkWhereRow.holds Try.pinned (OpenSpec.ofChange silkWhereSpec)

/-- ITS FALSE NEIGHBOUR: 'it returns false'. Refute it at one input. -/
def silkWhereWrong : ChangeSpec := { name := "silkWhere", fn := fun _ => fun
  | [d1, d2] => { results := [.lit (.bool false)], args := [d1, d2] }
  | _ => none }
def SilkWhereWrongFalsely : Prop := silkWhereRow.holds Try.pinned (OpenSpec.ofChange silkWhereWrong)

/-- 'petershamlaw01.SilkProofs': WHATEVER THE INPUT: true; the input reads as it did. -/
def silkProofsSpec : ChangeSpec := { name := "silkProofs", fn := fun _ => fun
  | [d1, d2] => { results := [.lit (.bool true)], args := [d1, d2] }
  | _ => none }
def silkProofsRow : OpenClaim := { program := "ythoghcpemmfebaa", sum := "81b04515732022f20e2f8774a7ecc1f0330e4f8b4667724b4fb8361b4072e5ef", func := "petersham/petershamlaw01.SilkProofs", spec := "silkProofs", unfollowed := true, recurses := true, apart := false }
def SilkProofsSaid : Prop := silkProofsRow.holds Try.pinned (OpenSpec.ofChange silkProofsSpec)

/-- ITS FALSE NEIGHBOUR: 'it returns false'. Refute it at one input. -/
def silkProofsWrong : ChangeSpec := { name := "silkProofs", fn := fun _ => fun
  | [d1, d2] => { results := [.lit (.bool false)], args := [d1, d2] }
  | _ => none }
def SilkProofsWrongFalsely : Prop := silkProofsRow.holds Try.pinned (OpenSpec.ofChange silkProofsWrong)

/-- 'petershamlaw01.SilkNamed': WHATEVER THE INPUT: true; the input reads as it did. -/
def silkNamedSpec : ChangeSpec := { name := "silkNamed", fn := fun _ => fun
  | [d1, d2] => { results := [.lit (.bool true)], args := [d1, d2] }
  | _ => none }
def silkNamedRow : OpenClaim := { program := "ythoghcpemmfebaa", sum := "81b04515732022f20e2f8774a7ecc1f0330e4f8b4667724b4fb8361b4072e5ef", func := "petersham/petershamlaw01.SilkNamed", spec := "silkNamed", unfollowed := true, recurses := true, apart := false }
def SilkNamedSaid : Prop := silkNamedRow.holds Try.pinned (OpenSpec.ofChange silkNamedSpec)

/-- ITS FALSE NEIGHBOUR: 'it returns false'. Refute it at one input. -/
def silkNamedWrong : ChangeSpec := { name := "silkNamed", fn := fun _ => fun
  | [d1, d2] => { results := [.lit (.bool false)], args := [d1, d2] }
  | _ => none }
def SilkNamedWrongFalsely : Prop := silkNamedRow.holds Try.pinned (OpenSpec.ofChange silkNamedWrong)

/-- 'petershamlaw01.SilkParted': WHATEVER THE INPUT: true; the input reads as it did. -/
def silkPartedSpec : ChangeSpec := { name := "silkParted", fn := fun _ => fun
  | [d] => { results := [.lit (.bool true)], args := [d] }
  | _ => none }
def silkPartedRow : OpenClaim := { program := "ythoghcpemmfebaa", sum := "81b04515732022f20e2f8774a7ecc1f0330e4f8b4667724b4fb8361b4072e5ef", func := "petersham/petershamlaw01.SilkParted", spec := "silkParted", unfollowed := true, recurses := true, apart := false }
def SilkPartedSaid : Prop := silkPartedRow.holds Try.pinned (OpenSpec.ofChange silkPartedSpec)

/-- ITS FALSE NEIGHBOUR: 'it returns false'. Refute it at one input. -/
def silkPartedWrong : ChangeSpec := { name := "silkParted", fn := fun _ => fun
  | [d] => { results := [.lit (.bool false)], args := [d] }
  | _ => none }
def SilkPartedWrongFalsely : Prop := silkPartedRow.holds Try.pinned (OpenSpec.ofChange silkPartedWrong)

/-- 'petershamlaw01.SilkDamp': WHATEVER THE INPUT: true; the input reads as it did. -/
def silkDampSpec : ChangeSpec := { name := "silkDamp", fn := fun _ => fun
  | [d1, d2, d3, d4, d5, d6] => { results := [.lit (.bool true)], args := [d1, d2, d3, d4, d5, d6] }
  | _ => none }
def silkDampRow : OpenClaim := { program := "ythoghcpemmfebaa", sum := "81b04515732022f20e2f8774a7ecc1f0330e4f8b4667724b4fb8361b4072e5ef", func := "petersham/petershamlaw01.SilkDamp", spec := "silkDamp", unfollowed := true, recurses := true, apart := false }
def SilkDampSaid : Prop := silkDampRow.holds Try.pinned (OpenSpec.ofChange silkDampSpec)

/-- ITS FALSE NEIGHBOUR: 'it returns false'. Refute it at one input. -/
def silkDampWrong : ChangeSpec := { name := "silkDamp", fn := fun _ => fun
  | [d1, d2, d3, d4, d5, d6] => { results := [.lit (.bool false)], args := [d1, d2, d3, d4, d5, d6] }
  | _ => none }
def SilkDampWrongFalsely : Prop := silkDampRow.holds Try.pinned (OpenSpec.ofChange silkDampWrong)

/-- 'petershamlaw01.SilkClashes': WHATEVER THE INPUT: true; the input reads as it did. -/
def silkClashesSpec : ChangeSpec := { name := "silkClashes", fn := fun _ => fun
  | [d1, d2] => { results := [.lit (.bool true)], args := [d1, d2] }
  | _ => none }
def silkClashesRow : OpenClaim := { program := "ythoghcpemmfebaa", sum := "81b04515732022f20e2f8774a7ecc1f0330e4f8b4667724b4fb8361b4072e5ef", func := "petersham/petershamlaw01.SilkClashes", spec := "silkClashes", unfollowed := true, recurses := true, apart := false }
def SilkClashesSaid : Prop := silkClashesRow.holds Try.pinned (OpenSpec.ofChange silkClashesSpec)

/-- ITS FALSE NEIGHBOUR: 'it returns false'. Refute it at one input. -/
def silkClashesWrong : ChangeSpec := { name := "silkClashes", fn := fun _ => fun
  | [d1, d2] => { results := [.lit (.bool false)], args := [d1, d2] }
  | _ => none }
def SilkClashesWrongFalsely : Prop := silkClashesRow.holds Try.pinned (OpenSpec.ofChange silkClashesWrong)

/-- 'petershamlaw01.SilkMore': WHATEVER THE INPUT: true; the input reads as it did. -/
def silkMoreSpec : ChangeSpec := { name := "silkMore", fn := fun _ => fun
  | [d1, d2] => { results := [.lit (.bool true)], args := [d1, d2] }
  | _ => none }
def silkMoreRow : OpenClaim := { program := "ythoghcpemmfebaa", sum := "81b04515732022f20e2f8774a7ecc1f0330e4f8b4667724b4fb8361b4072e5ef", func := "petersham/petershamlaw01.SilkMore", spec := "silkMore", unfollowed := true, recurses := true, apart := false }
def SilkMoreSaid : Prop := silkMoreRow.holds Try.pinned (OpenSpec.ofChange silkMoreSpec)

/-- ITS FALSE NEIGHBOUR: 'it returns false'. Refute it at one input. -/
def silkMoreWrong : ChangeSpec := { name := "silkMore", fn := fun _ => fun
  | [d1, d2] => { results := [.lit (.bool false)], args := [d1, d2] }
  | _ => none }
def SilkMoreWrongFalsely : Prop := silkMoreRow.holds Try.pinned (OpenSpec.ofChange silkMoreWrong)

/-- 'petershamlaw01.SilkSplit': WHATEVER THE INPUT: true; the input reads as it did. -/
def silkSplitSpec : ChangeSpec := { name := "silkSplit", fn := fun _ => fun
  | [d1, d2, d3] => { results := [.lit (.bool true)], args := [d1, d2, d3] }
  | _ => none }
def silkSplitRow : OpenClaim := { program := "ythoghcpemmfebaa", sum := "81b04515732022f20e2f8774a7ecc1f0330e4f8b4667724b4fb8361b4072e5ef", func := "petersham/petershamlaw01.SilkSplit", spec := "silkSplit", unfollowed := true, recurses := true, apart := false }
def SilkSplitSaid : Prop := silkSplitRow.holds Try.pinned (OpenSpec.ofChange silkSplitSpec)

/-- ITS FALSE NEIGHBOUR: 'it returns false'. Refute it at one input. -/
def silkSplitWrong : ChangeSpec := { name := "silkSplit", fn := fun _ => fun
  | [d1, d2, d3] => { results := [.lit (.bool false)], args := [d1, d2, d3] }
  | _ => none }
def SilkSplitWrongFalsely : Prop := silkSplitRow.holds Try.pinned (OpenSpec.ofChange silkSplitWrong)

/-- 'petershamlaw01.SilkChecks': WHATEVER THE INPUT: true; the input reads as it did. -/
def silkChecksSpec : ChangeSpec := { name := "silkChecks", fn := fun _ => fun
  | [d1, d2, d3] => { results := [.lit (.bool true)], args := [d1, d2, d3] }
  | _ => none }
def silkChecksRow : OpenClaim := { program := "ythoghcpemmfebaa", sum := "81b04515732022f20e2f8774a7ecc1f0330e4f8b4667724b4fb8361b4072e5ef", func := "petersham/petershamlaw01.SilkChecks", spec := "silkChecks", unfollowed := true, recurses := true, apart := false }
def SilkChecksSaid : Prop := silkChecksRow.holds Try.pinned (OpenSpec.ofChange silkChecksSpec)

/-- ITS FALSE NEIGHBOUR: 'it returns false'. Refute it at one input. -/
def silkChecksWrong : ChangeSpec := { name := "silkChecks", fn := fun _ => fun
  | [d1, d2, d3] => { results := [.lit (.bool false)], args := [d1, d2, d3] }
  | _ => none }
def SilkChecksWrongFalsely : Prop := silkChecksRow.holds Try.pinned (OpenSpec.ofChange silkChecksWrong)

/-- 'petershamlaw01.SilkWrong': WHATEVER THE INPUT: true; the input reads as it did. -/
def silkWrongSpec : ChangeSpec := { name := "silkWrong", fn := fun _ => fun
  | [d1, d2] => { results := [.lit (.bool true)], args := [d1, d2] }
  | _ => none }
def silkWrongRow : OpenClaim := { program := "ythoghcpemmfebaa", sum := "81b04515732022f20e2f8774a7ecc1f0330e4f8b4667724b4fb8361b4072e5ef", func := "petersham/petershamlaw01.SilkWrong", spec := "silkWrong", unfollowed := true, recurses := true, apart := false }
def SilkWrongSaid : Prop := silkWrongRow.holds Try.pinned (OpenSpec.ofChange silkWrongSpec)

/-- ITS FALSE NEIGHBOUR: 'it returns false'. Refute it at one input. -/
def silkWrongWrong : ChangeSpec := { name := "silkWrong", fn := fun _ => fun
  | [d1, d2] => { results := [.lit (.bool false)], args := [d1, d2] }
  | _ => none }
def SilkWrongWrongFalsely : Prop := silkWrongRow.holds Try.pinned (OpenSpec.ofChange silkWrongWrong)

/-- 'petershamlaw01.SilkGrows': WHATEVER THE INPUT: true; the input reads as it did. -/
def silkGrowsSpec : ChangeSpec := { name := "silkGrows", fn := fun _ => fun
  | [d1, d2, d3, d4] => { results := [.lit (.bool true)], args := [d1, d2, d3, d4] }
  | _ => none }
def silkGrowsRow : OpenClaim := { program := "ythoghcpemmfebaa", sum := "81b04515732022f20e2f8774a7ecc1f0330e4f8b4667724b4fb8361b4072e5ef", func := "petersham/petershamlaw01.SilkGrows", spec := "silkGrows", unfollowed := true, recurses := true, apart := false }
def SilkGrowsSaid : Prop := silkGrowsRow.holds Try.pinned (OpenSpec.ofChange silkGrowsSpec)

/-- ITS FALSE NEIGHBOUR: 'it returns false'. Refute it at one input. -/
def silkGrowsWrong : ChangeSpec := { name := "silkGrows", fn := fun _ => fun
  | [d1, d2, d3, d4] => { results := [.lit (.bool false)], args := [d1, d2, d3, d4] }
  | _ => none }
def SilkGrowsWrongFalsely : Prop := silkGrowsRow.holds Try.pinned (OpenSpec.ofChange silkGrowsWrong)

/-- 'petershamlaw01.SilkTold': WHATEVER THE INPUT: true; the input reads as it did. -/
def silkToldSpec : ChangeSpec := { name := "silkTold", fn := fun _ => fun
  | [d1, d2] => { results := [.lit (.bool true)], args := [d1, d2] }
  | _ => none }
def silkToldRow : OpenClaim := { program := "ythoghcpemmfebaa", sum := "81b04515732022f20e2f8774a7ecc1f0330e4f8b4667724b4fb8361b4072e5ef", func := "petersham/petershamlaw01.SilkTold", spec := "silkTold", unfollowed := true, recurses := true, apart := false }
def SilkToldSaid : Prop := silkToldRow.holds Try.pinned (OpenSpec.ofChange silkToldSpec)

/-- ITS FALSE NEIGHBOUR: 'it returns false'. Refute it at one input. -/
def silkToldWrong : ChangeSpec := { name := "silkTold", fn := fun _ => fun
  | [d1, d2] => { results := [.lit (.bool false)], args := [d1, d2] }
  | _ => none }
def SilkToldWrongFalsely : Prop := silkToldRow.holds Try.pinned (OpenSpec.ofChange silkToldWrong)

/-- 'petershamlaw01.SilkBounds': WHATEVER THE INPUT: true; the input reads as it did. -/
def silkBoundsSpec : ChangeSpec := { name := "silkBounds", fn := fun _ => fun
  | [d1, d2, d3, d4] => { results := [.lit (.bool true)], args := [d1, d2, d3, d4] }
  | _ => none }
def silkBoundsRow : OpenClaim := { program := "ythoghcpemmfebaa", sum := "81b04515732022f20e2f8774a7ecc1f0330e4f8b4667724b4fb8361b4072e5ef", func := "petersham/petershamlaw01.SilkBounds", spec := "silkBounds", unfollowed := true, recurses := true, apart := false }
def SilkBoundsSaid : Prop := silkBoundsRow.holds Try.pinned (OpenSpec.ofChange silkBoundsSpec)

/-- ITS FALSE NEIGHBOUR: 'it returns false'. Refute it at one input. -/
def silkBoundsWrong : ChangeSpec := { name := "silkBounds", fn := fun _ => fun
  | [d1, d2, d3, d4] => { results := [.lit (.bool false)], args := [d1, d2, d3, d4] }
  | _ => none }
def SilkBoundsWrongFalsely : Prop := silkBoundsRow.holds Try.pinned (OpenSpec.ofChange silkBoundsWrong)

/- THE SECOND FORM. 'bulk': how many values and letters a reading holds, each counted each time it is reached (what is shared counts as often as it is met; a slice's spare places count too). A statement '..UptoSaid' is the law's where the arguments, and the package variables that the reading takes, are together of bulk at most 1048576: NARROWER than '..Said'. Prove '..Said' where nothing that the law and all that it calls make is longer than what came in: it says more and counts as full. Else prove '..UptoSaid'. A law counts once. -/
mutual
def uptoBulk {H : Type} : DataW H → Nat
  | .lit (.string bytes) => bytes.length + 1
  | .lit _ => 1
  | .nil => 1
  | .ptr d => uptoBulk d + 1
  | .slice elems spare => uptoBulkAll elems + uptoBulkAll spare + 1
  | .agg parts => uptoBulkAll parts + 1
  | .iface _ d => uptoBulk d + 1
  | .map entries => uptoBulkEntries entries + 1
  | .held _ => 1
def uptoBulkAll {H : Type} : List (DataW H) → Nat
  | [] => 0
  | d :: r => uptoBulk d + uptoBulkAll r
def uptoBulkEntries {H : Type} : List (Lit × DataW H) → Nat
  | [] => 0
  | x :: r => uptoBulkEntry x + uptoBulkEntries r
def uptoBulkEntry {H : Type} : Lit × DataW H → Nat
  | (.string bytes, d) => bytes.length + uptoBulk d + 1
  | (_, d) => uptoBulk d + 1
 end
def uptoSmall : (H : Type) → List (DataW H) → Bool := fun _ ds => decide (uptoBulkAll ds ≤ 1048576)
def OpenSpec.upto (s : _root_.Go.ChangeSpec) : _root_.Go.OpenSpec := { _root_.Go.OpenSpec.ofChange s with cond := some uptoSmall }

/-- 'petershamlaw01.SilkWhere', WHERE WHAT IT READS IS OF BULK AT MOST 1048576: true; the input reads as it did. -/
def silkWhereUptoRow : OpenClaim := { program := "ythoghcpemmfebaa", sum := "81b04515732022f20e2f8774a7ecc1f0330e4f8b4667724b4fb8361b4072e5ef", func := "petersham/petershamlaw01.SilkWhere", spec := "silkWhere", unfollowed := true, recurses := true, apart := false, narrowed := true }
def SilkWhereUptoSaid : Prop := silkWhereUptoRow.holds Try.pinned (OpenSpec.upto silkWhereSpec)

/-- 'petershamlaw01.SilkProofs', WHERE WHAT IT READS IS OF BULK AT MOST 1048576: true; the input reads as it did. -/
def silkProofsUptoRow : OpenClaim := { program := "ythoghcpemmfebaa", sum := "81b04515732022f20e2f8774a7ecc1f0330e4f8b4667724b4fb8361b4072e5ef", func := "petersham/petershamlaw01.SilkProofs", spec := "silkProofs", unfollowed := true, recurses := true, apart := false, narrowed := true }
def SilkProofsUptoSaid : Prop := silkProofsUptoRow.holds Try.pinned (OpenSpec.upto silkProofsSpec)

/-- 'petershamlaw01.SilkNamed', WHERE WHAT IT READS IS OF BULK AT MOST 1048576: true; the input reads as it did. -/
def silkNamedUptoRow : OpenClaim := { program := "ythoghcpemmfebaa", sum := "81b04515732022f20e2f8774a7ecc1f0330e4f8b4667724b4fb8361b4072e5ef", func := "petersham/petershamlaw01.SilkNamed", spec := "silkNamed", unfollowed := true, recurses := true, apart := false, narrowed := true }
def SilkNamedUptoSaid : Prop := silkNamedUptoRow.holds Try.pinned (OpenSpec.upto silkNamedSpec)

/-- 'petershamlaw01.SilkParted', WHERE WHAT IT READS IS OF BULK AT MOST 1048576: true; the input reads as it did. -/
def silkPartedUptoRow : OpenClaim := { program := "ythoghcpemmfebaa", sum := "81b04515732022f20e2f8774a7ecc1f0330e4f8b4667724b4fb8361b4072e5ef", func := "petersham/petershamlaw01.SilkParted", spec := "silkParted", unfollowed := true, recurses := true, apart := false, narrowed := true }
def SilkPartedUptoSaid : Prop := silkPartedUptoRow.holds Try.pinned (OpenSpec.upto silkPartedSpec)

/-- 'petershamlaw01.SilkDamp', WHERE WHAT IT READS IS OF BULK AT MOST 1048576: true; the input reads as it did. -/
def silkDampUptoRow : OpenClaim := { program := "ythoghcpemmfebaa", sum := "81b04515732022f20e2f8774a7ecc1f0330e4f8b4667724b4fb8361b4072e5ef", func := "petersham/petershamlaw01.SilkDamp", spec := "silkDamp", unfollowed := true, recurses := true, apart := false, narrowed := true }
def SilkDampUptoSaid : Prop := silkDampUptoRow.holds Try.pinned (OpenSpec.upto silkDampSpec)

/-- 'petershamlaw01.SilkClashes', WHERE WHAT IT READS IS OF BULK AT MOST 1048576: true; the input reads as it did. -/
def silkClashesUptoRow : OpenClaim := { program := "ythoghcpemmfebaa", sum := "81b04515732022f20e2f8774a7ecc1f0330e4f8b4667724b4fb8361b4072e5ef", func := "petersham/petershamlaw01.SilkClashes", spec := "silkClashes", unfollowed := true, recurses := true, apart := false, narrowed := true }
def SilkClashesUptoSaid : Prop := silkClashesUptoRow.holds Try.pinned (OpenSpec.upto silkClashesSpec)

/-- 'petershamlaw01.SilkMore', WHERE WHAT IT READS IS OF BULK AT MOST 1048576: true; the input reads as it did. -/
def silkMoreUptoRow : OpenClaim := { program := "ythoghcpemmfebaa", sum := "81b04515732022f20e2f8774a7ecc1f0330e4f8b4667724b4fb8361b4072e5ef", func := "petersham/petershamlaw01.SilkMore", spec := "silkMore", unfollowed := true, recurses := true, apart := false, narrowed := true }
def SilkMoreUptoSaid : Prop := silkMoreUptoRow.holds Try.pinned (OpenSpec.upto silkMoreSpec)

/-- 'petershamlaw01.SilkSplit', WHERE WHAT IT READS IS OF BULK AT MOST 1048576: true; the input reads as it did. -/
def silkSplitUptoRow : OpenClaim := { program := "ythoghcpemmfebaa", sum := "81b04515732022f20e2f8774a7ecc1f0330e4f8b4667724b4fb8361b4072e5ef", func := "petersham/petershamlaw01.SilkSplit", spec := "silkSplit", unfollowed := true, recurses := true, apart := false, narrowed := true }
def SilkSplitUptoSaid : Prop := silkSplitUptoRow.holds Try.pinned (OpenSpec.upto silkSplitSpec)

/-- 'petershamlaw01.SilkChecks', WHERE WHAT IT READS IS OF BULK AT MOST 1048576: true; the input reads as it did. -/
def silkChecksUptoRow : OpenClaim := { program := "ythoghcpemmfebaa", sum := "81b04515732022f20e2f8774a7ecc1f0330e4f8b4667724b4fb8361b4072e5ef", func := "petersham/petershamlaw01.SilkChecks", spec := "silkChecks", unfollowed := true, recurses := true, apart := false, narrowed := true }
def SilkChecksUptoSaid : Prop := silkChecksUptoRow.holds Try.pinned (OpenSpec.upto silkChecksSpec)

/-- 'petershamlaw01.SilkWrong', WHERE WHAT IT READS IS OF BULK AT MOST 1048576: true; the input reads as it did. -/
def silkWrongUptoRow : OpenClaim := { program := "ythoghcpemmfebaa", sum := "81b04515732022f20e2f8774a7ecc1f0330e4f8b4667724b4fb8361b4072e5ef", func := "petersham/petershamlaw01.SilkWrong", spec := "silkWrong", unfollowed := true, recurses := true, apart := false, narrowed := true }
def SilkWrongUptoSaid : Prop := silkWrongUptoRow.holds Try.pinned (OpenSpec.upto silkWrongSpec)

/-- 'petershamlaw01.SilkGrows', WHERE WHAT IT READS IS OF BULK AT MOST 1048576: true; the input reads as it did. -/
def silkGrowsUptoRow : OpenClaim := { program := "ythoghcpemmfebaa", sum := "81b04515732022f20e2f8774a7ecc1f0330e4f8b4667724b4fb8361b4072e5ef", func := "petersham/petershamlaw01.SilkGrows", spec := "silkGrows", unfollowed := true, recurses := true, apart := false, narrowed := true }
def SilkGrowsUptoSaid : Prop := silkGrowsUptoRow.holds Try.pinned (OpenSpec.upto silkGrowsSpec)

/-- 'petershamlaw01.SilkTold', WHERE WHAT IT READS IS OF BULK AT MOST 1048576: true; the input reads as it did. -/
def silkToldUptoRow : OpenClaim := { program := "ythoghcpemmfebaa", sum := "81b04515732022f20e2f8774a7ecc1f0330e4f8b4667724b4fb8361b4072e5ef", func := "petersham/petershamlaw01.SilkTold", spec := "silkTold", unfollowed := true, recurses := true, apart := false, narrowed := true }
def SilkToldUptoSaid : Prop := silkToldUptoRow.holds Try.pinned (OpenSpec.upto silkToldSpec)

/-- 'petershamlaw01.SilkBounds', WHERE WHAT IT READS IS OF BULK AT MOST 1048576: true; the input reads as it did. -/
def silkBoundsUptoRow : OpenClaim := { program := "ythoghcpemmfebaa", sum := "81b04515732022f20e2f8774a7ecc1f0330e4f8b4667724b4fb8361b4072e5ef", func := "petersham/petershamlaw01.SilkBounds", spec := "silkBounds", unfollowed := true, recurses := true, apart := false, narrowed := true }
def SilkBoundsUptoSaid : Prop := silkBoundsUptoRow.holds Try.pinned (OpenSpec.upto silkBoundsSpec)

end Rows
end Go.Proofs.Ythoghcpemmfebaa
