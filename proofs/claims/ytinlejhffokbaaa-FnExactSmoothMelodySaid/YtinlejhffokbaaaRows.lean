/-
  No cell of these rows narrows 'for every input' (looked for: loops, veiled, ifaces, maps, wideKeys, modest, calm, conditions, laid).
  DERIVED. THE GIVEN ROWS OF THIS SEAT. 10 by the template 'for every input the law returns true; each argument reads behind the call as it read before'; 0 by the template 'total and deterministic' (their statements: YtinlejhffokbaaaTotals.lean).
  GIVEN WITH THE SEED: the statements are not yours to turn. If you find one false, say at which input.
  Laid BY PROGRAM, IN A SANDBOX (cutbox-rows.mjs): the forced cells as the released guide's own fill.sh prints them over the translation 72fb0aeb95ca7b0b… (all of the seat's roots in one cut). By AI agents, Wed Nov 11 2026. No macro, syntax, notation, axiom, sorry.
-/
import Derived.Test.YtinlejhffokbaaaChecked
import GoSem.Claim
import GoSem.ClaimJoined
import GoSem.ClaimMapViews
import Derived.JoinedTies
import Derived.KernelRfl
namespace Go.Proofs.Ytinlejhffokbaaa
/- THE CELL 'sum', in the pinned program and in every row, IS THE sha256 OF THE DUMP (.gsa) THAT YtinlejhffokbaaaProg.lean LOADS. Nothing in Lean hashes anything: it is a label: what it is worth is what the hold of that sum in a sandbox is worth. -/
noncomputable def Try.pinned : Pinned := { name := "ytinlejhffokbaaa", sum := "72fb0aeb95ca7b0be057c13ac7532f44ce4708f604bd9cf5bd1543f3620c52ce", checked := Try.checked }
namespace Rows
def none {H : Type} : Left H := { results := [], args := [] }

/-- 'laws.FnExactGrowPitches': WHATEVER THE INPUT: true; the input reads as it did. -/
def fnExactGrowPitchesSpec : ChangeSpec := { name := "fnExactGrowPitches", fn := fun _ => fun
  | [d1, d2, d3, d4, d5, d6] => { results := [.lit (.bool true)], args := [d1, d2, d3, d4, d5, d6] }
  | _ => none }
def fnExactGrowPitchesRow : OpenClaim := { program := "ytinlejhffokbaaa", sum := "72fb0aeb95ca7b0be057c13ac7532f44ce4708f604bd9cf5bd1543f3620c52ce", func := "loop.example/g01033/laws.FnExactGrowPitches", spec := "fnExactGrowPitches", unfollowed := true, recurses := true, apart := false }
def FnExactGrowPitchesSaid : Prop := fnExactGrowPitchesRow.holds Try.pinned (OpenSpec.ofChange fnExactGrowPitchesSpec)

/-- ITS FALSE NEIGHBOUR: 'it returns false'. Refute it at one input. -/
def fnExactGrowPitchesWrong : ChangeSpec := { name := "fnExactGrowPitches", fn := fun _ => fun
  | [d1, d2, d3, d4, d5, d6] => { results := [.lit (.bool false)], args := [d1, d2, d3, d4, d5, d6] }
  | _ => none }
def FnExactGrowPitchesWrongFalsely : Prop := fnExactGrowPitchesRow.holds Try.pinned (OpenSpec.ofChange fnExactGrowPitchesWrong)

/-- 'laws.FnExactGrowMelody': WHATEVER THE INPUT: true; the input reads as it did. -/
def fnExactGrowMelodySpec : ChangeSpec := { name := "fnExactGrowMelody", fn := fun _ => fun
  | [d1, d2, d3, d4, d5, d6] => { results := [.lit (.bool true)], args := [d1, d2, d3, d4, d5, d6] }
  | _ => none }
def fnExactGrowMelodyRow : OpenClaim := { program := "ytinlejhffokbaaa", sum := "72fb0aeb95ca7b0be057c13ac7532f44ce4708f604bd9cf5bd1543f3620c52ce", func := "loop.example/g01033/laws.FnExactGrowMelody", spec := "fnExactGrowMelody", unfollowed := true, recurses := true, apart := false }
def FnExactGrowMelodySaid : Prop := fnExactGrowMelodyRow.holds Try.pinned (OpenSpec.ofChange fnExactGrowMelodySpec)

/-- ITS FALSE NEIGHBOUR: 'it returns false'. Refute it at one input. -/
def fnExactGrowMelodyWrong : ChangeSpec := { name := "fnExactGrowMelody", fn := fun _ => fun
  | [d1, d2, d3, d4, d5, d6] => { results := [.lit (.bool false)], args := [d1, d2, d3, d4, d5, d6] }
  | _ => none }
def FnExactGrowMelodyWrongFalsely : Prop := fnExactGrowMelodyRow.holds Try.pinned (OpenSpec.ofChange fnExactGrowMelodyWrong)

/-- 'laws.FnExactBestRaga': WHATEVER THE INPUT: true; the input reads as it did. -/
def fnExactBestRagaSpec : ChangeSpec := { name := "fnExactBestRaga", fn := fun _ => fun
  | [d1, d2] => { results := [.lit (.bool true)], args := [d1, d2] }
  | _ => none }
def fnExactBestRagaRow : OpenClaim := { program := "ytinlejhffokbaaa", sum := "72fb0aeb95ca7b0be057c13ac7532f44ce4708f604bd9cf5bd1543f3620c52ce", func := "loop.example/g01033/laws.FnExactBestRaga", spec := "fnExactBestRaga", unfollowed := true, recurses := true, apart := false }
def FnExactBestRagaSaid : Prop := fnExactBestRagaRow.holds Try.pinned (OpenSpec.ofChange fnExactBestRagaSpec)

/-- ITS FALSE NEIGHBOUR: 'it returns false'. Refute it at one input. -/
def fnExactBestRagaWrong : ChangeSpec := { name := "fnExactBestRaga", fn := fun _ => fun
  | [d1, d2] => { results := [.lit (.bool false)], args := [d1, d2] }
  | _ => none }
def FnExactBestRagaWrongFalsely : Prop := fnExactBestRagaRow.holds Try.pinned (OpenSpec.ofChange fnExactBestRagaWrong)

/-- 'laws.FnExactGrowStages': WHATEVER THE INPUT: true; the input reads as it did. -/
def fnExactGrowStagesSpec : ChangeSpec := { name := "fnExactGrowStages", fn := fun _ => fun
  | [d1, d2, d3, d4, d5] => { results := [.lit (.bool true)], args := [d1, d2, d3, d4, d5] }
  | _ => none }
def fnExactGrowStagesRow : OpenClaim := { program := "ytinlejhffokbaaa", sum := "72fb0aeb95ca7b0be057c13ac7532f44ce4708f604bd9cf5bd1543f3620c52ce", func := "loop.example/g01033/laws.FnExactGrowStages", spec := "fnExactGrowStages", unfollowed := true, recurses := true, apart := false }
def FnExactGrowStagesSaid : Prop := fnExactGrowStagesRow.holds Try.pinned (OpenSpec.ofChange fnExactGrowStagesSpec)

/-- ITS FALSE NEIGHBOUR: 'it returns false'. Refute it at one input. -/
def fnExactGrowStagesWrong : ChangeSpec := { name := "fnExactGrowStages", fn := fun _ => fun
  | [d1, d2, d3, d4, d5] => { results := [.lit (.bool false)], args := [d1, d2, d3, d4, d5] }
  | _ => none }
def FnExactGrowStagesWrongFalsely : Prop := fnExactGrowStagesRow.holds Try.pinned (OpenSpec.ofChange fnExactGrowStagesWrong)

/-- 'laws.FnExactSeedFor': WHATEVER THE INPUT: true; the input reads as it did. -/
def fnExactSeedForSpec : ChangeSpec := { name := "fnExactSeedFor", fn := fun _ => fun
  | [d1, d2, d3, d4, d5] => { results := [.lit (.bool true)], args := [d1, d2, d3, d4, d5] }
  | _ => none }
def fnExactSeedForRow : OpenClaim := { program := "ytinlejhffokbaaa", sum := "72fb0aeb95ca7b0be057c13ac7532f44ce4708f604bd9cf5bd1543f3620c52ce", func := "loop.example/g01033/laws.FnExactSeedFor", spec := "fnExactSeedFor", unfollowed := true, recurses := true, apart := false }
def FnExactSeedForSaid : Prop := fnExactSeedForRow.holds Try.pinned (OpenSpec.ofChange fnExactSeedForSpec)

/-- ITS FALSE NEIGHBOUR: 'it returns false'. Refute it at one input. -/
def fnExactSeedForWrong : ChangeSpec := { name := "fnExactSeedFor", fn := fun _ => fun
  | [d1, d2, d3, d4, d5] => { results := [.lit (.bool false)], args := [d1, d2, d3, d4, d5] }
  | _ => none }
def FnExactSeedForWrongFalsely : Prop := fnExactSeedForRow.holds Try.pinned (OpenSpec.ofChange fnExactSeedForWrong)

/-- 'laws.FnExactSatisfies': WHATEVER THE INPUT: true; the input reads as it did. -/
def fnExactSatisfiesSpec : ChangeSpec := { name := "fnExactSatisfies", fn := fun _ => fun
  | [d1, d2, d3] => { results := [.lit (.bool true)], args := [d1, d2, d3] }
  | _ => none }
def fnExactSatisfiesRow : OpenClaim := { program := "ytinlejhffokbaaa", sum := "72fb0aeb95ca7b0be057c13ac7532f44ce4708f604bd9cf5bd1543f3620c52ce", func := "loop.example/g01033/laws.FnExactSatisfies", spec := "fnExactSatisfies", unfollowed := true, recurses := true, apart := false }
def FnExactSatisfiesSaid : Prop := fnExactSatisfiesRow.holds Try.pinned (OpenSpec.ofChange fnExactSatisfiesSpec)

/-- ITS FALSE NEIGHBOUR: 'it returns false'. Refute it at one input. -/
def fnExactSatisfiesWrong : ChangeSpec := { name := "fnExactSatisfies", fn := fun _ => fun
  | [d1, d2, d3] => { results := [.lit (.bool false)], args := [d1, d2, d3] }
  | _ => none }
def FnExactSatisfiesWrongFalsely : Prop := fnExactSatisfiesRow.holds Try.pinned (OpenSpec.ofChange fnExactSatisfiesWrong)

/-- 'laws.FnExactFindMelody': WHATEVER THE INPUT: true; the input reads as it did. -/
def fnExactFindMelodySpec : ChangeSpec := { name := "fnExactFindMelody", fn := fun _ => fun
  | [d1, d2, d3] => { results := [.lit (.bool true)], args := [d1, d2, d3] }
  | _ => none }
def fnExactFindMelodyRow : OpenClaim := { program := "ytinlejhffokbaaa", sum := "72fb0aeb95ca7b0be057c13ac7532f44ce4708f604bd9cf5bd1543f3620c52ce", func := "loop.example/g01033/laws.FnExactFindMelody", spec := "fnExactFindMelody", unfollowed := true, recurses := true, apart := false }
def FnExactFindMelodySaid : Prop := fnExactFindMelodyRow.holds Try.pinned (OpenSpec.ofChange fnExactFindMelodySpec)

/-- ITS FALSE NEIGHBOUR: 'it returns false'. Refute it at one input. -/
def fnExactFindMelodyWrong : ChangeSpec := { name := "fnExactFindMelody", fn := fun _ => fun
  | [d1, d2, d3] => { results := [.lit (.bool false)], args := [d1, d2, d3] }
  | _ => none }
def FnExactFindMelodyWrongFalsely : Prop := fnExactFindMelodyRow.holds Try.pinned (OpenSpec.ofChange fnExactFindMelodyWrong)

/-- 'laws.FnExactSmoothMelody': WHATEVER THE INPUT: true; the input reads as it did. -/
def fnExactSmoothMelodySpec : ChangeSpec := { name := "fnExactSmoothMelody", fn := fun _ => fun
  | [d1, d2, d3] => { results := [.lit (.bool true)], args := [d1, d2, d3] }
  | _ => none }
def fnExactSmoothMelodyRow : OpenClaim := { program := "ytinlejhffokbaaa", sum := "72fb0aeb95ca7b0be057c13ac7532f44ce4708f604bd9cf5bd1543f3620c52ce", func := "loop.example/g01033/laws.FnExactSmoothMelody", spec := "fnExactSmoothMelody", unfollowed := true, recurses := true, apart := false }
def FnExactSmoothMelodySaid : Prop := fnExactSmoothMelodyRow.holds Try.pinned (OpenSpec.ofChange fnExactSmoothMelodySpec)

/-- ITS FALSE NEIGHBOUR: 'it returns false'. Refute it at one input. -/
def fnExactSmoothMelodyWrong : ChangeSpec := { name := "fnExactSmoothMelody", fn := fun _ => fun
  | [d1, d2, d3] => { results := [.lit (.bool false)], args := [d1, d2, d3] }
  | _ => none }
def FnExactSmoothMelodyWrongFalsely : Prop := fnExactSmoothMelodyRow.holds Try.pinned (OpenSpec.ofChange fnExactSmoothMelodyWrong)

/-- 'laws.FnExactCountAsked': WHATEVER THE INPUT: true; the input reads as it did. -/
def fnExactCountAskedSpec : ChangeSpec := { name := "fnExactCountAsked", fn := fun _ => fun
  | [d1, d2, d3] => { results := [.lit (.bool true)], args := [d1, d2, d3] }
  | _ => none }
def fnExactCountAskedRow : OpenClaim := { program := "ytinlejhffokbaaa", sum := "72fb0aeb95ca7b0be057c13ac7532f44ce4708f604bd9cf5bd1543f3620c52ce", func := "loop.example/g01033/laws.FnExactCountAsked", spec := "fnExactCountAsked", unfollowed := true, recurses := true, apart := false }
def FnExactCountAskedSaid : Prop := fnExactCountAskedRow.holds Try.pinned (OpenSpec.ofChange fnExactCountAskedSpec)

/-- ITS FALSE NEIGHBOUR: 'it returns false'. Refute it at one input. -/
def fnExactCountAskedWrong : ChangeSpec := { name := "fnExactCountAsked", fn := fun _ => fun
  | [d1, d2, d3] => { results := [.lit (.bool false)], args := [d1, d2, d3] }
  | _ => none }
def FnExactCountAskedWrongFalsely : Prop := fnExactCountAskedRow.holds Try.pinned (OpenSpec.ofChange fnExactCountAskedWrong)

/-- 'laws.FnExactAllowedPermutations': WHATEVER THE INPUT: true; the input reads as it did. -/
def fnExactAllowedPermutationsSpec : ChangeSpec := { name := "fnExactAllowedPermutations", fn := fun _ => fun
  | [d1, d2] => { results := [.lit (.bool true)], args := [d1, d2] }
  | _ => none }
def fnExactAllowedPermutationsRow : OpenClaim := { program := "ytinlejhffokbaaa", sum := "72fb0aeb95ca7b0be057c13ac7532f44ce4708f604bd9cf5bd1543f3620c52ce", func := "loop.example/g01033/laws.FnExactAllowedPermutations", spec := "fnExactAllowedPermutations", unfollowed := true, recurses := true, apart := false }
def FnExactAllowedPermutationsSaid : Prop := fnExactAllowedPermutationsRow.holds Try.pinned (OpenSpec.ofChange fnExactAllowedPermutationsSpec)

/-- ITS FALSE NEIGHBOUR: 'it returns false'. Refute it at one input. -/
def fnExactAllowedPermutationsWrong : ChangeSpec := { name := "fnExactAllowedPermutations", fn := fun _ => fun
  | [d1, d2] => { results := [.lit (.bool false)], args := [d1, d2] }
  | _ => none }
def FnExactAllowedPermutationsWrongFalsely : Prop := fnExactAllowedPermutationsRow.holds Try.pinned (OpenSpec.ofChange fnExactAllowedPermutationsWrong)

/- THE SECOND FORM. 'bulk': how many values and letters a reading holds, each counted each time it is reached (what is shared counts as often as it is met; a slice's spare places count too). A statement '..UptoSaid' is the law's where the arguments, and the package variables that the reading takes, are together of bulk at most 1048576: NARROWER than '..Said'. Prove '..Said' where nothing that the law and all that it calls make is longer than what came in: it says more and counts as full. Else prove '..UptoSaid'. A law counts once. -/
mutual
def uptoBulk {H : Type} : DataW H → Nat
  | .lit (.string bytes) => bytes.length + 1
  | .lit _ => 1
  | .nil => 1
  | .ptr d => uptoBulk d + 1
  | .slice elems spare => uptoBulkAll elems + uptoBulkAll spare + 1
  | .agg parts => uptoBulkAll parts + 1
  | .iface _ d => uptoBulk d + 1
  | .map entries => uptoBulkEntries entries + 1
  | .held _ => 1
def uptoBulkAll {H : Type} : List (DataW H) → Nat
  | [] => 0
  | d :: r => uptoBulk d + uptoBulkAll r
def uptoBulkEntries {H : Type} : List (Lit × DataW H) → Nat
  | [] => 0
  | x :: r => uptoBulkEntry x + uptoBulkEntries r
def uptoBulkEntry {H : Type} : Lit × DataW H → Nat
  | (.string bytes, d) => bytes.length + uptoBulk d + 1
  | (_, d) => uptoBulk d + 1
 end
def uptoSmall : (H : Type) → List (DataW H) → Bool := fun _ ds => decide (uptoBulkAll ds ≤ 1048576)
def OpenSpec.upto (s : _root_.Go.ChangeSpec) : _root_.Go.OpenSpec := { _root_.Go.OpenSpec.ofChange s with cond := some uptoSmall }

/-- 'laws.FnExactGrowPitches', WHERE WHAT IT READS IS OF BULK AT MOST 1048576: true; the input reads as it did. -/
def fnExactGrowPitchesUptoRow : OpenClaim := { program := "ytinlejhffokbaaa", sum := "72fb0aeb95ca7b0be057c13ac7532f44ce4708f604bd9cf5bd1543f3620c52ce", func := "loop.example/g01033/laws.FnExactGrowPitches", spec := "fnExactGrowPitches", unfollowed := true, recurses := true, apart := false, narrowed := true }
def FnExactGrowPitchesUptoSaid : Prop := fnExactGrowPitchesUptoRow.holds Try.pinned (OpenSpec.upto fnExactGrowPitchesSpec)

/-- 'laws.FnExactGrowMelody', WHERE WHAT IT READS IS OF BULK AT MOST 1048576: true; the input reads as it did. -/
def fnExactGrowMelodyUptoRow : OpenClaim := { program := "ytinlejhffokbaaa", sum := "72fb0aeb95ca7b0be057c13ac7532f44ce4708f604bd9cf5bd1543f3620c52ce", func := "loop.example/g01033/laws.FnExactGrowMelody", spec := "fnExactGrowMelody", unfollowed := true, recurses := true, apart := false, narrowed := true }
def FnExactGrowMelodyUptoSaid : Prop := fnExactGrowMelodyUptoRow.holds Try.pinned (OpenSpec.upto fnExactGrowMelodySpec)

/-- 'laws.FnExactBestRaga', WHERE WHAT IT READS IS OF BULK AT MOST 1048576: true; the input reads as it did. -/
def fnExactBestRagaUptoRow : OpenClaim := { program := "ytinlejhffokbaaa", sum := "72fb0aeb95ca7b0be057c13ac7532f44ce4708f604bd9cf5bd1543f3620c52ce", func := "loop.example/g01033/laws.FnExactBestRaga", spec := "fnExactBestRaga", unfollowed := true, recurses := true, apart := false, narrowed := true }
def FnExactBestRagaUptoSaid : Prop := fnExactBestRagaUptoRow.holds Try.pinned (OpenSpec.upto fnExactBestRagaSpec)

/-- 'laws.FnExactGrowStages', WHERE WHAT IT READS IS OF BULK AT MOST 1048576: true; the input reads as it did. -/
def fnExactGrowStagesUptoRow : OpenClaim := { program := "ytinlejhffokbaaa", sum := "72fb0aeb95ca7b0be057c13ac7532f44ce4708f604bd9cf5bd1543f3620c52ce", func := "loop.example/g01033/laws.FnExactGrowStages", spec := "fnExactGrowStages", unfollowed := true, recurses := true, apart := false, narrowed := true }
def FnExactGrowStagesUptoSaid : Prop := fnExactGrowStagesUptoRow.holds Try.pinned (OpenSpec.upto fnExactGrowStagesSpec)

/-- 'laws.FnExactSeedFor', WHERE WHAT IT READS IS OF BULK AT MOST 1048576: true; the input reads as it did. -/
def fnExactSeedForUptoRow : OpenClaim := { program := "ytinlejhffokbaaa", sum := "72fb0aeb95ca7b0be057c13ac7532f44ce4708f604bd9cf5bd1543f3620c52ce", func := "loop.example/g01033/laws.FnExactSeedFor", spec := "fnExactSeedFor", unfollowed := true, recurses := true, apart := false, narrowed := true }
def FnExactSeedForUptoSaid : Prop := fnExactSeedForUptoRow.holds Try.pinned (OpenSpec.upto fnExactSeedForSpec)

/-- 'laws.FnExactSatisfies', WHERE WHAT IT READS IS OF BULK AT MOST 1048576: true; the input reads as it did. -/
def fnExactSatisfiesUptoRow : OpenClaim := { program := "ytinlejhffokbaaa", sum := "72fb0aeb95ca7b0be057c13ac7532f44ce4708f604bd9cf5bd1543f3620c52ce", func := "loop.example/g01033/laws.FnExactSatisfies", spec := "fnExactSatisfies", unfollowed := true, recurses := true, apart := false, narrowed := true }
def FnExactSatisfiesUptoSaid : Prop := fnExactSatisfiesUptoRow.holds Try.pinned (OpenSpec.upto fnExactSatisfiesSpec)

/-- 'laws.FnExactFindMelody', WHERE WHAT IT READS IS OF BULK AT MOST 1048576: true; the input reads as it did. -/
def fnExactFindMelodyUptoRow : OpenClaim := { program := "ytinlejhffokbaaa", sum := "72fb0aeb95ca7b0be057c13ac7532f44ce4708f604bd9cf5bd1543f3620c52ce", func := "loop.example/g01033/laws.FnExactFindMelody", spec := "fnExactFindMelody", unfollowed := true, recurses := true, apart := false, narrowed := true }
def FnExactFindMelodyUptoSaid : Prop := fnExactFindMelodyUptoRow.holds Try.pinned (OpenSpec.upto fnExactFindMelodySpec)

/-- 'laws.FnExactSmoothMelody', WHERE WHAT IT READS IS OF BULK AT MOST 1048576: true; the input reads as it did. -/
def fnExactSmoothMelodyUptoRow : OpenClaim := { program := "ytinlejhffokbaaa", sum := "72fb0aeb95ca7b0be057c13ac7532f44ce4708f604bd9cf5bd1543f3620c52ce", func := "loop.example/g01033/laws.FnExactSmoothMelody", spec := "fnExactSmoothMelody", unfollowed := true, recurses := true, apart := false, narrowed := true }
def FnExactSmoothMelodyUptoSaid : Prop := fnExactSmoothMelodyUptoRow.holds Try.pinned (OpenSpec.upto fnExactSmoothMelodySpec)

/-- 'laws.FnExactCountAsked', WHERE WHAT IT READS IS OF BULK AT MOST 1048576: true; the input reads as it did. -/
def fnExactCountAskedUptoRow : OpenClaim := { program := "ytinlejhffokbaaa", sum := "72fb0aeb95ca7b0be057c13ac7532f44ce4708f604bd9cf5bd1543f3620c52ce", func := "loop.example/g01033/laws.FnExactCountAsked", spec := "fnExactCountAsked", unfollowed := true, recurses := true, apart := false, narrowed := true }
def FnExactCountAskedUptoSaid : Prop := fnExactCountAskedUptoRow.holds Try.pinned (OpenSpec.upto fnExactCountAskedSpec)

/-- 'laws.FnExactAllowedPermutations', WHERE WHAT IT READS IS OF BULK AT MOST 1048576: true; the input reads as it did. -/
def fnExactAllowedPermutationsUptoRow : OpenClaim := { program := "ytinlejhffokbaaa", sum := "72fb0aeb95ca7b0be057c13ac7532f44ce4708f604bd9cf5bd1543f3620c52ce", func := "loop.example/g01033/laws.FnExactAllowedPermutations", spec := "fnExactAllowedPermutations", unfollowed := true, recurses := true, apart := false, narrowed := true }
def FnExactAllowedPermutationsUptoSaid : Prop := fnExactAllowedPermutationsUptoRow.holds Try.pinned (OpenSpec.upto fnExactAllowedPermutationsSpec)

end Rows
end Go.Proofs.Ytinlejhffokbaaa
