/-
  No cell of these rows narrows 'for every input' (looked for: loops, veiled, ifaces, maps, wideKeys, modest, calm, conditions, laid).
  DERIVED. THE GIVEN ROWS OF THIS SEAT. 12 by the template 'for every input the law returns true; each argument reads behind the call as it read before'; 0 by the template 'total and deterministic' (their statements: YtddhommmokdlnaaTotals.lean).
  GIVEN WITH THE SEED: the statements are not yours to turn. If you find one false, say at which input.
  Laid BY PROGRAM, IN A SANDBOX (cutbox-rows.mjs): the forced cells as the released guide's own fill.sh prints them over the translation d5e727529a707f23… (all of the seat's roots in one cut). By AI agents, Wed Nov 11 2026. No macro, syntax, notation, axiom, sorry.
-/
import Derived.Test.YtddhommmokdlnaaChecked
import GoSem.Claim
import GoSem.ClaimJoined
import GoSem.ClaimMapViews
import Derived.JoinedTies
import Derived.KernelRfl
namespace Go.Proofs.Ytddhommmokdlnaa
/- THE CELL 'sum', in the pinned program and in every row, IS THE sha256 OF THE DUMP (.gsa) THAT YtddhommmokdlnaaProg.lean LOADS. Nothing in Lean hashes anything: it is a label: what it is worth is what the hold of that sum in a sandbox is worth. -/
noncomputable def Try.pinned : Pinned := { name := "ytddhommmokdlnaa", sum := "d5e727529a707f236f3d2c2500daabcf951af00db2890143565cbb77e2bb9340", checked := Try.checked }
namespace Rows
def none {H : Type} : Left H := { results := [], args := [] }

/-- 'laws.FnExactMirrorPattern': WHATEVER THE INPUT: true; the input reads as it did. -/
def fnExactMirrorPatternSpec : ChangeSpec := { name := "fnExactMirrorPattern", fn := fun _ => fun
  | [d] => { results := [.lit (.bool true)], args := [d] }
  | _ => none }
def fnExactMirrorPatternRow : OpenClaim := { program := "ytddhommmokdlnaa", sum := "d5e727529a707f236f3d2c2500daabcf951af00db2890143565cbb77e2bb9340", func := "loop.example/g01033/laws.FnExactMirrorPattern", spec := "fnExactMirrorPattern", unfollowed := true, recurses := true, apart := false }
def FnExactMirrorPatternSaid : Prop := fnExactMirrorPatternRow.holds Try.pinned (OpenSpec.ofChange fnExactMirrorPatternSpec)

/-- ITS FALSE NEIGHBOUR: 'it returns false'. Refute it at one input. -/
def fnExactMirrorPatternWrong : ChangeSpec := { name := "fnExactMirrorPattern", fn := fun _ => fun
  | [d] => { results := [.lit (.bool false)], args := [d] }
  | _ => none }
def FnExactMirrorPatternWrongFalsely : Prop := fnExactMirrorPatternRow.holds Try.pinned (OpenSpec.ofChange fnExactMirrorPatternWrong)

/-- 'laws.FnExactPermutationNumber': WHATEVER THE INPUT: true; the input reads as it did. -/
def fnExactPermutationNumberSpec : ChangeSpec := { name := "fnExactPermutationNumber", fn := fun _ => fun
  | [d] => { results := [.lit (.bool true)], args := [d] }
  | _ => none }
def fnExactPermutationNumberRow : OpenClaim := { program := "ytddhommmokdlnaa", sum := "d5e727529a707f236f3d2c2500daabcf951af00db2890143565cbb77e2bb9340", func := "loop.example/g01033/laws.FnExactPermutationNumber", spec := "fnExactPermutationNumber", unfollowed := true, recurses := true, apart := false }
def FnExactPermutationNumberSaid : Prop := fnExactPermutationNumberRow.holds Try.pinned (OpenSpec.ofChange fnExactPermutationNumberSpec)

/-- ITS FALSE NEIGHBOUR: 'it returns false'. Refute it at one input. -/
def fnExactPermutationNumberWrong : ChangeSpec := { name := "fnExactPermutationNumber", fn := fun _ => fun
  | [d] => { results := [.lit (.bool false)], args := [d] }
  | _ => none }
def FnExactPermutationNumberWrongFalsely : Prop := fnExactPermutationNumberRow.holds Try.pinned (OpenSpec.ofChange fnExactPermutationNumberWrong)

/-- 'laws.FnExactRotatePattern': WHATEVER THE INPUT: true; the input reads as it did. -/
def fnExactRotatePatternSpec : ChangeSpec := { name := "fnExactRotatePattern", fn := fun _ => fun
  | [d1, d2] => { results := [.lit (.bool true)], args := [d1, d2] }
  | _ => none }
def fnExactRotatePatternRow : OpenClaim := { program := "ytddhommmokdlnaa", sum := "d5e727529a707f236f3d2c2500daabcf951af00db2890143565cbb77e2bb9340", func := "loop.example/g01033/laws.FnExactRotatePattern", spec := "fnExactRotatePattern", unfollowed := true, recurses := true, apart := false }
def FnExactRotatePatternSaid : Prop := fnExactRotatePatternRow.holds Try.pinned (OpenSpec.ofChange fnExactRotatePatternSpec)

/-- ITS FALSE NEIGHBOUR: 'it returns false'. Refute it at one input. -/
def fnExactRotatePatternWrong : ChangeSpec := { name := "fnExactRotatePattern", fn := fun _ => fun
  | [d1, d2] => { results := [.lit (.bool false)], args := [d1, d2] }
  | _ => none }
def FnExactRotatePatternWrongFalsely : Prop := fnExactRotatePatternRow.holds Try.pinned (OpenSpec.ofChange fnExactRotatePatternWrong)

/-- 'laws.FnExactNumberedPattern': WHATEVER THE INPUT: true; the input reads as it did. -/
def fnExactNumberedPatternSpec : ChangeSpec := { name := "fnExactNumberedPattern", fn := fun _ => fun
  | [d1, d2, d3, d4] => { results := [.lit (.bool true)], args := [d1, d2, d3, d4] }
  | _ => none }
def fnExactNumberedPatternRow : OpenClaim := { program := "ytddhommmokdlnaa", sum := "d5e727529a707f236f3d2c2500daabcf951af00db2890143565cbb77e2bb9340", func := "loop.example/g01033/laws.FnExactNumberedPattern", spec := "fnExactNumberedPattern", apart := false }
def FnExactNumberedPatternSaid : Prop := fnExactNumberedPatternRow.holds Try.pinned (OpenSpec.ofChange fnExactNumberedPatternSpec)

/-- ITS FALSE NEIGHBOUR: 'it returns false'. Refute it at one input. -/
def fnExactNumberedPatternWrong : ChangeSpec := { name := "fnExactNumberedPattern", fn := fun _ => fun
  | [d1, d2, d3, d4] => { results := [.lit (.bool false)], args := [d1, d2, d3, d4] }
  | _ => none }
def FnExactNumberedPatternWrongFalsely : Prop := fnExactNumberedPatternRow.holds Try.pinned (OpenSpec.ofChange fnExactNumberedPatternWrong)

/-- 'laws.FnExactMovePattern': WHATEVER THE INPUT: true; the input reads as it did. -/
def fnExactMovePatternSpec : ChangeSpec := { name := "fnExactMovePattern", fn := fun _ => fun
  | [d1, d2, d3, d4] => { results := [.lit (.bool true)], args := [d1, d2, d3, d4] }
  | _ => none }
def fnExactMovePatternRow : OpenClaim := { program := "ytddhommmokdlnaa", sum := "d5e727529a707f236f3d2c2500daabcf951af00db2890143565cbb77e2bb9340", func := "loop.example/g01033/laws.FnExactMovePattern", spec := "fnExactMovePattern", unfollowed := true, recurses := true, apart := false }
def FnExactMovePatternSaid : Prop := fnExactMovePatternRow.holds Try.pinned (OpenSpec.ofChange fnExactMovePatternSpec)

/-- ITS FALSE NEIGHBOUR: 'it returns false'. Refute it at one input. -/
def fnExactMovePatternWrong : ChangeSpec := { name := "fnExactMovePattern", fn := fun _ => fun
  | [d1, d2, d3, d4] => { results := [.lit (.bool false)], args := [d1, d2, d3, d4] }
  | _ => none }
def FnExactMovePatternWrongFalsely : Prop := fnExactMovePatternRow.holds Try.pinned (OpenSpec.ofChange fnExactMovePatternWrong)

/-- 'laws.FnExactUpAndDown': WHATEVER THE INPUT: true; the input reads as it did. -/
def fnExactUpAndDownSpec : ChangeSpec := { name := "fnExactUpAndDown", fn := fun _ => fun
  | [d1, d2, d3] => { results := [.lit (.bool true)], args := [d1, d2, d3] }
  | _ => none }
def fnExactUpAndDownRow : OpenClaim := { program := "ytddhommmokdlnaa", sum := "d5e727529a707f236f3d2c2500daabcf951af00db2890143565cbb77e2bb9340", func := "loop.example/g01033/laws.FnExactUpAndDown", spec := "fnExactUpAndDown", unfollowed := true, recurses := true, apart := false }
def FnExactUpAndDownSaid : Prop := fnExactUpAndDownRow.holds Try.pinned (OpenSpec.ofChange fnExactUpAndDownSpec)

/-- ITS FALSE NEIGHBOUR: 'it returns false'. Refute it at one input. -/
def fnExactUpAndDownWrong : ChangeSpec := { name := "fnExactUpAndDown", fn := fun _ => fun
  | [d1, d2, d3] => { results := [.lit (.bool false)], args := [d1, d2, d3] }
  | _ => none }
def FnExactUpAndDownWrongFalsely : Prop := fnExactUpAndDownRow.holds Try.pinned (OpenSpec.ofChange fnExactUpAndDownWrong)

/-- 'laws.FnExactPatternOf': WHATEVER THE INPUT: true; the input reads as it did. -/
def fnExactPatternOfSpec : ChangeSpec := { name := "fnExactPatternOf", fn := fun _ => fun
  | [d1, d2] => { results := [.lit (.bool true)], args := [d1, d2] }
  | _ => none }
def fnExactPatternOfRow : OpenClaim := { program := "ytddhommmokdlnaa", sum := "d5e727529a707f236f3d2c2500daabcf951af00db2890143565cbb77e2bb9340", func := "loop.example/g01033/laws.FnExactPatternOf", spec := "fnExactPatternOf", unfollowed := true, recurses := true, apart := false }
def FnExactPatternOfSaid : Prop := fnExactPatternOfRow.holds Try.pinned (OpenSpec.ofChange fnExactPatternOfSpec)

/-- ITS FALSE NEIGHBOUR: 'it returns false'. Refute it at one input. -/
def fnExactPatternOfWrong : ChangeSpec := { name := "fnExactPatternOf", fn := fun _ => fun
  | [d1, d2] => { results := [.lit (.bool false)], args := [d1, d2] }
  | _ => none }
def FnExactPatternOfWrongFalsely : Prop := fnExactPatternOfRow.holds Try.pinned (OpenSpec.ofChange fnExactPatternOfWrong)

/-- 'laws.FnExactNumberedPermutation': WHATEVER THE INPUT: true; the input reads as it did. -/
def fnExactNumberedPermutationSpec : ChangeSpec := { name := "fnExactNumberedPermutation", fn := fun _ => fun
  | [d1, d2] => { results := [.lit (.bool true)], args := [d1, d2] }
  | _ => none }
def fnExactNumberedPermutationRow : OpenClaim := { program := "ytddhommmokdlnaa", sum := "d5e727529a707f236f3d2c2500daabcf951af00db2890143565cbb77e2bb9340", func := "loop.example/g01033/laws.FnExactNumberedPermutation", spec := "fnExactNumberedPermutation", unfollowed := true, recurses := true, apart := false }
def FnExactNumberedPermutationSaid : Prop := fnExactNumberedPermutationRow.holds Try.pinned (OpenSpec.ofChange fnExactNumberedPermutationSpec)

/-- ITS FALSE NEIGHBOUR: 'it returns false'. Refute it at one input. -/
def fnExactNumberedPermutationWrong : ChangeSpec := { name := "fnExactNumberedPermutation", fn := fun _ => fun
  | [d1, d2] => { results := [.lit (.bool false)], args := [d1, d2] }
  | _ => none }
def FnExactNumberedPermutationWrongFalsely : Prop := fnExactNumberedPermutationRow.holds Try.pinned (OpenSpec.ofChange fnExactNumberedPermutationWrong)

/-- 'laws.FnExactNextPermutation': WHATEVER THE INPUT: true; the input reads as it did. -/
def fnExactNextPermutationSpec : ChangeSpec := { name := "fnExactNextPermutation", fn := fun _ => fun
  | [d] => { results := [.lit (.bool true)], args := [d] }
  | _ => none }
def fnExactNextPermutationRow : OpenClaim := { program := "ytddhommmokdlnaa", sum := "d5e727529a707f236f3d2c2500daabcf951af00db2890143565cbb77e2bb9340", func := "loop.example/g01033/laws.FnExactNextPermutation", spec := "fnExactNextPermutation", unfollowed := true, recurses := true, apart := false }
def FnExactNextPermutationSaid : Prop := fnExactNextPermutationRow.holds Try.pinned (OpenSpec.ofChange fnExactNextPermutationSpec)

/-- ITS FALSE NEIGHBOUR: 'it returns false'. Refute it at one input. -/
def fnExactNextPermutationWrong : ChangeSpec := { name := "fnExactNextPermutation", fn := fun _ => fun
  | [d] => { results := [.lit (.bool false)], args := [d] }
  | _ => none }
def FnExactNextPermutationWrongFalsely : Prop := fnExactNextPermutationRow.holds Try.pinned (OpenSpec.ofChange fnExactNextPermutationWrong)

/-- 'laws.FnExactWarpDistance': WHATEVER THE INPUT: true; the input reads as it did. -/
def fnExactWarpDistanceSpec : ChangeSpec := { name := "fnExactWarpDistance", fn := fun _ => fun
  | [d1, d2] => { results := [.lit (.bool true)], args := [d1, d2] }
  | _ => none }
def fnExactWarpDistanceRow : OpenClaim := { program := "ytddhommmokdlnaa", sum := "d5e727529a707f236f3d2c2500daabcf951af00db2890143565cbb77e2bb9340", func := "loop.example/g01033/laws.FnExactWarpDistance", spec := "fnExactWarpDistance", unfollowed := true, recurses := true, apart := false }
def FnExactWarpDistanceSaid : Prop := fnExactWarpDistanceRow.holds Try.pinned (OpenSpec.ofChange fnExactWarpDistanceSpec)

/-- ITS FALSE NEIGHBOUR: 'it returns false'. Refute it at one input. -/
def fnExactWarpDistanceWrong : ChangeSpec := { name := "fnExactWarpDistance", fn := fun _ => fun
  | [d1, d2] => { results := [.lit (.bool false)], args := [d1, d2] }
  | _ => none }
def FnExactWarpDistanceWrongFalsely : Prop := fnExactWarpDistanceRow.holds Try.pinned (OpenSpec.ofChange fnExactWarpDistanceWrong)

/-- 'laws.FnExactEditDistance': WHATEVER THE INPUT: true; the input reads as it did. -/
def fnExactEditDistanceSpec : ChangeSpec := { name := "fnExactEditDistance", fn := fun _ => fun
  | [d1, d2, d3, d4] => { results := [.lit (.bool true)], args := [d1, d2, d3, d4] }
  | _ => none }
def fnExactEditDistanceRow : OpenClaim := { program := "ytddhommmokdlnaa", sum := "d5e727529a707f236f3d2c2500daabcf951af00db2890143565cbb77e2bb9340", func := "loop.example/g01033/laws.FnExactEditDistance", spec := "fnExactEditDistance", unfollowed := true, recurses := true, apart := false }
def FnExactEditDistanceSaid : Prop := fnExactEditDistanceRow.holds Try.pinned (OpenSpec.ofChange fnExactEditDistanceSpec)

/-- ITS FALSE NEIGHBOUR: 'it returns false'. Refute it at one input. -/
def fnExactEditDistanceWrong : ChangeSpec := { name := "fnExactEditDistance", fn := fun _ => fun
  | [d1, d2, d3, d4] => { results := [.lit (.bool false)], args := [d1, d2, d3, d4] }
  | _ => none }
def FnExactEditDistanceWrongFalsely : Prop := fnExactEditDistanceRow.holds Try.pinned (OpenSpec.ofChange fnExactEditDistanceWrong)

/-- 'laws.FnExactEditPath': WHATEVER THE INPUT: true; the input reads as it did. -/
def fnExactEditPathSpec : ChangeSpec := { name := "fnExactEditPath", fn := fun _ => fun
  | [d1, d2, d3, d4] => { results := [.lit (.bool true)], args := [d1, d2, d3, d4] }
  | _ => none }
def fnExactEditPathRow : OpenClaim := { program := "ytddhommmokdlnaa", sum := "d5e727529a707f236f3d2c2500daabcf951af00db2890143565cbb77e2bb9340", func := "loop.example/g01033/laws.FnExactEditPath", spec := "fnExactEditPath", unfollowed := true, recurses := true, apart := false }
def FnExactEditPathSaid : Prop := fnExactEditPathRow.holds Try.pinned (OpenSpec.ofChange fnExactEditPathSpec)

/-- ITS FALSE NEIGHBOUR: 'it returns false'. Refute it at one input. -/
def fnExactEditPathWrong : ChangeSpec := { name := "fnExactEditPath", fn := fun _ => fun
  | [d1, d2, d3, d4] => { results := [.lit (.bool false)], args := [d1, d2, d3, d4] }
  | _ => none }
def FnExactEditPathWrongFalsely : Prop := fnExactEditPathRow.holds Try.pinned (OpenSpec.ofChange fnExactEditPathWrong)

/- THE SECOND FORM. 'bulk': how many values and letters a reading holds, each counted each time it is reached (what is shared counts as often as it is met; a slice's spare places count too). A statement '..UptoSaid' is the law's where the arguments, and the package variables that the reading takes, are together of bulk at most 1048576: NARROWER than '..Said'. Prove '..Said' where nothing that the law and all that it calls make is longer than what came in: it says more and counts as full. Else prove '..UptoSaid'. A law counts once. -/
mutual
def uptoBulk {H : Type} : DataW H → Nat
  | .lit (.string bytes) => bytes.length + 1
  | .lit _ => 1
  | .nil => 1
  | .ptr d => uptoBulk d + 1
  | .slice elems spare => uptoBulkAll elems + uptoBulkAll spare + 1
  | .agg parts => uptoBulkAll parts + 1
  | .iface _ d => uptoBulk d + 1
  | .map entries => uptoBulkEntries entries + 1
  | .held _ => 1
def uptoBulkAll {H : Type} : List (DataW H) → Nat
  | [] => 0
  | d :: r => uptoBulk d + uptoBulkAll r
def uptoBulkEntries {H : Type} : List (Lit × DataW H) → Nat
  | [] => 0
  | x :: r => uptoBulkEntry x + uptoBulkEntries r
def uptoBulkEntry {H : Type} : Lit × DataW H → Nat
  | (.string bytes, d) => bytes.length + uptoBulk d + 1
  | (_, d) => uptoBulk d + 1
 end
def uptoSmall : (H : Type) → List (DataW H) → Bool := fun _ ds => decide (uptoBulkAll ds ≤ 1048576)
def OpenSpec.upto (s : _root_.Go.ChangeSpec) : _root_.Go.OpenSpec := { _root_.Go.OpenSpec.ofChange s with cond := some uptoSmall }

/-- 'laws.FnExactMirrorPattern', WHERE WHAT IT READS IS OF BULK AT MOST 1048576: true; the input reads as it did. -/
def fnExactMirrorPatternUptoRow : OpenClaim := { program := "ytddhommmokdlnaa", sum := "d5e727529a707f236f3d2c2500daabcf951af00db2890143565cbb77e2bb9340", func := "loop.example/g01033/laws.FnExactMirrorPattern", spec := "fnExactMirrorPattern", unfollowed := true, recurses := true, apart := false, narrowed := true }
def FnExactMirrorPatternUptoSaid : Prop := fnExactMirrorPatternUptoRow.holds Try.pinned (OpenSpec.upto fnExactMirrorPatternSpec)

/-- 'laws.FnExactPermutationNumber', WHERE WHAT IT READS IS OF BULK AT MOST 1048576: true; the input reads as it did. -/
def fnExactPermutationNumberUptoRow : OpenClaim := { program := "ytddhommmokdlnaa", sum := "d5e727529a707f236f3d2c2500daabcf951af00db2890143565cbb77e2bb9340", func := "loop.example/g01033/laws.FnExactPermutationNumber", spec := "fnExactPermutationNumber", unfollowed := true, recurses := true, apart := false, narrowed := true }
def FnExactPermutationNumberUptoSaid : Prop := fnExactPermutationNumberUptoRow.holds Try.pinned (OpenSpec.upto fnExactPermutationNumberSpec)

/-- 'laws.FnExactRotatePattern', WHERE WHAT IT READS IS OF BULK AT MOST 1048576: true; the input reads as it did. -/
def fnExactRotatePatternUptoRow : OpenClaim := { program := "ytddhommmokdlnaa", sum := "d5e727529a707f236f3d2c2500daabcf951af00db2890143565cbb77e2bb9340", func := "loop.example/g01033/laws.FnExactRotatePattern", spec := "fnExactRotatePattern", unfollowed := true, recurses := true, apart := false, narrowed := true }
def FnExactRotatePatternUptoSaid : Prop := fnExactRotatePatternUptoRow.holds Try.pinned (OpenSpec.upto fnExactRotatePatternSpec)

/-- 'laws.FnExactNumberedPattern', WHERE WHAT IT READS IS OF BULK AT MOST 1048576: true; the input reads as it did. -/
def fnExactNumberedPatternUptoRow : OpenClaim := { program := "ytddhommmokdlnaa", sum := "d5e727529a707f236f3d2c2500daabcf951af00db2890143565cbb77e2bb9340", func := "loop.example/g01033/laws.FnExactNumberedPattern", spec := "fnExactNumberedPattern", apart := false, narrowed := true }
def FnExactNumberedPatternUptoSaid : Prop := fnExactNumberedPatternUptoRow.holds Try.pinned (OpenSpec.upto fnExactNumberedPatternSpec)

/-- 'laws.FnExactMovePattern', WHERE WHAT IT READS IS OF BULK AT MOST 1048576: true; the input reads as it did. -/
def fnExactMovePatternUptoRow : OpenClaim := { program := "ytddhommmokdlnaa", sum := "d5e727529a707f236f3d2c2500daabcf951af00db2890143565cbb77e2bb9340", func := "loop.example/g01033/laws.FnExactMovePattern", spec := "fnExactMovePattern", unfollowed := true, recurses := true, apart := false, narrowed := true }
def FnExactMovePatternUptoSaid : Prop := fnExactMovePatternUptoRow.holds Try.pinned (OpenSpec.upto fnExactMovePatternSpec)

/-- 'laws.FnExactUpAndDown', WHERE WHAT IT READS IS OF BULK AT MOST 1048576: true; the input reads as it did. -/
def fnExactUpAndDownUptoRow : OpenClaim := { program := "ytddhommmokdlnaa", sum := "d5e727529a707f236f3d2c2500daabcf951af00db2890143565cbb77e2bb9340", func := "loop.example/g01033/laws.FnExactUpAndDown", spec := "fnExactUpAndDown", unfollowed := true, recurses := true, apart := false, narrowed := true }
def FnExactUpAndDownUptoSaid : Prop := fnExactUpAndDownUptoRow.holds Try.pinned (OpenSpec.upto fnExactUpAndDownSpec)

/-- 'laws.FnExactPatternOf', WHERE WHAT IT READS IS OF BULK AT MOST 1048576: true; the input reads as it did. -/
def fnExactPatternOfUptoRow : OpenClaim := { program := "ytddhommmokdlnaa", sum := "d5e727529a707f236f3d2c2500daabcf951af00db2890143565cbb77e2bb9340", func := "loop.example/g01033/laws.FnExactPatternOf", spec := "fnExactPatternOf", unfollowed := true, recurses := true, apart := false, narrowed := true }
def FnExactPatternOfUptoSaid : Prop := fnExactPatternOfUptoRow.holds Try.pinned (OpenSpec.upto fnExactPatternOfSpec)

/-- 'laws.FnExactNumberedPermutation', WHERE WHAT IT READS IS OF BULK AT MOST 1048576: true; the input reads as it did. -/
def fnExactNumberedPermutationUptoRow : OpenClaim := { program := "ytddhommmokdlnaa", sum := "d5e727529a707f236f3d2c2500daabcf951af00db2890143565cbb77e2bb9340", func := "loop.example/g01033/laws.FnExactNumberedPermutation", spec := "fnExactNumberedPermutation", unfollowed := true, recurses := true, apart := false, narrowed := true }
def FnExactNumberedPermutationUptoSaid : Prop := fnExactNumberedPermutationUptoRow.holds Try.pinned (OpenSpec.upto fnExactNumberedPermutationSpec)

/-- 'laws.FnExactNextPermutation', WHERE WHAT IT READS IS OF BULK AT MOST 1048576: true; the input reads as it did. -/
def fnExactNextPermutationUptoRow : OpenClaim := { program := "ytddhommmokdlnaa", sum := "d5e727529a707f236f3d2c2500daabcf951af00db2890143565cbb77e2bb9340", func := "loop.example/g01033/laws.FnExactNextPermutation", spec := "fnExactNextPermutation", unfollowed := true, recurses := true, apart := false, narrowed := true }
def FnExactNextPermutationUptoSaid : Prop := fnExactNextPermutationUptoRow.holds Try.pinned (OpenSpec.upto fnExactNextPermutationSpec)

/-- 'laws.FnExactWarpDistance', WHERE WHAT IT READS IS OF BULK AT MOST 1048576: true; the input reads as it did. -/
def fnExactWarpDistanceUptoRow : OpenClaim := { program := "ytddhommmokdlnaa", sum := "d5e727529a707f236f3d2c2500daabcf951af00db2890143565cbb77e2bb9340", func := "loop.example/g01033/laws.FnExactWarpDistance", spec := "fnExactWarpDistance", unfollowed := true, recurses := true, apart := false, narrowed := true }
def FnExactWarpDistanceUptoSaid : Prop := fnExactWarpDistanceUptoRow.holds Try.pinned (OpenSpec.upto fnExactWarpDistanceSpec)

/-- 'laws.FnExactEditDistance', WHERE WHAT IT READS IS OF BULK AT MOST 1048576: true; the input reads as it did. -/
def fnExactEditDistanceUptoRow : OpenClaim := { program := "ytddhommmokdlnaa", sum := "d5e727529a707f236f3d2c2500daabcf951af00db2890143565cbb77e2bb9340", func := "loop.example/g01033/laws.FnExactEditDistance", spec := "fnExactEditDistance", unfollowed := true, recurses := true, apart := false, narrowed := true }
def FnExactEditDistanceUptoSaid : Prop := fnExactEditDistanceUptoRow.holds Try.pinned (OpenSpec.upto fnExactEditDistanceSpec)

/-- 'laws.FnExactEditPath', WHERE WHAT IT READS IS OF BULK AT MOST 1048576: true; the input reads as it did. -/
def fnExactEditPathUptoRow : OpenClaim := { program := "ytddhommmokdlnaa", sum := "d5e727529a707f236f3d2c2500daabcf951af00db2890143565cbb77e2bb9340", func := "loop.example/g01033/laws.FnExactEditPath", spec := "fnExactEditPath", unfollowed := true, recurses := true, apart := false, narrowed := true }
def FnExactEditPathUptoSaid : Prop := fnExactEditPathUptoRow.holds Try.pinned (OpenSpec.upto fnExactEditPathSpec)

end Rows
end Go.Proofs.Ytddhommmokdlnaa
