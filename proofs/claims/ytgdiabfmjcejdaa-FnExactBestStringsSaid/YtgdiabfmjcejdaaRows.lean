/-
  No cell of these rows narrows 'for every input' (looked for: loops, veiled, ifaces, maps, wideKeys, modest, calm, conditions, laid).
  DERIVED. THE GIVEN ROWS OF THIS SEAT. 5 by the template 'for every input the law returns true; each argument reads behind the call as it read before'; 0 by the template 'total and deterministic' (their statements: YtgdiabfmjcejdaaTotals.lean).
  GIVEN WITH THE SEED: the statements are not yours to turn. If you find one false, say at which input.
  Laid BY PROGRAM, IN A SANDBOX (cutbox-rows.mjs): the forced cells as the released guide's own fill.sh prints them over the translation bc165dfa1498658e… (all of the seat's roots in one cut). By AI agents, Wed Nov 11 2026. No macro, syntax, notation, axiom, sorry.
-/
import Derived.Test.YtgdiabfmjcejdaaChecked
import GoSem.Claim
import GoSem.ClaimJoined
import GoSem.ClaimMapViews
import Derived.JoinedTies
import Derived.KernelRfl
namespace Go.Proofs.Ytgdiabfmjcejdaa
/- THE CELL 'sum', in the pinned program and in every row, IS THE sha256 OF THE DUMP (.gsa) THAT YtgdiabfmjcejdaaProg.lean LOADS. Nothing in Lean hashes anything: it is a label: what it is worth is what the hold of that sum in a sandbox is worth. -/
noncomputable def Try.pinned : Pinned := { name := "ytgdiabfmjcejdaa", sum := "bc165dfa1498658e9baf4fddf8ed29c3d61d1ca62c6cd585ab6db0c5efe85be6", checked := Try.checked }
namespace Rows
def none {H : Type} : Left H := { results := [], args := [] }

/-- 'laws.FnExactJoinTalas': WHATEVER THE INPUT: true; the input reads as it did. -/
def fnExactJoinTalasSpec : ChangeSpec := { name := "fnExactJoinTalas", fn := fun _ => fun
  | [d1, d2, d3] => { results := [.lit (.bool true)], args := [d1, d2, d3] }
  | _ => none }
def fnExactJoinTalasRow : OpenClaim := { program := "ytgdiabfmjcejdaa", sum := "bc165dfa1498658e9baf4fddf8ed29c3d61d1ca62c6cd585ab6db0c5efe85be6", func := "loop.example/g01033/laws.FnExactJoinTalas", spec := "fnExactJoinTalas", unfollowed := true, recurses := true, apart := false }
def FnExactJoinTalasSaid : Prop := fnExactJoinTalasRow.holds Try.pinned (OpenSpec.ofChange fnExactJoinTalasSpec)

/-- ITS FALSE NEIGHBOUR: 'it returns false'. Refute it at one input. -/
def fnExactJoinTalasWrong : ChangeSpec := { name := "fnExactJoinTalas", fn := fun _ => fun
  | [d1, d2, d3] => { results := [.lit (.bool false)], args := [d1, d2, d3] }
  | _ => none }
def FnExactJoinTalasWrongFalsely : Prop := fnExactJoinTalasRow.holds Try.pinned (OpenSpec.ofChange fnExactJoinTalasWrong)

/-- 'laws.FnExactNumberedPermutation': WHATEVER THE INPUT: true; the input reads as it did. -/
def fnExactNumberedPermutationSpec : ChangeSpec := { name := "fnExactNumberedPermutation", fn := fun _ => fun
  | [d1, d2] => { results := [.lit (.bool true)], args := [d1, d2] }
  | _ => none }
def fnExactNumberedPermutationRow : OpenClaim := { program := "ytgdiabfmjcejdaa", sum := "bc165dfa1498658e9baf4fddf8ed29c3d61d1ca62c6cd585ab6db0c5efe85be6", func := "loop.example/g01033/laws.FnExactNumberedPermutation", spec := "fnExactNumberedPermutation", unfollowed := true, recurses := true, apart := false }
def FnExactNumberedPermutationSaid : Prop := fnExactNumberedPermutationRow.holds Try.pinned (OpenSpec.ofChange fnExactNumberedPermutationSpec)

/-- ITS FALSE NEIGHBOUR: 'it returns false'. Refute it at one input. -/
def fnExactNumberedPermutationWrong : ChangeSpec := { name := "fnExactNumberedPermutation", fn := fun _ => fun
  | [d1, d2] => { results := [.lit (.bool false)], args := [d1, d2] }
  | _ => none }
def FnExactNumberedPermutationWrongFalsely : Prop := fnExactNumberedPermutationRow.holds Try.pinned (OpenSpec.ofChange fnExactNumberedPermutationWrong)

/-- 'laws.FnExactNextPermutation': WHATEVER THE INPUT: true; the input reads as it did. -/
def fnExactNextPermutationSpec : ChangeSpec := { name := "fnExactNextPermutation", fn := fun _ => fun
  | [d] => { results := [.lit (.bool true)], args := [d] }
  | _ => none }
def fnExactNextPermutationRow : OpenClaim := { program := "ytgdiabfmjcejdaa", sum := "bc165dfa1498658e9baf4fddf8ed29c3d61d1ca62c6cd585ab6db0c5efe85be6", func := "loop.example/g01033/laws.FnExactNextPermutation", spec := "fnExactNextPermutation", unfollowed := true, recurses := true, apart := false }
def FnExactNextPermutationSaid : Prop := fnExactNextPermutationRow.holds Try.pinned (OpenSpec.ofChange fnExactNextPermutationSpec)

/-- ITS FALSE NEIGHBOUR: 'it returns false'. Refute it at one input. -/
def fnExactNextPermutationWrong : ChangeSpec := { name := "fnExactNextPermutation", fn := fun _ => fun
  | [d] => { results := [.lit (.bool false)], args := [d] }
  | _ => none }
def FnExactNextPermutationWrongFalsely : Prop := fnExactNextPermutationRow.holds Try.pinned (OpenSpec.ofChange fnExactNextPermutationWrong)

/-- 'laws.FnExactCountProgrammes': WHATEVER THE INPUT: true; the input reads as it did. -/
def fnExactCountProgrammesSpec : ChangeSpec := { name := "fnExactCountProgrammes", fn := fun _ => fun
  | [d1, d2, d3, d4, d5] => { results := [.lit (.bool true)], args := [d1, d2, d3, d4, d5] }
  | _ => none }
def fnExactCountProgrammesRow : OpenClaim := { program := "ytgdiabfmjcejdaa", sum := "bc165dfa1498658e9baf4fddf8ed29c3d61d1ca62c6cd585ab6db0c5efe85be6", func := "loop.example/g01033/laws.FnExactCountProgrammes", spec := "fnExactCountProgrammes", recurses := true, apart := false }
def FnExactCountProgrammesSaid : Prop := fnExactCountProgrammesRow.holds Try.pinned (OpenSpec.ofChange fnExactCountProgrammesSpec)

/-- ITS FALSE NEIGHBOUR: 'it returns false'. Refute it at one input. -/
def fnExactCountProgrammesWrong : ChangeSpec := { name := "fnExactCountProgrammes", fn := fun _ => fun
  | [d1, d2, d3, d4, d5] => { results := [.lit (.bool false)], args := [d1, d2, d3, d4, d5] }
  | _ => none }
def FnExactCountProgrammesWrongFalsely : Prop := fnExactCountProgrammesRow.holds Try.pinned (OpenSpec.ofChange fnExactCountProgrammesWrong)

/-- 'laws.FnExactBestStrings': WHATEVER THE INPUT: true; the input reads as it did. -/
def fnExactBestStringsSpec : ChangeSpec := { name := "fnExactBestStrings", fn := fun _ => fun
  | [d1, d2] => { results := [.lit (.bool true)], args := [d1, d2] }
  | _ => none }
def fnExactBestStringsRow : OpenClaim := { program := "ytgdiabfmjcejdaa", sum := "bc165dfa1498658e9baf4fddf8ed29c3d61d1ca62c6cd585ab6db0c5efe85be6", func := "loop.example/g01033/laws.FnExactBestStrings", spec := "fnExactBestStrings", unfollowed := true, recurses := true, apart := false }
def FnExactBestStringsSaid : Prop := fnExactBestStringsRow.holds Try.pinned (OpenSpec.ofChange fnExactBestStringsSpec)

/-- ITS FALSE NEIGHBOUR: 'it returns false'. Refute it at one input. -/
def fnExactBestStringsWrong : ChangeSpec := { name := "fnExactBestStrings", fn := fun _ => fun
  | [d1, d2] => { results := [.lit (.bool false)], args := [d1, d2] }
  | _ => none }
def FnExactBestStringsWrongFalsely : Prop := fnExactBestStringsRow.holds Try.pinned (OpenSpec.ofChange fnExactBestStringsWrong)

/- THE SECOND FORM. 'bulk': how many values and letters a reading holds, each counted each time it is reached (what is shared counts as often as it is met; a slice's spare places count too). A statement '..UptoSaid' is the law's where the arguments, and the package variables that the reading takes, are together of bulk at most 1048576: NARROWER than '..Said'. Prove '..Said' where nothing that the law and all that it calls make is longer than what came in: it says more and counts as full. Else prove '..UptoSaid'. A law counts once. -/
mutual
def uptoBulk {H : Type} : DataW H → Nat
  | .lit (.string bytes) => bytes.length + 1
  | .lit _ => 1
  | .nil => 1
  | .ptr d => uptoBulk d + 1
  | .slice elems spare => uptoBulkAll elems + uptoBulkAll spare + 1
  | .agg parts => uptoBulkAll parts + 1
  | .iface _ d => uptoBulk d + 1
  | .map entries => uptoBulkEntries entries + 1
  | .held _ => 1
def uptoBulkAll {H : Type} : List (DataW H) → Nat
  | [] => 0
  | d :: r => uptoBulk d + uptoBulkAll r
def uptoBulkEntries {H : Type} : List (Lit × DataW H) → Nat
  | [] => 0
  | x :: r => uptoBulkEntry x + uptoBulkEntries r
def uptoBulkEntry {H : Type} : Lit × DataW H → Nat
  | (.string bytes, d) => bytes.length + uptoBulk d + 1
  | (_, d) => uptoBulk d + 1
 end
def uptoSmall : (H : Type) → List (DataW H) → Bool := fun _ ds => decide (uptoBulkAll ds ≤ 1048576)
def OpenSpec.upto (s : _root_.Go.ChangeSpec) : _root_.Go.OpenSpec := { _root_.Go.OpenSpec.ofChange s with cond := some uptoSmall }

/-- 'laws.FnExactJoinTalas', WHERE WHAT IT READS IS OF BULK AT MOST 1048576: true; the input reads as it did. -/
def fnExactJoinTalasUptoRow : OpenClaim := { program := "ytgdiabfmjcejdaa", sum := "bc165dfa1498658e9baf4fddf8ed29c3d61d1ca62c6cd585ab6db0c5efe85be6", func := "loop.example/g01033/laws.FnExactJoinTalas", spec := "fnExactJoinTalas", unfollowed := true, recurses := true, apart := false, narrowed := true }
def FnExactJoinTalasUptoSaid : Prop := fnExactJoinTalasUptoRow.holds Try.pinned (OpenSpec.upto fnExactJoinTalasSpec)

/-- 'laws.FnExactNumberedPermutation', WHERE WHAT IT READS IS OF BULK AT MOST 1048576: true; the input reads as it did. -/
def fnExactNumberedPermutationUptoRow : OpenClaim := { program := "ytgdiabfmjcejdaa", sum := "bc165dfa1498658e9baf4fddf8ed29c3d61d1ca62c6cd585ab6db0c5efe85be6", func := "loop.example/g01033/laws.FnExactNumberedPermutation", spec := "fnExactNumberedPermutation", unfollowed := true, recurses := true, apart := false, narrowed := true }
def FnExactNumberedPermutationUptoSaid : Prop := fnExactNumberedPermutationUptoRow.holds Try.pinned (OpenSpec.upto fnExactNumberedPermutationSpec)

/-- 'laws.FnExactNextPermutation', WHERE WHAT IT READS IS OF BULK AT MOST 1048576: true; the input reads as it did. -/
def fnExactNextPermutationUptoRow : OpenClaim := { program := "ytgdiabfmjcejdaa", sum := "bc165dfa1498658e9baf4fddf8ed29c3d61d1ca62c6cd585ab6db0c5efe85be6", func := "loop.example/g01033/laws.FnExactNextPermutation", spec := "fnExactNextPermutation", unfollowed := true, recurses := true, apart := false, narrowed := true }
def FnExactNextPermutationUptoSaid : Prop := fnExactNextPermutationUptoRow.holds Try.pinned (OpenSpec.upto fnExactNextPermutationSpec)

/-- 'laws.FnExactCountProgrammes', WHERE WHAT IT READS IS OF BULK AT MOST 1048576: true; the input reads as it did. -/
def fnExactCountProgrammesUptoRow : OpenClaim := { program := "ytgdiabfmjcejdaa", sum := "bc165dfa1498658e9baf4fddf8ed29c3d61d1ca62c6cd585ab6db0c5efe85be6", func := "loop.example/g01033/laws.FnExactCountProgrammes", spec := "fnExactCountProgrammes", recurses := true, apart := false, narrowed := true }
def FnExactCountProgrammesUptoSaid : Prop := fnExactCountProgrammesUptoRow.holds Try.pinned (OpenSpec.upto fnExactCountProgrammesSpec)

/-- 'laws.FnExactBestStrings', WHERE WHAT IT READS IS OF BULK AT MOST 1048576: true; the input reads as it did. -/
def fnExactBestStringsUptoRow : OpenClaim := { program := "ytgdiabfmjcejdaa", sum := "bc165dfa1498658e9baf4fddf8ed29c3d61d1ca62c6cd585ab6db0c5efe85be6", func := "loop.example/g01033/laws.FnExactBestStrings", spec := "fnExactBestStrings", unfollowed := true, recurses := true, apart := false, narrowed := true }
def FnExactBestStringsUptoSaid : Prop := fnExactBestStringsUptoRow.holds Try.pinned (OpenSpec.upto fnExactBestStringsSpec)

end Rows
end Go.Proofs.Ytgdiabfmjcejdaa
