/-
  No cell of these rows narrows 'for every input' (looked for: loops, veiled, ifaces, maps, wideKeys, modest, calm, conditions, laid).
  DERIVED. THE GIVEN ROWS OF THIS SEAT. 12 by the template 'for every input the law returns true; each argument reads behind the call as it read before'; 0 by the template 'total and deterministic' (their statements: YthpcepojkhjlfaaTotals.lean).
  GIVEN WITH THE SEED: the statements are not yours to turn. If you find one false, say at which input.
  Laid BY PROGRAM, IN A SANDBOX (cutbox-rows.mjs): the forced cells as the released guide's own fill.sh prints them over the translation d3b724794c868899… (all of the seat's roots in one cut). By AI agents, Wed Nov 11 2026. No macro, syntax, notation, axiom, sorry.
-/
import Derived.Test.YthpcepojkhjlfaaChecked
import GoSem.Claim
import GoSem.ClaimJoined
import GoSem.ClaimMapViews
import Derived.JoinedTies
import Derived.KernelRfl
namespace Go.Proofs.Ythpcepojkhjlfaa
/- THE CELL 'sum', in the pinned program and in every row, IS THE sha256 OF THE DUMP (.gsa) THAT YthpcepojkhjlfaaProg.lean LOADS. Nothing in Lean hashes anything: it is a label: what it is worth is what the hold of that sum in a sandbox is worth. -/
noncomputable def Try.pinned : Pinned := { name := "ythpcepojkhjlfaa", sum := "d3b724794c86889982071f7a4bf2cac9a80787b9866b52fc3763047ed9564dd7", checked := Try.checked }
namespace Rows
def none {H : Type} : Left H := { results := [], args := [] }

/-- 'laws.FnExactValidTala': WHATEVER THE INPUT: true; the input reads as it did. -/
def fnExactValidTalaSpec : ChangeSpec := { name := "fnExactValidTala", fn := fun _ => fun
  | [d] => { results := [.lit (.bool true)], args := [d] }
  | _ => none }
def fnExactValidTalaRow : OpenClaim := { program := "ythpcepojkhjlfaa", sum := "d3b724794c86889982071f7a4bf2cac9a80787b9866b52fc3763047ed9564dd7", func := "loop.example/g01033/laws.FnExactValidTala", spec := "fnExactValidTala", unfollowed := true, recurses := true, apart := false }
def FnExactValidTalaSaid : Prop := fnExactValidTalaRow.holds Try.pinned (OpenSpec.ofChange fnExactValidTalaSpec)

/-- ITS FALSE NEIGHBOUR: 'it returns false'. Refute it at one input. -/
def fnExactValidTalaWrong : ChangeSpec := { name := "fnExactValidTala", fn := fun _ => fun
  | [d] => { results := [.lit (.bool false)], args := [d] }
  | _ => none }
def FnExactValidTalaWrongFalsely : Prop := fnExactValidTalaRow.holds Try.pinned (OpenSpec.ofChange fnExactValidTalaWrong)

/-- 'laws.FnExactBeatCount': WHATEVER THE INPUT: true; the input reads as it did. -/
def fnExactBeatCountSpec : ChangeSpec := { name := "fnExactBeatCount", fn := fun _ => fun
  | [d] => { results := [.lit (.bool true)], args := [d] }
  | _ => none }
def fnExactBeatCountRow : OpenClaim := { program := "ythpcepojkhjlfaa", sum := "d3b724794c86889982071f7a4bf2cac9a80787b9866b52fc3763047ed9564dd7", func := "loop.example/g01033/laws.FnExactBeatCount", spec := "fnExactBeatCount", unfollowed := true, recurses := true, apart := false }
def FnExactBeatCountSaid : Prop := fnExactBeatCountRow.holds Try.pinned (OpenSpec.ofChange fnExactBeatCountSpec)

/-- ITS FALSE NEIGHBOUR: 'it returns false'. Refute it at one input. -/
def fnExactBeatCountWrong : ChangeSpec := { name := "fnExactBeatCount", fn := fun _ => fun
  | [d] => { results := [.lit (.bool false)], args := [d] }
  | _ => none }
def FnExactBeatCountWrongFalsely : Prop := fnExactBeatCountRow.holds Try.pinned (OpenSpec.ofChange fnExactBeatCountWrong)

/-- 'laws.FnExactCyclesIn': WHATEVER THE INPUT: true; the input reads as it did. -/
def fnExactCyclesInSpec : ChangeSpec := { name := "fnExactCyclesIn", fn := fun _ => fun
  | [d1, d2] => { results := [.lit (.bool true)], args := [d1, d2] }
  | _ => none }
def fnExactCyclesInRow : OpenClaim := { program := "ythpcepojkhjlfaa", sum := "d3b724794c86889982071f7a4bf2cac9a80787b9866b52fc3763047ed9564dd7", func := "loop.example/g01033/laws.FnExactCyclesIn", spec := "fnExactCyclesIn", unfollowed := true, recurses := true, apart := false }
def FnExactCyclesInSaid : Prop := fnExactCyclesInRow.holds Try.pinned (OpenSpec.ofChange fnExactCyclesInSpec)

/-- ITS FALSE NEIGHBOUR: 'it returns false'. Refute it at one input. -/
def fnExactCyclesInWrong : ChangeSpec := { name := "fnExactCyclesIn", fn := fun _ => fun
  | [d1, d2] => { results := [.lit (.bool false)], args := [d1, d2] }
  | _ => none }
def FnExactCyclesInWrongFalsely : Prop := fnExactCyclesInRow.holds Try.pinned (OpenSpec.ofChange fnExactCyclesInWrong)

/-- 'laws.FnExactCommonCycle': WHATEVER THE INPUT: true; the input reads as it did. -/
def fnExactCommonCycleSpec : ChangeSpec := { name := "fnExactCommonCycle", fn := fun _ => fun
  | [d1, d2] => { results := [.lit (.bool true)], args := [d1, d2] }
  | _ => none }
def fnExactCommonCycleRow : OpenClaim := { program := "ythpcepojkhjlfaa", sum := "d3b724794c86889982071f7a4bf2cac9a80787b9866b52fc3763047ed9564dd7", func := "loop.example/g01033/laws.FnExactCommonCycle", spec := "fnExactCommonCycle", unfollowed := true, recurses := true, apart := false }
def FnExactCommonCycleSaid : Prop := fnExactCommonCycleRow.holds Try.pinned (OpenSpec.ofChange fnExactCommonCycleSpec)

/-- ITS FALSE NEIGHBOUR: 'it returns false'. Refute it at one input. -/
def fnExactCommonCycleWrong : ChangeSpec := { name := "fnExactCommonCycle", fn := fun _ => fun
  | [d1, d2] => { results := [.lit (.bool false)], args := [d1, d2] }
  | _ => none }
def FnExactCommonCycleWrongFalsely : Prop := fnExactCommonCycleRow.holds Try.pinned (OpenSpec.ofChange fnExactCommonCycleWrong)

/-- 'laws.FnExactBeatsToSam': WHATEVER THE INPUT: true; the input reads as it did. -/
def fnExactBeatsToSamSpec : ChangeSpec := { name := "fnExactBeatsToSam", fn := fun _ => fun
  | [d1, d2] => { results := [.lit (.bool true)], args := [d1, d2] }
  | _ => none }
def fnExactBeatsToSamRow : OpenClaim := { program := "ythpcepojkhjlfaa", sum := "d3b724794c86889982071f7a4bf2cac9a80787b9866b52fc3763047ed9564dd7", func := "loop.example/g01033/laws.FnExactBeatsToSam", spec := "fnExactBeatsToSam", unfollowed := true, recurses := true, apart := false }
def FnExactBeatsToSamSaid : Prop := fnExactBeatsToSamRow.holds Try.pinned (OpenSpec.ofChange fnExactBeatsToSamSpec)

/-- ITS FALSE NEIGHBOUR: 'it returns false'. Refute it at one input. -/
def fnExactBeatsToSamWrong : ChangeSpec := { name := "fnExactBeatsToSam", fn := fun _ => fun
  | [d1, d2] => { results := [.lit (.bool false)], args := [d1, d2] }
  | _ => none }
def FnExactBeatsToSamWrongFalsely : Prop := fnExactBeatsToSamRow.holds Try.pinned (OpenSpec.ofChange fnExactBeatsToSamWrong)

/-- 'laws.FnExactBeatAfter': WHATEVER THE INPUT: true; the input reads as it did. -/
def fnExactBeatAfterSpec : ChangeSpec := { name := "fnExactBeatAfter", fn := fun _ => fun
  | [d1, d2, d3] => { results := [.lit (.bool true)], args := [d1, d2, d3] }
  | _ => none }
def fnExactBeatAfterRow : OpenClaim := { program := "ythpcepojkhjlfaa", sum := "d3b724794c86889982071f7a4bf2cac9a80787b9866b52fc3763047ed9564dd7", func := "loop.example/g01033/laws.FnExactBeatAfter", spec := "fnExactBeatAfter", unfollowed := true, recurses := true, apart := false }
def FnExactBeatAfterSaid : Prop := fnExactBeatAfterRow.holds Try.pinned (OpenSpec.ofChange fnExactBeatAfterSpec)

/-- ITS FALSE NEIGHBOUR: 'it returns false'. Refute it at one input. -/
def fnExactBeatAfterWrong : ChangeSpec := { name := "fnExactBeatAfter", fn := fun _ => fun
  | [d1, d2, d3] => { results := [.lit (.bool false)], args := [d1, d2, d3] }
  | _ => none }
def FnExactBeatAfterWrongFalsely : Prop := fnExactBeatAfterRow.holds Try.pinned (OpenSpec.ofChange fnExactBeatAfterWrong)

/-- 'laws.FnExactSectionAt': WHATEVER THE INPUT: true; the input reads as it did. -/
def fnExactSectionAtSpec : ChangeSpec := { name := "fnExactSectionAt", fn := fun _ => fun
  | [d1, d2] => { results := [.lit (.bool true)], args := [d1, d2] }
  | _ => none }
def fnExactSectionAtRow : OpenClaim := { program := "ythpcepojkhjlfaa", sum := "d3b724794c86889982071f7a4bf2cac9a80787b9866b52fc3763047ed9564dd7", func := "loop.example/g01033/laws.FnExactSectionAt", spec := "fnExactSectionAt", unfollowed := true, recurses := true, apart := false }
def FnExactSectionAtSaid : Prop := fnExactSectionAtRow.holds Try.pinned (OpenSpec.ofChange fnExactSectionAtSpec)

/-- ITS FALSE NEIGHBOUR: 'it returns false'. Refute it at one input. -/
def fnExactSectionAtWrong : ChangeSpec := { name := "fnExactSectionAt", fn := fun _ => fun
  | [d1, d2] => { results := [.lit (.bool false)], args := [d1, d2] }
  | _ => none }
def FnExactSectionAtWrongFalsely : Prop := fnExactSectionAtRow.holds Try.pinned (OpenSpec.ofChange fnExactSectionAtWrong)

/-- 'laws.FnExactMarkAt': WHATEVER THE INPUT: true; the input reads as it did. -/
def fnExactMarkAtSpec : ChangeSpec := { name := "fnExactMarkAt", fn := fun _ => fun
  | [d1, d2] => { results := [.lit (.bool true)], args := [d1, d2] }
  | _ => none }
def fnExactMarkAtRow : OpenClaim := { program := "ythpcepojkhjlfaa", sum := "d3b724794c86889982071f7a4bf2cac9a80787b9866b52fc3763047ed9564dd7", func := "loop.example/g01033/laws.FnExactMarkAt", spec := "fnExactMarkAt", unfollowed := true, recurses := true, apart := false }
def FnExactMarkAtSaid : Prop := fnExactMarkAtRow.holds Try.pinned (OpenSpec.ofChange fnExactMarkAtSpec)

/-- ITS FALSE NEIGHBOUR: 'it returns false'. Refute it at one input. -/
def fnExactMarkAtWrong : ChangeSpec := { name := "fnExactMarkAt", fn := fun _ => fun
  | [d1, d2] => { results := [.lit (.bool false)], args := [d1, d2] }
  | _ => none }
def FnExactMarkAtWrongFalsely : Prop := fnExactMarkAtRow.holds Try.pinned (OpenSpec.ofChange fnExactMarkAtWrong)

/-- 'laws.FnExactJoinTalas': WHATEVER THE INPUT: true; the input reads as it did. -/
def fnExactJoinTalasSpec : ChangeSpec := { name := "fnExactJoinTalas", fn := fun _ => fun
  | [d1, d2, d3] => { results := [.lit (.bool true)], args := [d1, d2, d3] }
  | _ => none }
def fnExactJoinTalasRow : OpenClaim := { program := "ythpcepojkhjlfaa", sum := "d3b724794c86889982071f7a4bf2cac9a80787b9866b52fc3763047ed9564dd7", func := "loop.example/g01033/laws.FnExactJoinTalas", spec := "fnExactJoinTalas", unfollowed := true, recurses := true, apart := false }
def FnExactJoinTalasSaid : Prop := fnExactJoinTalasRow.holds Try.pinned (OpenSpec.ofChange fnExactJoinTalasSpec)

/-- ITS FALSE NEIGHBOUR: 'it returns false'. Refute it at one input. -/
def fnExactJoinTalasWrong : ChangeSpec := { name := "fnExactJoinTalas", fn := fun _ => fun
  | [d1, d2, d3] => { results := [.lit (.bool false)], args := [d1, d2, d3] }
  | _ => none }
def FnExactJoinTalasWrongFalsely : Prop := fnExactJoinTalasRow.holds Try.pinned (OpenSpec.ofChange fnExactJoinTalasWrong)

/-- 'laws.FnExactBeatsWith': WHATEVER THE INPUT: true; the input reads as it did. -/
def fnExactBeatsWithSpec : ChangeSpec := { name := "fnExactBeatsWith", fn := fun _ => fun
  | [d1, d2] => { results := [.lit (.bool true)], args := [d1, d2] }
  | _ => none }
def fnExactBeatsWithRow : OpenClaim := { program := "ythpcepojkhjlfaa", sum := "d3b724794c86889982071f7a4bf2cac9a80787b9866b52fc3763047ed9564dd7", func := "loop.example/g01033/laws.FnExactBeatsWith", spec := "fnExactBeatsWith", unfollowed := true, recurses := true, apart := false }
def FnExactBeatsWithSaid : Prop := fnExactBeatsWithRow.holds Try.pinned (OpenSpec.ofChange fnExactBeatsWithSpec)

/-- ITS FALSE NEIGHBOUR: 'it returns false'. Refute it at one input. -/
def fnExactBeatsWithWrong : ChangeSpec := { name := "fnExactBeatsWith", fn := fun _ => fun
  | [d1, d2] => { results := [.lit (.bool false)], args := [d1, d2] }
  | _ => none }
def FnExactBeatsWithWrongFalsely : Prop := fnExactBeatsWithRow.holds Try.pinned (OpenSpec.ofChange fnExactBeatsWithWrong)

/-- 'laws.FnExactValidAsk': WHATEVER THE INPUT: true; the input reads as it did. -/
def fnExactValidAskSpec : ChangeSpec := { name := "fnExactValidAsk", fn := fun _ => fun
  | [d] => { results := [.lit (.bool true)], args := [d] }
  | _ => none }
def fnExactValidAskRow : OpenClaim := { program := "ythpcepojkhjlfaa", sum := "d3b724794c86889982071f7a4bf2cac9a80787b9866b52fc3763047ed9564dd7", func := "loop.example/g01033/laws.FnExactValidAsk", spec := "fnExactValidAsk", unfollowed := true, recurses := true, apart := false }
def FnExactValidAskSaid : Prop := fnExactValidAskRow.holds Try.pinned (OpenSpec.ofChange fnExactValidAskSpec)

/-- ITS FALSE NEIGHBOUR: 'it returns false'. Refute it at one input. -/
def fnExactValidAskWrong : ChangeSpec := { name := "fnExactValidAsk", fn := fun _ => fun
  | [d] => { results := [.lit (.bool false)], args := [d] }
  | _ => none }
def FnExactValidAskWrongFalsely : Prop := fnExactValidAskRow.holds Try.pinned (OpenSpec.ofChange fnExactValidAskWrong)

/-- 'laws.FnExactFittingAt': WHATEVER THE INPUT: true; the input reads as it did. -/
def fnExactFittingAtSpec : ChangeSpec := { name := "fnExactFittingAt", fn := fun _ => fun
  | [d1, d2, d3] => { results := [.lit (.bool true)], args := [d1, d2, d3] }
  | _ => none }
def fnExactFittingAtRow : OpenClaim := { program := "ythpcepojkhjlfaa", sum := "d3b724794c86889982071f7a4bf2cac9a80787b9866b52fc3763047ed9564dd7", func := "loop.example/g01033/laws.FnExactFittingAt", spec := "fnExactFittingAt", apart := false }
def FnExactFittingAtSaid : Prop := fnExactFittingAtRow.holds Try.pinned (OpenSpec.ofChange fnExactFittingAtSpec)

/-- ITS FALSE NEIGHBOUR: 'it returns false'. Refute it at one input. -/
def fnExactFittingAtWrong : ChangeSpec := { name := "fnExactFittingAt", fn := fun _ => fun
  | [d1, d2, d3] => { results := [.lit (.bool false)], args := [d1, d2, d3] }
  | _ => none }
def FnExactFittingAtWrongFalsely : Prop := fnExactFittingAtRow.holds Try.pinned (OpenSpec.ofChange fnExactFittingAtWrong)

/- THE SECOND FORM. 'bulk': how many values and letters a reading holds, each counted each time it is reached (what is shared counts as often as it is met; a slice's spare places count too). A statement '..UptoSaid' is the law's where the arguments, and the package variables that the reading takes, are together of bulk at most 1048576: NARROWER than '..Said'. Prove '..Said' where nothing that the law and all that it calls make is longer than what came in: it says more and counts as full. Else prove '..UptoSaid'. A law counts once. -/
mutual
def uptoBulk {H : Type} : DataW H → Nat
  | .lit (.string bytes) => bytes.length + 1
  | .lit _ => 1
  | .nil => 1
  | .ptr d => uptoBulk d + 1
  | .slice elems spare => uptoBulkAll elems + uptoBulkAll spare + 1
  | .agg parts => uptoBulkAll parts + 1
  | .iface _ d => uptoBulk d + 1
  | .map entries => uptoBulkEntries entries + 1
  | .held _ => 1
def uptoBulkAll {H : Type} : List (DataW H) → Nat
  | [] => 0
  | d :: r => uptoBulk d + uptoBulkAll r
def uptoBulkEntries {H : Type} : List (Lit × DataW H) → Nat
  | [] => 0
  | x :: r => uptoBulkEntry x + uptoBulkEntries r
def uptoBulkEntry {H : Type} : Lit × DataW H → Nat
  | (.string bytes, d) => bytes.length + uptoBulk d + 1
  | (_, d) => uptoBulk d + 1
 end
def uptoSmall : (H : Type) → List (DataW H) → Bool := fun _ ds => decide (uptoBulkAll ds ≤ 1048576)
def OpenSpec.upto (s : _root_.Go.ChangeSpec) : _root_.Go.OpenSpec := { _root_.Go.OpenSpec.ofChange s with cond := some uptoSmall }

/-- 'laws.FnExactValidTala', WHERE WHAT IT READS IS OF BULK AT MOST 1048576: true; the input reads as it did. -/
def fnExactValidTalaUptoRow : OpenClaim := { program := "ythpcepojkhjlfaa", sum := "d3b724794c86889982071f7a4bf2cac9a80787b9866b52fc3763047ed9564dd7", func := "loop.example/g01033/laws.FnExactValidTala", spec := "fnExactValidTala", unfollowed := true, recurses := true, apart := false, narrowed := true }
def FnExactValidTalaUptoSaid : Prop := fnExactValidTalaUptoRow.holds Try.pinned (OpenSpec.upto fnExactValidTalaSpec)

/-- 'laws.FnExactBeatCount', WHERE WHAT IT READS IS OF BULK AT MOST 1048576: true; the input reads as it did. -/
def fnExactBeatCountUptoRow : OpenClaim := { program := "ythpcepojkhjlfaa", sum := "d3b724794c86889982071f7a4bf2cac9a80787b9866b52fc3763047ed9564dd7", func := "loop.example/g01033/laws.FnExactBeatCount", spec := "fnExactBeatCount", unfollowed := true, recurses := true, apart := false, narrowed := true }
def FnExactBeatCountUptoSaid : Prop := fnExactBeatCountUptoRow.holds Try.pinned (OpenSpec.upto fnExactBeatCountSpec)

/-- 'laws.FnExactCyclesIn', WHERE WHAT IT READS IS OF BULK AT MOST 1048576: true; the input reads as it did. -/
def fnExactCyclesInUptoRow : OpenClaim := { program := "ythpcepojkhjlfaa", sum := "d3b724794c86889982071f7a4bf2cac9a80787b9866b52fc3763047ed9564dd7", func := "loop.example/g01033/laws.FnExactCyclesIn", spec := "fnExactCyclesIn", unfollowed := true, recurses := true, apart := false, narrowed := true }
def FnExactCyclesInUptoSaid : Prop := fnExactCyclesInUptoRow.holds Try.pinned (OpenSpec.upto fnExactCyclesInSpec)

/-- 'laws.FnExactCommonCycle', WHERE WHAT IT READS IS OF BULK AT MOST 1048576: true; the input reads as it did. -/
def fnExactCommonCycleUptoRow : OpenClaim := { program := "ythpcepojkhjlfaa", sum := "d3b724794c86889982071f7a4bf2cac9a80787b9866b52fc3763047ed9564dd7", func := "loop.example/g01033/laws.FnExactCommonCycle", spec := "fnExactCommonCycle", unfollowed := true, recurses := true, apart := false, narrowed := true }
def FnExactCommonCycleUptoSaid : Prop := fnExactCommonCycleUptoRow.holds Try.pinned (OpenSpec.upto fnExactCommonCycleSpec)

/-- 'laws.FnExactBeatsToSam', WHERE WHAT IT READS IS OF BULK AT MOST 1048576: true; the input reads as it did. -/
def fnExactBeatsToSamUptoRow : OpenClaim := { program := "ythpcepojkhjlfaa", sum := "d3b724794c86889982071f7a4bf2cac9a80787b9866b52fc3763047ed9564dd7", func := "loop.example/g01033/laws.FnExactBeatsToSam", spec := "fnExactBeatsToSam", unfollowed := true, recurses := true, apart := false, narrowed := true }
def FnExactBeatsToSamUptoSaid : Prop := fnExactBeatsToSamUptoRow.holds Try.pinned (OpenSpec.upto fnExactBeatsToSamSpec)

/-- 'laws.FnExactBeatAfter', WHERE WHAT IT READS IS OF BULK AT MOST 1048576: true; the input reads as it did. -/
def fnExactBeatAfterUptoRow : OpenClaim := { program := "ythpcepojkhjlfaa", sum := "d3b724794c86889982071f7a4bf2cac9a80787b9866b52fc3763047ed9564dd7", func := "loop.example/g01033/laws.FnExactBeatAfter", spec := "fnExactBeatAfter", unfollowed := true, recurses := true, apart := false, narrowed := true }
def FnExactBeatAfterUptoSaid : Prop := fnExactBeatAfterUptoRow.holds Try.pinned (OpenSpec.upto fnExactBeatAfterSpec)

/-- 'laws.FnExactSectionAt', WHERE WHAT IT READS IS OF BULK AT MOST 1048576: true; the input reads as it did. -/
def fnExactSectionAtUptoRow : OpenClaim := { program := "ythpcepojkhjlfaa", sum := "d3b724794c86889982071f7a4bf2cac9a80787b9866b52fc3763047ed9564dd7", func := "loop.example/g01033/laws.FnExactSectionAt", spec := "fnExactSectionAt", unfollowed := true, recurses := true, apart := false, narrowed := true }
def FnExactSectionAtUptoSaid : Prop := fnExactSectionAtUptoRow.holds Try.pinned (OpenSpec.upto fnExactSectionAtSpec)

/-- 'laws.FnExactMarkAt', WHERE WHAT IT READS IS OF BULK AT MOST 1048576: true; the input reads as it did. -/
def fnExactMarkAtUptoRow : OpenClaim := { program := "ythpcepojkhjlfaa", sum := "d3b724794c86889982071f7a4bf2cac9a80787b9866b52fc3763047ed9564dd7", func := "loop.example/g01033/laws.FnExactMarkAt", spec := "fnExactMarkAt", unfollowed := true, recurses := true, apart := false, narrowed := true }
def FnExactMarkAtUptoSaid : Prop := fnExactMarkAtUptoRow.holds Try.pinned (OpenSpec.upto fnExactMarkAtSpec)

/-- 'laws.FnExactJoinTalas', WHERE WHAT IT READS IS OF BULK AT MOST 1048576: true; the input reads as it did. -/
def fnExactJoinTalasUptoRow : OpenClaim := { program := "ythpcepojkhjlfaa", sum := "d3b724794c86889982071f7a4bf2cac9a80787b9866b52fc3763047ed9564dd7", func := "loop.example/g01033/laws.FnExactJoinTalas", spec := "fnExactJoinTalas", unfollowed := true, recurses := true, apart := false, narrowed := true }
def FnExactJoinTalasUptoSaid : Prop := fnExactJoinTalasUptoRow.holds Try.pinned (OpenSpec.upto fnExactJoinTalasSpec)

/-- 'laws.FnExactBeatsWith', WHERE WHAT IT READS IS OF BULK AT MOST 1048576: true; the input reads as it did. -/
def fnExactBeatsWithUptoRow : OpenClaim := { program := "ythpcepojkhjlfaa", sum := "d3b724794c86889982071f7a4bf2cac9a80787b9866b52fc3763047ed9564dd7", func := "loop.example/g01033/laws.FnExactBeatsWith", spec := "fnExactBeatsWith", unfollowed := true, recurses := true, apart := false, narrowed := true }
def FnExactBeatsWithUptoSaid : Prop := fnExactBeatsWithUptoRow.holds Try.pinned (OpenSpec.upto fnExactBeatsWithSpec)

/-- 'laws.FnExactValidAsk', WHERE WHAT IT READS IS OF BULK AT MOST 1048576: true; the input reads as it did. -/
def fnExactValidAskUptoRow : OpenClaim := { program := "ythpcepojkhjlfaa", sum := "d3b724794c86889982071f7a4bf2cac9a80787b9866b52fc3763047ed9564dd7", func := "loop.example/g01033/laws.FnExactValidAsk", spec := "fnExactValidAsk", unfollowed := true, recurses := true, apart := false, narrowed := true }
def FnExactValidAskUptoSaid : Prop := fnExactValidAskUptoRow.holds Try.pinned (OpenSpec.upto fnExactValidAskSpec)

/-- 'laws.FnExactFittingAt', WHERE WHAT IT READS IS OF BULK AT MOST 1048576: true; the input reads as it did. -/
def fnExactFittingAtUptoRow : OpenClaim := { program := "ythpcepojkhjlfaa", sum := "d3b724794c86889982071f7a4bf2cac9a80787b9866b52fc3763047ed9564dd7", func := "loop.example/g01033/laws.FnExactFittingAt", spec := "fnExactFittingAt", apart := false, narrowed := true }
def FnExactFittingAtUptoSaid : Prop := fnExactFittingAtUptoRow.holds Try.pinned (OpenSpec.upto fnExactFittingAtSpec)

end Rows
end Go.Proofs.Ythpcepojkhjlfaa
