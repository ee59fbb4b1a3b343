/-
  No cell of these rows narrows 'for every input' (looked for: loops, veiled, ifaces, maps, wideKeys, modest, calm, conditions, laid).
  DERIVED. THE GIVEN ROWS OF THIS SEAT. 12 by the template 'for every input the law returns true; each argument reads behind the call as it read before'; 0 by the template 'total and deterministic' (their statements: YtlgigomahobfbaaTotals.lean).
  GIVEN WITH THE SEED: the statements are not yours to turn. If you find one false, say at which input.
  Laid BY PROGRAM, IN A SANDBOX (cutbox-rows.mjs): the forced cells as the released guide's own fill.sh prints them over the translation f226869656e53691… (all of the seat's roots in one cut). By AI agents, Wed Nov 11 2026. No macro, syntax, notation, axiom, sorry.
-/
import Derived.Test.YtlgigomahobfbaaChecked
import GoSem.Claim
import GoSem.ClaimJoined
import GoSem.ClaimMapViews
import Derived.JoinedTies
import Derived.KernelRfl
namespace Go.Proofs.Ytlgigomahobfbaa
/- THE CELL 'sum', in the pinned program and in every row, IS THE sha256 OF THE DUMP (.gsa) THAT YtlgigomahobfbaaProg.lean LOADS. Nothing in Lean hashes anything: it is a label: what it is worth is what the hold of that sum in a sandbox is worth. -/
noncomputable def Try.pinned : Pinned := { name := "ytlgigomahobfbaa", sum := "f226869656e53691e116e23281253af8b57f81a19659312601afa65853ebce42", checked := Try.checked }
namespace Rows
def none {H : Type} : Left H := { results := [], args := [] }

/-- 'laws.FnExactDroneAt': WHATEVER THE INPUT: true; the input reads as it did. -/
def fnExactDroneAtSpec : ChangeSpec := { name := "fnExactDroneAt", fn := fun _ => fun
  | [d1, d2] => { results := [.lit (.bool true)], args := [d1, d2] }
  | _ => none }
def fnExactDroneAtRow : OpenClaim := { program := "ytlgigomahobfbaa", sum := "f226869656e53691e116e23281253af8b57f81a19659312601afa65853ebce42", func := "loop.example/g01033/laws.FnExactDroneAt", spec := "fnExactDroneAt", apart := false }
def FnExactDroneAtSaid : Prop := fnExactDroneAtRow.holds Try.pinned (OpenSpec.ofChange fnExactDroneAtSpec)

/-- ITS FALSE NEIGHBOUR: 'it returns false'. Refute it at one input. -/
def fnExactDroneAtWrong : ChangeSpec := { name := "fnExactDroneAt", fn := fun _ => fun
  | [d1, d2] => { results := [.lit (.bool false)], args := [d1, d2] }
  | _ => none }
def FnExactDroneAtWrongFalsely : Prop := fnExactDroneAtRow.holds Try.pinned (OpenSpec.ofChange fnExactDroneAtWrong)

/-- 'laws.FnExactResonanceOf': WHATEVER THE INPUT: true; the input reads as it did. -/
def fnExactResonanceOfSpec : ChangeSpec := { name := "fnExactResonanceOf", fn := fun _ => fun
  | [d1, d2] => { results := [.lit (.bool true)], args := [d1, d2] }
  | _ => none }
def fnExactResonanceOfRow : OpenClaim := { program := "ytlgigomahobfbaa", sum := "f226869656e53691e116e23281253af8b57f81a19659312601afa65853ebce42", func := "loop.example/g01033/laws.FnExactResonanceOf", spec := "fnExactResonanceOf", unfollowed := true, recurses := true, apart := false }
def FnExactResonanceOfSaid : Prop := fnExactResonanceOfRow.holds Try.pinned (OpenSpec.ofChange fnExactResonanceOfSpec)

/-- ITS FALSE NEIGHBOUR: 'it returns false'. Refute it at one input. -/
def fnExactResonanceOfWrong : ChangeSpec := { name := "fnExactResonanceOf", fn := fun _ => fun
  | [d1, d2] => { results := [.lit (.bool false)], args := [d1, d2] }
  | _ => none }
def FnExactResonanceOfWrongFalsely : Prop := fnExactResonanceOfRow.holds Try.pinned (OpenSpec.ofChange fnExactResonanceOfWrong)

/-- 'laws.FnExactMelodyConsonance': WHATEVER THE INPUT: true; the input reads as it did. -/
def fnExactMelodyConsonanceSpec : ChangeSpec := { name := "fnExactMelodyConsonance", fn := fun _ => fun
  | [d1, d2] => { results := [.lit (.bool true)], args := [d1, d2] }
  | _ => none }
def fnExactMelodyConsonanceRow : OpenClaim := { program := "ytlgigomahobfbaa", sum := "f226869656e53691e116e23281253af8b57f81a19659312601afa65853ebce42", func := "loop.example/g01033/laws.FnExactMelodyConsonance", spec := "fnExactMelodyConsonance", apart := false }
def FnExactMelodyConsonanceSaid : Prop := fnExactMelodyConsonanceRow.holds Try.pinned (OpenSpec.ofChange fnExactMelodyConsonanceSpec)

/-- ITS FALSE NEIGHBOUR: 'it returns false'. Refute it at one input. -/
def fnExactMelodyConsonanceWrong : ChangeSpec := { name := "fnExactMelodyConsonance", fn := fun _ => fun
  | [d1, d2] => { results := [.lit (.bool false)], args := [d1, d2] }
  | _ => none }
def FnExactMelodyConsonanceWrongFalsely : Prop := fnExactMelodyConsonanceRow.holds Try.pinned (OpenSpec.ofChange fnExactMelodyConsonanceWrong)

/-- 'laws.FnExactBestPhase': WHATEVER THE INPUT: true; the input reads as it did. -/
def fnExactBestPhaseSpec : ChangeSpec := { name := "fnExactBestPhase", fn := fun _ => fun
  | [d1, d2] => { results := [.lit (.bool true)], args := [d1, d2] }
  | _ => none }
def fnExactBestPhaseRow : OpenClaim := { program := "ytlgigomahobfbaa", sum := "f226869656e53691e116e23281253af8b57f81a19659312601afa65853ebce42", func := "loop.example/g01033/laws.FnExactBestPhase", spec := "fnExactBestPhase", apart := false }
def FnExactBestPhaseSaid : Prop := fnExactBestPhaseRow.holds Try.pinned (OpenSpec.ofChange fnExactBestPhaseSpec)

/-- ITS FALSE NEIGHBOUR: 'it returns false'. Refute it at one input. -/
def fnExactBestPhaseWrong : ChangeSpec := { name := "fnExactBestPhase", fn := fun _ => fun
  | [d1, d2] => { results := [.lit (.bool false)], args := [d1, d2] }
  | _ => none }
def FnExactBestPhaseWrongFalsely : Prop := fnExactBestPhaseRow.holds Try.pinned (OpenSpec.ofChange fnExactBestPhaseWrong)

/-- 'laws.FnExactMeanConsonance': WHATEVER THE INPUT: true; the input reads as it did. -/
def fnExactMeanConsonanceSpec : ChangeSpec := { name := "fnExactMeanConsonance", fn := fun _ => fun
  | [d1, d2] => { results := [.lit (.bool true)], args := [d1, d2] }
  | _ => none }
def fnExactMeanConsonanceRow : OpenClaim := { program := "ytlgigomahobfbaa", sum := "f226869656e53691e116e23281253af8b57f81a19659312601afa65853ebce42", func := "loop.example/g01033/laws.FnExactMeanConsonance", spec := "fnExactMeanConsonance", apart := false }
def FnExactMeanConsonanceSaid : Prop := fnExactMeanConsonanceRow.holds Try.pinned (OpenSpec.ofChange fnExactMeanConsonanceSpec)

/-- ITS FALSE NEIGHBOUR: 'it returns false'. Refute it at one input. -/
def fnExactMeanConsonanceWrong : ChangeSpec := { name := "fnExactMeanConsonance", fn := fun _ => fun
  | [d1, d2] => { results := [.lit (.bool false)], args := [d1, d2] }
  | _ => none }
def FnExactMeanConsonanceWrongFalsely : Prop := fnExactMeanConsonanceRow.holds Try.pinned (OpenSpec.ofChange fnExactMeanConsonanceWrong)

/-- 'laws.FnExactRoughUnits': WHATEVER THE INPUT: true; the input reads as it did. -/
def fnExactRoughUnitsSpec : ChangeSpec := { name := "fnExactRoughUnits", fn := fun _ => fun
  | [d1, d2, d3] => { results := [.lit (.bool true)], args := [d1, d2, d3] }
  | _ => none }
def fnExactRoughUnitsRow : OpenClaim := { program := "ytlgigomahobfbaa", sum := "f226869656e53691e116e23281253af8b57f81a19659312601afa65853ebce42", func := "loop.example/g01033/laws.FnExactRoughUnits", spec := "fnExactRoughUnits", apart := false }
def FnExactRoughUnitsSaid : Prop := fnExactRoughUnitsRow.holds Try.pinned (OpenSpec.ofChange fnExactRoughUnitsSpec)

/-- ITS FALSE NEIGHBOUR: 'it returns false'. Refute it at one input. -/
def fnExactRoughUnitsWrong : ChangeSpec := { name := "fnExactRoughUnits", fn := fun _ => fun
  | [d1, d2, d3] => { results := [.lit (.bool false)], args := [d1, d2, d3] }
  | _ => none }
def FnExactRoughUnitsWrongFalsely : Prop := fnExactRoughUnitsRow.holds Try.pinned (OpenSpec.ofChange fnExactRoughUnitsWrong)

/-- 'laws.FnExactBestDrone': WHATEVER THE INPUT: true; the input reads as it did. -/
def fnExactBestDroneSpec : ChangeSpec := { name := "fnExactBestDrone", fn := fun _ => fun
  | [d1, d2] => { results := [.lit (.bool true)], args := [d1, d2] }
  | _ => none }
def fnExactBestDroneRow : OpenClaim := { program := "ytlgigomahobfbaa", sum := "f226869656e53691e116e23281253af8b57f81a19659312601afa65853ebce42", func := "loop.example/g01033/laws.FnExactBestDrone", spec := "fnExactBestDrone", unfollowed := true, recurses := true, apart := false }
def FnExactBestDroneSaid : Prop := fnExactBestDroneRow.holds Try.pinned (OpenSpec.ofChange fnExactBestDroneSpec)

/-- ITS FALSE NEIGHBOUR: 'it returns false'. Refute it at one input. -/
def fnExactBestDroneWrong : ChangeSpec := { name := "fnExactBestDrone", fn := fun _ => fun
  | [d1, d2] => { results := [.lit (.bool false)], args := [d1, d2] }
  | _ => none }
def FnExactBestDroneWrongFalsely : Prop := fnExactBestDroneRow.holds Try.pinned (OpenSpec.ofChange fnExactBestDroneWrong)

/-- 'laws.FnExactResonanceCurve': WHATEVER THE INPUT: true; the input reads as it did. -/
def fnExactResonanceCurveSpec : ChangeSpec := { name := "fnExactResonanceCurve", fn := fun _ => fun
  | [d1, d2, d3] => { results := [.lit (.bool true)], args := [d1, d2, d3] }
  | _ => none }
def fnExactResonanceCurveRow : OpenClaim := { program := "ytlgigomahobfbaa", sum := "f226869656e53691e116e23281253af8b57f81a19659312601afa65853ebce42", func := "loop.example/g01033/laws.FnExactResonanceCurve", spec := "fnExactResonanceCurve", unfollowed := true, recurses := true, apart := false }
def FnExactResonanceCurveSaid : Prop := fnExactResonanceCurveRow.holds Try.pinned (OpenSpec.ofChange fnExactResonanceCurveSpec)

/-- ITS FALSE NEIGHBOUR: 'it returns false'. Refute it at one input. -/
def fnExactResonanceCurveWrong : ChangeSpec := { name := "fnExactResonanceCurve", fn := fun _ => fun
  | [d1, d2, d3] => { results := [.lit (.bool false)], args := [d1, d2, d3] }
  | _ => none }
def FnExactResonanceCurveWrongFalsely : Prop := fnExactResonanceCurveRow.holds Try.pinned (OpenSpec.ofChange fnExactResonanceCurveWrong)

/-- 'laws.FnExactBestStrings': WHATEVER THE INPUT: true; the input reads as it did. -/
def fnExactBestStringsSpec : ChangeSpec := { name := "fnExactBestStrings", fn := fun _ => fun
  | [d1, d2] => { results := [.lit (.bool true)], args := [d1, d2] }
  | _ => none }
def fnExactBestStringsRow : OpenClaim := { program := "ytlgigomahobfbaa", sum := "f226869656e53691e116e23281253af8b57f81a19659312601afa65853ebce42", func := "loop.example/g01033/laws.FnExactBestStrings", spec := "fnExactBestStrings", unfollowed := true, recurses := true, apart := false }
def FnExactBestStringsSaid : Prop := fnExactBestStringsRow.holds Try.pinned (OpenSpec.ofChange fnExactBestStringsSpec)

/-- ITS FALSE NEIGHBOUR: 'it returns false'. Refute it at one input. -/
def fnExactBestStringsWrong : ChangeSpec := { name := "fnExactBestStrings", fn := fun _ => fun
  | [d1, d2] => { results := [.lit (.bool false)], args := [d1, d2] }
  | _ => none }
def FnExactBestStringsWrongFalsely : Prop := fnExactBestStringsRow.holds Try.pinned (OpenSpec.ofChange fnExactBestStringsWrong)

/-- 'laws.FnExactShuffleNotes': WHATEVER THE INPUT: true; the input reads as it did. -/
def fnExactShuffleNotesSpec : ChangeSpec := { name := "fnExactShuffleNotes", fn := fun _ => fun
  | [d1, d2] => { results := [.lit (.bool true)], args := [d1, d2] }
  | _ => none }
def fnExactShuffleNotesRow : OpenClaim := { program := "ytlgigomahobfbaa", sum := "f226869656e53691e116e23281253af8b57f81a19659312601afa65853ebce42", func := "loop.example/g01033/laws.FnExactShuffleNotes", spec := "fnExactShuffleNotes", apart := false }
def FnExactShuffleNotesSaid : Prop := fnExactShuffleNotesRow.holds Try.pinned (OpenSpec.ofChange fnExactShuffleNotesSpec)

/-- ITS FALSE NEIGHBOUR: 'it returns false'. Refute it at one input. -/
def fnExactShuffleNotesWrong : ChangeSpec := { name := "fnExactShuffleNotes", fn := fun _ => fun
  | [d1, d2] => { results := [.lit (.bool false)], args := [d1, d2] }
  | _ => none }
def FnExactShuffleNotesWrongFalsely : Prop := fnExactShuffleNotesRow.holds Try.pinned (OpenSpec.ofChange fnExactShuffleNotesWrong)

/-- 'laws.FnExactOrnamentMelody': WHATEVER THE INPUT: true; the input reads as it did. -/
def fnExactOrnamentMelodySpec : ChangeSpec := { name := "fnExactOrnamentMelody", fn := fun _ => fun
  | [d1, d2] => { results := [.lit (.bool true)], args := [d1, d2] }
  | _ => none }
def fnExactOrnamentMelodyRow : OpenClaim := { program := "ytlgigomahobfbaa", sum := "f226869656e53691e116e23281253af8b57f81a19659312601afa65853ebce42", func := "loop.example/g01033/laws.FnExactOrnamentMelody", spec := "fnExactOrnamentMelody", unfollowed := true, recurses := true, apart := false }
def FnExactOrnamentMelodySaid : Prop := fnExactOrnamentMelodyRow.holds Try.pinned (OpenSpec.ofChange fnExactOrnamentMelodySpec)

/-- ITS FALSE NEIGHBOUR: 'it returns false'. Refute it at one input. -/
def fnExactOrnamentMelodyWrong : ChangeSpec := { name := "fnExactOrnamentMelody", fn := fun _ => fun
  | [d1, d2] => { results := [.lit (.bool false)], args := [d1, d2] }
  | _ => none }
def FnExactOrnamentMelodyWrongFalsely : Prop := fnExactOrnamentMelodyRow.holds Try.pinned (OpenSpec.ofChange fnExactOrnamentMelodyWrong)

/-- 'laws.FnExactCountProgrammes': WHATEVER THE INPUT: true; the input reads as it did. -/
def fnExactCountProgrammesSpec : ChangeSpec := { name := "fnExactCountProgrammes", fn := fun _ => fun
  | [d1, d2, d3, d4, d5] => { results := [.lit (.bool true)], args := [d1, d2, d3, d4, d5] }
  | _ => none }
def fnExactCountProgrammesRow : OpenClaim := { program := "ytlgigomahobfbaa", sum := "f226869656e53691e116e23281253af8b57f81a19659312601afa65853ebce42", func := "loop.example/g01033/laws.FnExactCountProgrammes", spec := "fnExactCountProgrammes", recurses := true, apart := false }
def FnExactCountProgrammesSaid : Prop := fnExactCountProgrammesRow.holds Try.pinned (OpenSpec.ofChange fnExactCountProgrammesSpec)

/-- ITS FALSE NEIGHBOUR: 'it returns false'. Refute it at one input. -/
def fnExactCountProgrammesWrong : ChangeSpec := { name := "fnExactCountProgrammes", fn := fun _ => fun
  | [d1, d2, d3, d4, d5] => { results := [.lit (.bool false)], args := [d1, d2, d3, d4, d5] }
  | _ => none }
def FnExactCountProgrammesWrongFalsely : Prop := fnExactCountProgrammesRow.holds Try.pinned (OpenSpec.ofChange fnExactCountProgrammesWrong)

/- THE SECOND FORM. 'bulk': how many values and letters a reading holds, each counted each time it is reached (what is shared counts as often as it is met; a slice's spare places count too). A statement '..UptoSaid' is the law's where the arguments, and the package variables that the reading takes, are together of bulk at most 1048576: NARROWER than '..Said'. Prove '..Said' where nothing that the law and all that it calls make is longer than what came in: it says more and counts as full. Else prove '..UptoSaid'. A law counts once. -/
mutual
def uptoBulk {H : Type} : DataW H → Nat
  | .lit (.string bytes) => bytes.length + 1
  | .lit _ => 1
  | .nil => 1
  | .ptr d => uptoBulk d + 1
  | .slice elems spare => uptoBulkAll elems + uptoBulkAll spare + 1
  | .agg parts => uptoBulkAll parts + 1
  | .iface _ d => uptoBulk d + 1
  | .map entries => uptoBulkEntries entries + 1
  | .held _ => 1
def uptoBulkAll {H : Type} : List (DataW H) → Nat
  | [] => 0
  | d :: r => uptoBulk d + uptoBulkAll r
def uptoBulkEntries {H : Type} : List (Lit × DataW H) → Nat
  | [] => 0
  | x :: r => uptoBulkEntry x + uptoBulkEntries r
def uptoBulkEntry {H : Type} : Lit × DataW H → Nat
  | (.string bytes, d) => bytes.length + uptoBulk d + 1
  | (_, d) => uptoBulk d + 1
 end
def uptoSmall : (H : Type) → List (DataW H) → Bool := fun _ ds => decide (uptoBulkAll ds ≤ 1048576)
def OpenSpec.upto (s : _root_.Go.ChangeSpec) : _root_.Go.OpenSpec := { _root_.Go.OpenSpec.ofChange s with cond := some uptoSmall }

/-- 'laws.FnExactDroneAt', WHERE WHAT IT READS IS OF BULK AT MOST 1048576: true; the input reads as it did. -/
def fnExactDroneAtUptoRow : OpenClaim := { program := "ytlgigomahobfbaa", sum := "f226869656e53691e116e23281253af8b57f81a19659312601afa65853ebce42", func := "loop.example/g01033/laws.FnExactDroneAt", spec := "fnExactDroneAt", apart := false, narrowed := true }
def FnExactDroneAtUptoSaid : Prop := fnExactDroneAtUptoRow.holds Try.pinned (OpenSpec.upto fnExactDroneAtSpec)

/-- 'laws.FnExactResonanceOf', WHERE WHAT IT READS IS OF BULK AT MOST 1048576: true; the input reads as it did. -/
def fnExactResonanceOfUptoRow : OpenClaim := { program := "ytlgigomahobfbaa", sum := "f226869656e53691e116e23281253af8b57f81a19659312601afa65853ebce42", func := "loop.example/g01033/laws.FnExactResonanceOf", spec := "fnExactResonanceOf", unfollowed := true, recurses := true, apart := false, narrowed := true }
def FnExactResonanceOfUptoSaid : Prop := fnExactResonanceOfUptoRow.holds Try.pinned (OpenSpec.upto fnExactResonanceOfSpec)

/-- 'laws.FnExactMelodyConsonance', WHERE WHAT IT READS IS OF BULK AT MOST 1048576: true; the input reads as it did. -/
def fnExactMelodyConsonanceUptoRow : OpenClaim := { program := "ytlgigomahobfbaa", sum := "f226869656e53691e116e23281253af8b57f81a19659312601afa65853ebce42", func := "loop.example/g01033/laws.FnExactMelodyConsonance", spec := "fnExactMelodyConsonance", apart := false, narrowed := true }
def FnExactMelodyConsonanceUptoSaid : Prop := fnExactMelodyConsonanceUptoRow.holds Try.pinned (OpenSpec.upto fnExactMelodyConsonanceSpec)

/-- 'laws.FnExactBestPhase', WHERE WHAT IT READS IS OF BULK AT MOST 1048576: true; the input reads as it did. -/
def fnExactBestPhaseUptoRow : OpenClaim := { program := "ytlgigomahobfbaa", sum := "f226869656e53691e116e23281253af8b57f81a19659312601afa65853ebce42", func := "loop.example/g01033/laws.FnExactBestPhase", spec := "fnExactBestPhase", apart := false, narrowed := true }
def FnExactBestPhaseUptoSaid : Prop := fnExactBestPhaseUptoRow.holds Try.pinned (OpenSpec.upto fnExactBestPhaseSpec)

/-- 'laws.FnExactMeanConsonance', WHERE WHAT IT READS IS OF BULK AT MOST 1048576: true; the input reads as it did. -/
def fnExactMeanConsonanceUptoRow : OpenClaim := { program := "ytlgigomahobfbaa", sum := "f226869656e53691e116e23281253af8b57f81a19659312601afa65853ebce42", func := "loop.example/g01033/laws.FnExactMeanConsonance", spec := "fnExactMeanConsonance", apart := false, narrowed := true }
def FnExactMeanConsonanceUptoSaid : Prop := fnExactMeanConsonanceUptoRow.holds Try.pinned (OpenSpec.upto fnExactMeanConsonanceSpec)

/-- 'laws.FnExactRoughUnits', WHERE WHAT IT READS IS OF BULK AT MOST 1048576: true; the input reads as it did. -/
def fnExactRoughUnitsUptoRow : OpenClaim := { program := "ytlgigomahobfbaa", sum := "f226869656e53691e116e23281253af8b57f81a19659312601afa65853ebce42", func := "loop.example/g01033/laws.FnExactRoughUnits", spec := "fnExactRoughUnits", apart := false, narrowed := true }
def FnExactRoughUnitsUptoSaid : Prop := fnExactRoughUnitsUptoRow.holds Try.pinned (OpenSpec.upto fnExactRoughUnitsSpec)

/-- 'laws.FnExactBestDrone', WHERE WHAT IT READS IS OF BULK AT MOST 1048576: true; the input reads as it did. -/
def fnExactBestDroneUptoRow : OpenClaim := { program := "ytlgigomahobfbaa", sum := "f226869656e53691e116e23281253af8b57f81a19659312601afa65853ebce42", func := "loop.example/g01033/laws.FnExactBestDrone", spec := "fnExactBestDrone", unfollowed := true, recurses := true, apart := false, narrowed := true }
def FnExactBestDroneUptoSaid : Prop := fnExactBestDroneUptoRow.holds Try.pinned (OpenSpec.upto fnExactBestDroneSpec)

/-- 'laws.FnExactResonanceCurve', WHERE WHAT IT READS IS OF BULK AT MOST 1048576: true; the input reads as it did. -/
def fnExactResonanceCurveUptoRow : OpenClaim := { program := "ytlgigomahobfbaa", sum := "f226869656e53691e116e23281253af8b57f81a19659312601afa65853ebce42", func := "loop.example/g01033/laws.FnExactResonanceCurve", spec := "fnExactResonanceCurve", unfollowed := true, recurses := true, apart := false, narrowed := true }
def FnExactResonanceCurveUptoSaid : Prop := fnExactResonanceCurveUptoRow.holds Try.pinned (OpenSpec.upto fnExactResonanceCurveSpec)

/-- 'laws.FnExactBestStrings', WHERE WHAT IT READS IS OF BULK AT MOST 1048576: true; the input reads as it did. -/
def fnExactBestStringsUptoRow : OpenClaim := { program := "ytlgigomahobfbaa", sum := "f226869656e53691e116e23281253af8b57f81a19659312601afa65853ebce42", func := "loop.example/g01033/laws.FnExactBestStrings", spec := "fnExactBestStrings", unfollowed := true, recurses := true, apart := false, narrowed := true }
def FnExactBestStringsUptoSaid : Prop := fnExactBestStringsUptoRow.holds Try.pinned (OpenSpec.upto fnExactBestStringsSpec)

/-- 'laws.FnExactShuffleNotes', WHERE WHAT IT READS IS OF BULK AT MOST 1048576: true; the input reads as it did. -/
def fnExactShuffleNotesUptoRow : OpenClaim := { program := "ytlgigomahobfbaa", sum := "f226869656e53691e116e23281253af8b57f81a19659312601afa65853ebce42", func := "loop.example/g01033/laws.FnExactShuffleNotes", spec := "fnExactShuffleNotes", apart := false, narrowed := true }
def FnExactShuffleNotesUptoSaid : Prop := fnExactShuffleNotesUptoRow.holds Try.pinned (OpenSpec.upto fnExactShuffleNotesSpec)

/-- 'laws.FnExactOrnamentMelody', WHERE WHAT IT READS IS OF BULK AT MOST 1048576: true; the input reads as it did. -/
def fnExactOrnamentMelodyUptoRow : OpenClaim := { program := "ytlgigomahobfbaa", sum := "f226869656e53691e116e23281253af8b57f81a19659312601afa65853ebce42", func := "loop.example/g01033/laws.FnExactOrnamentMelody", spec := "fnExactOrnamentMelody", unfollowed := true, recurses := true, apart := false, narrowed := true }
def FnExactOrnamentMelodyUptoSaid : Prop := fnExactOrnamentMelodyUptoRow.holds Try.pinned (OpenSpec.upto fnExactOrnamentMelodySpec)

/-- 'laws.FnExactCountProgrammes', WHERE WHAT IT READS IS OF BULK AT MOST 1048576: true; the input reads as it did. -/
def fnExactCountProgrammesUptoRow : OpenClaim := { program := "ytlgigomahobfbaa", sum := "f226869656e53691e116e23281253af8b57f81a19659312601afa65853ebce42", func := "loop.example/g01033/laws.FnExactCountProgrammes", spec := "fnExactCountProgrammes", recurses := true, apart := false, narrowed := true }
def FnExactCountProgrammesUptoSaid : Prop := fnExactCountProgrammesUptoRow.holds Try.pinned (OpenSpec.upto fnExactCountProgrammesSpec)

end Rows
end Go.Proofs.Ytlgigomahobfbaa
