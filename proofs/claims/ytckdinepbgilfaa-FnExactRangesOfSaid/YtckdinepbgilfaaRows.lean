/-
  No cell of these rows narrows 'for every input' (looked for: loops, veiled, ifaces, maps, wideKeys, modest, calm, conditions, laid).
  DERIVED. THE GIVEN ROWS OF THIS SEAT. 12 by the template 'for every input the law returns true; each argument reads behind the call as it read before'; 0 by the template 'total and deterministic' (their statements: YtckdinepbgilfaaTotals.lean).
  GIVEN WITH THE SEED: the statements are not yours to turn. If you find one false, say at which input.
  Laid BY PROGRAM, IN A SANDBOX (cutbox-rows.mjs): the forced cells as the released guide's own fill.sh prints them over the translation 3e1fad348dfb268a… (all of the seat's roots in one cut). By AI agents, Wed Nov 11 2026. No macro, syntax, notation, axiom, sorry.
-/
import Derived.Test.YtckdinepbgilfaaChecked
import GoSem.Claim
import GoSem.ClaimJoined
import GoSem.ClaimMapViews
import Derived.JoinedTies
import Derived.KernelRfl
namespace Go.Proofs.Ytckdinepbgilfaa
/- THE CELL 'sum', in the pinned program and in every row, IS THE sha256 OF THE DUMP (.gsa) THAT YtckdinepbgilfaaProg.lean LOADS. Nothing in Lean hashes anything: it is a label: what it is worth is what the hold of that sum in a sandbox is worth. -/
noncomputable def Try.pinned : Pinned := { name := "ytckdinepbgilfaa", sum := "3e1fad348dfb268aaba342bdf464a6c7c43829cfb1025f2823a645748c981ec8", checked := Try.checked }
namespace Rows
def none {H : Type} : Left H := { results := [], args := [] }

/-- 'laws.FnExactNextSeed': WHATEVER THE INPUT: true; the input reads as it did. -/
def fnExactNextSeedSpec : ChangeSpec := { name := "fnExactNextSeed", fn := fun _ => fun
  | [d] => { results := [.lit (.bool true)], args := [d] }
  | _ => none }
def fnExactNextSeedRow : OpenClaim := { program := "ytckdinepbgilfaa", sum := "3e1fad348dfb268aaba342bdf464a6c7c43829cfb1025f2823a645748c981ec8", func := "loop.example/g01033/laws.FnExactNextSeed", spec := "fnExactNextSeed", apart := false }
def FnExactNextSeedSaid : Prop := fnExactNextSeedRow.holds Try.pinned (OpenSpec.ofChange fnExactNextSeedSpec)

/-- ITS FALSE NEIGHBOUR: 'it returns false'. Refute it at one input. -/
def fnExactNextSeedWrong : ChangeSpec := { name := "fnExactNextSeed", fn := fun _ => fun
  | [d] => { results := [.lit (.bool false)], args := [d] }
  | _ => none }
def FnExactNextSeedWrongFalsely : Prop := fnExactNextSeedRow.holds Try.pinned (OpenSpec.ofChange fnExactNextSeedWrong)

/-- 'laws.FnExactPickFrom': WHATEVER THE INPUT: true; the input reads as it did. -/
def fnExactPickFromSpec : ChangeSpec := { name := "fnExactPickFrom", fn := fun _ => fun
  | [d1, d2] => { results := [.lit (.bool true)], args := [d1, d2] }
  | _ => none }
def fnExactPickFromRow : OpenClaim := { program := "ytckdinepbgilfaa", sum := "3e1fad348dfb268aaba342bdf464a6c7c43829cfb1025f2823a645748c981ec8", func := "loop.example/g01033/laws.FnExactPickFrom", spec := "fnExactPickFrom", apart := false }
def FnExactPickFromSaid : Prop := fnExactPickFromRow.holds Try.pinned (OpenSpec.ofChange fnExactPickFromSpec)

/-- ITS FALSE NEIGHBOUR: 'it returns false'. Refute it at one input. -/
def fnExactPickFromWrong : ChangeSpec := { name := "fnExactPickFrom", fn := fun _ => fun
  | [d1, d2] => { results := [.lit (.bool false)], args := [d1, d2] }
  | _ => none }
def FnExactPickFromWrongFalsely : Prop := fnExactPickFromRow.holds Try.pinned (OpenSpec.ofChange fnExactPickFromWrong)

/-- 'laws.FnExactConsonanceOf': WHATEVER THE INPUT: true; the input reads as it did. -/
def fnExactConsonanceOfSpec : ChangeSpec := { name := "fnExactConsonanceOf", fn := fun _ => fun
  | [d1, d2] => { results := [.lit (.bool true)], args := [d1, d2] }
  | _ => none }
def fnExactConsonanceOfRow : OpenClaim := { program := "ytckdinepbgilfaa", sum := "3e1fad348dfb268aaba342bdf464a6c7c43829cfb1025f2823a645748c981ec8", func := "loop.example/g01033/laws.FnExactConsonanceOf", spec := "fnExactConsonanceOf", apart := false }
def FnExactConsonanceOfSaid : Prop := fnExactConsonanceOfRow.holds Try.pinned (OpenSpec.ofChange fnExactConsonanceOfSpec)

/-- ITS FALSE NEIGHBOUR: 'it returns false'. Refute it at one input. -/
def fnExactConsonanceOfWrong : ChangeSpec := { name := "fnExactConsonanceOf", fn := fun _ => fun
  | [d1, d2] => { results := [.lit (.bool false)], args := [d1, d2] }
  | _ => none }
def FnExactConsonanceOfWrongFalsely : Prop := fnExactConsonanceOfRow.holds Try.pinned (OpenSpec.ofChange fnExactConsonanceOfWrong)

/-- 'laws.FnExactCountTalas': WHATEVER THE INPUT: true; the input reads as it did. -/
def fnExactCountTalasSpec : ChangeSpec := { name := "fnExactCountTalas", fn := fun _ => fun
  | [d1, d2] => { results := [.lit (.bool true)], args := [d1, d2] }
  | _ => none }
def fnExactCountTalasRow : OpenClaim := { program := "ytckdinepbgilfaa", sum := "3e1fad348dfb268aaba342bdf464a6c7c43829cfb1025f2823a645748c981ec8", func := "loop.example/g01033/laws.FnExactCountTalas", spec := "fnExactCountTalas", apart := false }
def FnExactCountTalasSaid : Prop := fnExactCountTalasRow.holds Try.pinned (OpenSpec.ofChange fnExactCountTalasSpec)

/-- ITS FALSE NEIGHBOUR: 'it returns false'. Refute it at one input. -/
def fnExactCountTalasWrong : ChangeSpec := { name := "fnExactCountTalas", fn := fun _ => fun
  | [d1, d2] => { results := [.lit (.bool false)], args := [d1, d2] }
  | _ => none }
def FnExactCountTalasWrongFalsely : Prop := fnExactCountTalasRow.holds Try.pinned (OpenSpec.ofChange fnExactCountTalasWrong)

/-- 'laws.FnExactValidStrings': WHATEVER THE INPUT: true; the input reads as it did. -/
def fnExactValidStringsSpec : ChangeSpec := { name := "fnExactValidStrings", fn := fun _ => fun
  | [d] => { results := [.lit (.bool true)], args := [d] }
  | _ => none }
def fnExactValidStringsRow : OpenClaim := { program := "ytckdinepbgilfaa", sum := "3e1fad348dfb268aaba342bdf464a6c7c43829cfb1025f2823a645748c981ec8", func := "loop.example/g01033/laws.FnExactValidStrings", spec := "fnExactValidStrings", unfollowed := true, recurses := true, apart := false }
def FnExactValidStringsSaid : Prop := fnExactValidStringsRow.holds Try.pinned (OpenSpec.ofChange fnExactValidStringsSpec)

/-- ITS FALSE NEIGHBOUR: 'it returns false'. Refute it at one input. -/
def fnExactValidStringsWrong : ChangeSpec := { name := "fnExactValidStrings", fn := fun _ => fun
  | [d] => { results := [.lit (.bool false)], args := [d] }
  | _ => none }
def FnExactValidStringsWrongFalsely : Prop := fnExactValidStringsRow.holds Try.pinned (OpenSpec.ofChange fnExactValidStringsWrong)

/-- 'laws.FnExactDenseLengths': WHATEVER THE INPUT: true; the input reads as it did. -/
def fnExactDenseLengthsSpec : ChangeSpec := { name := "fnExactDenseLengths", fn := fun _ => fun
  | [d1, d2] => { results := [.lit (.bool true)], args := [d1, d2] }
  | _ => none }
def fnExactDenseLengthsRow : OpenClaim := { program := "ytckdinepbgilfaa", sum := "3e1fad348dfb268aaba342bdf464a6c7c43829cfb1025f2823a645748c981ec8", func := "loop.example/g01033/laws.FnExactDenseLengths", spec := "fnExactDenseLengths", apart := false }
def FnExactDenseLengthsSaid : Prop := fnExactDenseLengthsRow.holds Try.pinned (OpenSpec.ofChange fnExactDenseLengthsSpec)

/-- ITS FALSE NEIGHBOUR: 'it returns false'. Refute it at one input. -/
def fnExactDenseLengthsWrong : ChangeSpec := { name := "fnExactDenseLengths", fn := fun _ => fun
  | [d1, d2] => { results := [.lit (.bool false)], args := [d1, d2] }
  | _ => none }
def FnExactDenseLengthsWrongFalsely : Prop := fnExactDenseLengthsRow.holds Try.pinned (OpenSpec.ofChange fnExactDenseLengthsWrong)

/-- 'laws.FnExactCountPatterns': WHATEVER THE INPUT: true; the input reads as it did. -/
def fnExactCountPatternsSpec : ChangeSpec := { name := "fnExactCountPatterns", fn := fun _ => fun
  | [d1, d2, d3] => { results := [.lit (.bool true)], args := [d1, d2, d3] }
  | _ => none }
def fnExactCountPatternsRow : OpenClaim := { program := "ytckdinepbgilfaa", sum := "3e1fad348dfb268aaba342bdf464a6c7c43829cfb1025f2823a645748c981ec8", func := "loop.example/g01033/laws.FnExactCountPatterns", spec := "fnExactCountPatterns", apart := false }
def FnExactCountPatternsSaid : Prop := fnExactCountPatternsRow.holds Try.pinned (OpenSpec.ofChange fnExactCountPatternsSpec)

/-- ITS FALSE NEIGHBOUR: 'it returns false'. Refute it at one input. -/
def fnExactCountPatternsWrong : ChangeSpec := { name := "fnExactCountPatterns", fn := fun _ => fun
  | [d1, d2, d3] => { results := [.lit (.bool false)], args := [d1, d2, d3] }
  | _ => none }
def FnExactCountPatternsWrongFalsely : Prop := fnExactCountPatternsRow.holds Try.pinned (OpenSpec.ofChange fnExactCountPatternsWrong)

/-- 'laws.FnExactLeapsOf': WHATEVER THE INPUT: true; the input reads as it did. -/
def fnExactLeapsOfSpec : ChangeSpec := { name := "fnExactLeapsOf", fn := fun _ => fun
  | [d] => { results := [.lit (.bool true)], args := [d] }
  | _ => none }
def fnExactLeapsOfRow : OpenClaim := { program := "ytckdinepbgilfaa", sum := "3e1fad348dfb268aaba342bdf464a6c7c43829cfb1025f2823a645748c981ec8", func := "loop.example/g01033/laws.FnExactLeapsOf", spec := "fnExactLeapsOf", unfollowed := true, recurses := true, apart := false }
def FnExactLeapsOfSaid : Prop := fnExactLeapsOfRow.holds Try.pinned (OpenSpec.ofChange fnExactLeapsOfSpec)

/-- ITS FALSE NEIGHBOUR: 'it returns false'. Refute it at one input. -/
def fnExactLeapsOfWrong : ChangeSpec := { name := "fnExactLeapsOf", fn := fun _ => fun
  | [d] => { results := [.lit (.bool false)], args := [d] }
  | _ => none }
def FnExactLeapsOfWrongFalsely : Prop := fnExactLeapsOfRow.holds Try.pinned (OpenSpec.ofChange fnExactLeapsOfWrong)

/-- 'laws.FnExactSameTala': WHATEVER THE INPUT: true; the input reads as it did. -/
def fnExactSameTalaSpec : ChangeSpec := { name := "fnExactSameTala", fn := fun _ => fun
  | [d1, d2] => { results := [.lit (.bool true)], args := [d1, d2] }
  | _ => none }
def fnExactSameTalaRow : OpenClaim := { program := "ytckdinepbgilfaa", sum := "3e1fad348dfb268aaba342bdf464a6c7c43829cfb1025f2823a645748c981ec8", func := "loop.example/g01033/laws.FnExactSameTala", spec := "fnExactSameTala", apart := false }
def FnExactSameTalaSaid : Prop := fnExactSameTalaRow.holds Try.pinned (OpenSpec.ofChange fnExactSameTalaSpec)

/-- ITS FALSE NEIGHBOUR: 'it returns false'. Refute it at one input. -/
def fnExactSameTalaWrong : ChangeSpec := { name := "fnExactSameTala", fn := fun _ => fun
  | [d1, d2] => { results := [.lit (.bool false)], args := [d1, d2] }
  | _ => none }
def FnExactSameTalaWrongFalsely : Prop := fnExactSameTalaRow.holds Try.pinned (OpenSpec.ofChange fnExactSameTalaWrong)

/-- 'laws.FnExactRangesOf': WHATEVER THE INPUT: true; the input reads as it did. -/
def fnExactRangesOfSpec : ChangeSpec := { name := "fnExactRangesOf", fn := fun _ => fun
  | [d1, d2, d3, d4] => { results := [.lit (.bool true)], args := [d1, d2, d3, d4] }
  | _ => none }
def fnExactRangesOfRow : OpenClaim := { program := "ytckdinepbgilfaa", sum := "3e1fad348dfb268aaba342bdf464a6c7c43829cfb1025f2823a645748c981ec8", func := "loop.example/g01033/laws.FnExactRangesOf", spec := "fnExactRangesOf", apart := false }
def FnExactRangesOfSaid : Prop := fnExactRangesOfRow.holds Try.pinned (OpenSpec.ofChange fnExactRangesOfSpec)

/-- ITS FALSE NEIGHBOUR: 'it returns false'. Refute it at one input. -/
def fnExactRangesOfWrong : ChangeSpec := { name := "fnExactRangesOf", fn := fun _ => fun
  | [d1, d2, d3, d4] => { results := [.lit (.bool false)], args := [d1, d2, d3, d4] }
  | _ => none }
def FnExactRangesOfWrongFalsely : Prop := fnExactRangesOfRow.holds Try.pinned (OpenSpec.ofChange fnExactRangesOfWrong)

/-- 'laws.FnExactMostRepeats': WHATEVER THE INPUT: true; the input reads as it did. -/
def fnExactMostRepeatsSpec : ChangeSpec := { name := "fnExactMostRepeats", fn := fun _ => fun
  | [d] => { results := [.lit (.bool true)], args := [d] }
  | _ => none }
def fnExactMostRepeatsRow : OpenClaim := { program := "ytckdinepbgilfaa", sum := "3e1fad348dfb268aaba342bdf464a6c7c43829cfb1025f2823a645748c981ec8", func := "loop.example/g01033/laws.FnExactMostRepeats", spec := "fnExactMostRepeats", unfollowed := true, recurses := true, apart := false }
def FnExactMostRepeatsSaid : Prop := fnExactMostRepeatsRow.holds Try.pinned (OpenSpec.ofChange fnExactMostRepeatsSpec)

/-- ITS FALSE NEIGHBOUR: 'it returns false'. Refute it at one input. -/
def fnExactMostRepeatsWrong : ChangeSpec := { name := "fnExactMostRepeats", fn := fun _ => fun
  | [d] => { results := [.lit (.bool false)], args := [d] }
  | _ => none }
def FnExactMostRepeatsWrongFalsely : Prop := fnExactMostRepeatsRow.holds Try.pinned (OpenSpec.ofChange fnExactMostRepeatsWrong)

/-- 'laws.FnExactContainsPart': WHATEVER THE INPUT: true; the input reads as it did. -/
def fnExactContainsPartSpec : ChangeSpec := { name := "fnExactContainsPart", fn := fun _ => fun
  | [d1, d2] => { results := [.lit (.bool true)], args := [d1, d2] }
  | _ => none }
def fnExactContainsPartRow : OpenClaim := { program := "ytckdinepbgilfaa", sum := "3e1fad348dfb268aaba342bdf464a6c7c43829cfb1025f2823a645748c981ec8", func := "loop.example/g01033/laws.FnExactContainsPart", spec := "fnExactContainsPart", unfollowed := true, recurses := true, apart := false }
def FnExactContainsPartSaid : Prop := fnExactContainsPartRow.holds Try.pinned (OpenSpec.ofChange fnExactContainsPartSpec)

/-- ITS FALSE NEIGHBOUR: 'it returns false'. Refute it at one input. -/
def fnExactContainsPartWrong : ChangeSpec := { name := "fnExactContainsPart", fn := fun _ => fun
  | [d1, d2] => { results := [.lit (.bool false)], args := [d1, d2] }
  | _ => none }
def FnExactContainsPartWrongFalsely : Prop := fnExactContainsPartRow.holds Try.pinned (OpenSpec.ofChange fnExactContainsPartWrong)

/- THE SECOND FORM. 'bulk': how many values and letters a reading holds, each counted each time it is reached (what is shared counts as often as it is met; a slice's spare places count too). A statement '..UptoSaid' is the law's where the arguments, and the package variables that the reading takes, are together of bulk at most 1048576: NARROWER than '..Said'. Prove '..Said' where nothing that the law and all that it calls make is longer than what came in: it says more and counts as full. Else prove '..UptoSaid'. A law counts once. -/
mutual
def uptoBulk {H : Type} : DataW H → Nat
  | .lit (.string bytes) => bytes.length + 1
  | .lit _ => 1
  | .nil => 1
  | .ptr d => uptoBulk d + 1
  | .slice elems spare => uptoBulkAll elems + uptoBulkAll spare + 1
  | .agg parts => uptoBulkAll parts + 1
  | .iface _ d => uptoBulk d + 1
  | .map entries => uptoBulkEntries entries + 1
  | .held _ => 1
def uptoBulkAll {H : Type} : List (DataW H) → Nat
  | [] => 0
  | d :: r => uptoBulk d + uptoBulkAll r
def uptoBulkEntries {H : Type} : List (Lit × DataW H) → Nat
  | [] => 0
  | x :: r => uptoBulkEntry x + uptoBulkEntries r
def uptoBulkEntry {H : Type} : Lit × DataW H → Nat
  | (.string bytes, d) => bytes.length + uptoBulk d + 1
  | (_, d) => uptoBulk d + 1
 end
def uptoSmall : (H : Type) → List (DataW H) → Bool := fun _ ds => decide (uptoBulkAll ds ≤ 1048576)
def OpenSpec.upto (s : _root_.Go.ChangeSpec) : _root_.Go.OpenSpec := { _root_.Go.OpenSpec.ofChange s with cond := some uptoSmall }

/-- 'laws.FnExactNextSeed', WHERE WHAT IT READS IS OF BULK AT MOST 1048576: true; the input reads as it did. -/
def fnExactNextSeedUptoRow : OpenClaim := { program := "ytckdinepbgilfaa", sum := "3e1fad348dfb268aaba342bdf464a6c7c43829cfb1025f2823a645748c981ec8", func := "loop.example/g01033/laws.FnExactNextSeed", spec := "fnExactNextSeed", apart := false, narrowed := true }
def FnExactNextSeedUptoSaid : Prop := fnExactNextSeedUptoRow.holds Try.pinned (OpenSpec.upto fnExactNextSeedSpec)

/-- 'laws.FnExactPickFrom', WHERE WHAT IT READS IS OF BULK AT MOST 1048576: true; the input reads as it did. -/
def fnExactPickFromUptoRow : OpenClaim := { program := "ytckdinepbgilfaa", sum := "3e1fad348dfb268aaba342bdf464a6c7c43829cfb1025f2823a645748c981ec8", func := "loop.example/g01033/laws.FnExactPickFrom", spec := "fnExactPickFrom", apart := false, narrowed := true }
def FnExactPickFromUptoSaid : Prop := fnExactPickFromUptoRow.holds Try.pinned (OpenSpec.upto fnExactPickFromSpec)

/-- 'laws.FnExactConsonanceOf', WHERE WHAT IT READS IS OF BULK AT MOST 1048576: true; the input reads as it did. -/
def fnExactConsonanceOfUptoRow : OpenClaim := { program := "ytckdinepbgilfaa", sum := "3e1fad348dfb268aaba342bdf464a6c7c43829cfb1025f2823a645748c981ec8", func := "loop.example/g01033/laws.FnExactConsonanceOf", spec := "fnExactConsonanceOf", apart := false, narrowed := true }
def FnExactConsonanceOfUptoSaid : Prop := fnExactConsonanceOfUptoRow.holds Try.pinned (OpenSpec.upto fnExactConsonanceOfSpec)

/-- 'laws.FnExactCountTalas', WHERE WHAT IT READS IS OF BULK AT MOST 1048576: true; the input reads as it did. -/
def fnExactCountTalasUptoRow : OpenClaim := { program := "ytckdinepbgilfaa", sum := "3e1fad348dfb268aaba342bdf464a6c7c43829cfb1025f2823a645748c981ec8", func := "loop.example/g01033/laws.FnExactCountTalas", spec := "fnExactCountTalas", apart := false, narrowed := true }
def FnExactCountTalasUptoSaid : Prop := fnExactCountTalasUptoRow.holds Try.pinned (OpenSpec.upto fnExactCountTalasSpec)

/-- 'laws.FnExactValidStrings', WHERE WHAT IT READS IS OF BULK AT MOST 1048576: true; the input reads as it did. -/
def fnExactValidStringsUptoRow : OpenClaim := { program := "ytckdinepbgilfaa", sum := "3e1fad348dfb268aaba342bdf464a6c7c43829cfb1025f2823a645748c981ec8", func := "loop.example/g01033/laws.FnExactValidStrings", spec := "fnExactValidStrings", unfollowed := true, recurses := true, apart := false, narrowed := true }
def FnExactValidStringsUptoSaid : Prop := fnExactValidStringsUptoRow.holds Try.pinned (OpenSpec.upto fnExactValidStringsSpec)

/-- 'laws.FnExactDenseLengths', WHERE WHAT IT READS IS OF BULK AT MOST 1048576: true; the input reads as it did. -/
def fnExactDenseLengthsUptoRow : OpenClaim := { program := "ytckdinepbgilfaa", sum := "3e1fad348dfb268aaba342bdf464a6c7c43829cfb1025f2823a645748c981ec8", func := "loop.example/g01033/laws.FnExactDenseLengths", spec := "fnExactDenseLengths", apart := false, narrowed := true }
def FnExactDenseLengthsUptoSaid : Prop := fnExactDenseLengthsUptoRow.holds Try.pinned (OpenSpec.upto fnExactDenseLengthsSpec)

/-- 'laws.FnExactCountPatterns', WHERE WHAT IT READS IS OF BULK AT MOST 1048576: true; the input reads as it did. -/
def fnExactCountPatternsUptoRow : OpenClaim := { program := "ytckdinepbgilfaa", sum := "3e1fad348dfb268aaba342bdf464a6c7c43829cfb1025f2823a645748c981ec8", func := "loop.example/g01033/laws.FnExactCountPatterns", spec := "fnExactCountPatterns", apart := false, narrowed := true }
def FnExactCountPatternsUptoSaid : Prop := fnExactCountPatternsUptoRow.holds Try.pinned (OpenSpec.upto fnExactCountPatternsSpec)

/-- 'laws.FnExactLeapsOf', WHERE WHAT IT READS IS OF BULK AT MOST 1048576: true; the input reads as it did. -/
def fnExactLeapsOfUptoRow : OpenClaim := { program := "ytckdinepbgilfaa", sum := "3e1fad348dfb268aaba342bdf464a6c7c43829cfb1025f2823a645748c981ec8", func := "loop.example/g01033/laws.FnExactLeapsOf", spec := "fnExactLeapsOf", unfollowed := true, recurses := true, apart := false, narrowed := true }
def FnExactLeapsOfUptoSaid : Prop := fnExactLeapsOfUptoRow.holds Try.pinned (OpenSpec.upto fnExactLeapsOfSpec)

/-- 'laws.FnExactSameTala', WHERE WHAT IT READS IS OF BULK AT MOST 1048576: true; the input reads as it did. -/
def fnExactSameTalaUptoRow : OpenClaim := { program := "ytckdinepbgilfaa", sum := "3e1fad348dfb268aaba342bdf464a6c7c43829cfb1025f2823a645748c981ec8", func := "loop.example/g01033/laws.FnExactSameTala", spec := "fnExactSameTala", apart := false, narrowed := true }
def FnExactSameTalaUptoSaid : Prop := fnExactSameTalaUptoRow.holds Try.pinned (OpenSpec.upto fnExactSameTalaSpec)

/-- 'laws.FnExactRangesOf', WHERE WHAT IT READS IS OF BULK AT MOST 1048576: true; the input reads as it did. -/
def fnExactRangesOfUptoRow : OpenClaim := { program := "ytckdinepbgilfaa", sum := "3e1fad348dfb268aaba342bdf464a6c7c43829cfb1025f2823a645748c981ec8", func := "loop.example/g01033/laws.FnExactRangesOf", spec := "fnExactRangesOf", apart := false, narrowed := true }
def FnExactRangesOfUptoSaid : Prop := fnExactRangesOfUptoRow.holds Try.pinned (OpenSpec.upto fnExactRangesOfSpec)

/-- 'laws.FnExactMostRepeats', WHERE WHAT IT READS IS OF BULK AT MOST 1048576: true; the input reads as it did. -/
def fnExactMostRepeatsUptoRow : OpenClaim := { program := "ytckdinepbgilfaa", sum := "3e1fad348dfb268aaba342bdf464a6c7c43829cfb1025f2823a645748c981ec8", func := "loop.example/g01033/laws.FnExactMostRepeats", spec := "fnExactMostRepeats", unfollowed := true, recurses := true, apart := false, narrowed := true }
def FnExactMostRepeatsUptoSaid : Prop := fnExactMostRepeatsUptoRow.holds Try.pinned (OpenSpec.upto fnExactMostRepeatsSpec)

/-- 'laws.FnExactContainsPart', WHERE WHAT IT READS IS OF BULK AT MOST 1048576: true; the input reads as it did. -/
def fnExactContainsPartUptoRow : OpenClaim := { program := "ytckdinepbgilfaa", sum := "3e1fad348dfb268aaba342bdf464a6c7c43829cfb1025f2823a645748c981ec8", func := "loop.example/g01033/laws.FnExactContainsPart", spec := "fnExactContainsPart", unfollowed := true, recurses := true, apart := false, narrowed := true }
def FnExactContainsPartUptoSaid : Prop := fnExactContainsPartUptoRow.holds Try.pinned (OpenSpec.upto fnExactContainsPartSpec)

end Rows
end Go.Proofs.Ytckdinepbgilfaa
