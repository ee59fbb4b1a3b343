/-
  DERIVED. GIVEN WITH THE SEED: THE CARDS: each row of YtpbciknccgpndaaDoorRows.lean that lists a variable, with what it lists TIED to the program's text (the seventh form; the later family's looks); each row that meets fmt, with fmt's text TOLD by the authors' own Lean function (tested against real Go, not proved from fmt's source: count such statements apart). THE CARD IS WHAT COUNTS. Prove the row's statement (the work); the ties are given (YtpbciknccgpndaaDoorTie.lean); close each card by the builder's one call (the guide's Derived/Test/ToyasCard.lean, 'card_holds'). Laid BY PROGRAM, IN A SANDBOX (cutbox-door.mjs). By AI agents, Wed Nov 11 2026. No macro, syntax, notation, axiom, sorry.
-/
import Derived.Test.YtpbciknccgpndaaDoorRows
import GoSem.ClaimSeven
namespace Go.Proofs.YtpbciknccgpndaaDoor
namespace Rows

/-- THE TIED CARD OF 'laws.FnExactReadOrnament'. -/
def fnExactReadOrnamentCard : Claim7 := { stood := { row := fnExactReadOrnamentRow, standIns := [], harness := (true, "96ebb1f67309d4d43c6aeaf04ad034568c7006dd671af26c928e913b52f927c0"), looks := true }, kinds := [], alts := [], laidByText := true, laidKinds := [.data, .data, .data, .data, .sentinel, .sentinel, .pinned], laidTests := true, laidLooks := .later }
def FnExactReadOrnamentCardSaid : Prop := Claim7.holds Tryd.pinned (.plain (OpenSpec.ofChange fnExactReadOrnamentSpec)) fnExactReadOrnamentCard

/-- THE SECOND FORM's CARD OF 'laws.FnExactReadOrnament'. -/
def fnExactReadOrnamentUptoCard : Claim7 := { stood := { row := fnExactReadOrnamentUptoRow, standIns := [], harness := (true, "96ebb1f67309d4d43c6aeaf04ad034568c7006dd671af26c928e913b52f927c0"), looks := true }, kinds := [], alts := [], laidByText := true, laidKinds := [.data, .data, .data, .data, .sentinel, .sentinel, .pinned], laidTests := true, laidLooks := .later }
def FnExactReadOrnamentUptoCardSaid : Prop := Claim7.holds Tryd.pinned (.plain (OpenSpec.upto fnExactReadOrnamentSpec)) fnExactReadOrnamentUptoCard
end Rows
end Go.Proofs.YtpbciknccgpndaaDoor
