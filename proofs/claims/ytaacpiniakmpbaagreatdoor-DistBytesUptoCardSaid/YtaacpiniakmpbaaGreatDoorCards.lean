/-
  DERIVED. GIVEN WITH THE SEED: THE CARDS: each row of YtaacpiniakmpbaaGreatDoorRows.lean that lists a variable, with what it lists TIED to the program's text (the seventh form; the later family's looks); each row that meets fmt, with fmt's text TOLD by the authors' own Lean function (tested against real Go, not proved from fmt's source: count such statements apart). THE CARD IS WHAT COUNTS. Prove the row's statement (the work); the ties are given (YtaacpiniakmpbaaGreatDoorTie.lean); close each card by the builder's one call (the guide's Derived/Test/ToyasCard.lean, 'card_holds'). Laid BY PROGRAM, IN A SANDBOX (cutbox-door.mjs). By AI agents, Wed Nov 11 2026. No macro, syntax, notation, axiom, sorry.
-/
import Derived.Test.YtaacpiniakmpbaaGreatDoorRows
import GoSem.ClaimSeven
namespace Go.Proofs.YtaacpiniakmpbaaGreatDoor
namespace Rows

/-- THE TIED CARD OF 'riparianlaw27.DistBytes'. -/
def distBytesCard : Claim7 := { stood := { row := distBytesRow, standIns := [], harness := (true, "064a4ee058c9c4eab6688036cf95218331a2e264a7f1f91994079354d6e96b8e"), looks := true }, kinds := [], alts := [], laidByText := true, laidKinds := [.data, .data, .data, .data, .widerDeep, .pinned, .pinned, .pinned, .pinned, .pinned, .pinned], laidTests := true, laidLooks := .later }
def DistBytesCardSaid : Prop := Claim7.holds Tryz.pinned (.plain (OpenSpec.ofChange distBytesSpec)) distBytesCard

/-- THE SECOND FORM's CARD OF 'riparianlaw27.DistBytes'. -/
def distBytesUptoCard : Claim7 := { stood := { row := distBytesUptoRow, standIns := [], harness := (true, "064a4ee058c9c4eab6688036cf95218331a2e264a7f1f91994079354d6e96b8e"), looks := true }, kinds := [], alts := [], laidByText := true, laidKinds := [.data, .data, .data, .data, .widerDeep, .pinned, .pinned, .pinned, .pinned, .pinned, .pinned], laidTests := true, laidLooks := .later }
def DistBytesUptoCardSaid : Prop := Claim7.holds Tryz.pinned (.plain (OpenSpec.upto distBytesSpec)) distBytesUptoCard
end Rows
end Go.Proofs.YtaacpiniakmpbaaGreatDoor
