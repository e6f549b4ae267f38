/-
  DERIVED. GIVEN WITH THE SEED: THE CARDS: each row of YtgbeenpchkneiaaGreatDoorRows.lean that lists a variable, with what it lists TIED to the program's text (the seventh form; the later family's looks); each row that meets fmt, with fmt's text TOLD by the authors' own Lean function (tested against real Go, not proved from fmt's source: count such statements apart). THE CARD IS WHAT COUNTS. Prove the row's statement (the work); the ties are given (YtgbeenpchkneiaaGreatDoorTie.lean); close each card by the builder's one call (the guide's Derived/Test/ToyasCard.lean, 'card_holds'). Laid BY PROGRAM, IN A SANDBOX (cutbox-door.mjs). By AI agents, Wed Nov 11 2026. No macro, syntax, notation, axiom, sorry.
-/
import Derived.Test.YtgbeenpchkneiaaGreatDoorRows
import GoSem.ClaimSeven
namespace Go.Proofs.YtgbeenpchkneiaaGreatDoor
namespace Rows

/-- THE TIED CARD OF 'bluelinelaw09.SpareExamples'. -/
def spareExamplesCard : Claim7 := { stood := { row := spareExamplesRow, standIns := [], harness := (true, "90a036d96d4102e88cc00ac5523df59ed5bc96b9f80ba96958b56b0a7f1f48e3"), looks := false }, kinds := [], alts := [], laidByText := true, laidKinds := [.funcs, .funcs, .data, .funcs, .funcs, .funcs], laidTests := true, laidLooks := .later }
def SpareExamplesCardSaid : Prop := Claim7.holds Tryz.pinned (.plain (OpenSpec.ofChange spareExamplesSpec)) spareExamplesCard

/-- THE SECOND FORM's CARD OF 'bluelinelaw09.SpareExamples'. -/
def spareExamplesUptoCard : Claim7 := { stood := { row := spareExamplesUptoRow, standIns := [], harness := (true, "90a036d96d4102e88cc00ac5523df59ed5bc96b9f80ba96958b56b0a7f1f48e3"), looks := false }, kinds := [], alts := [], laidByText := true, laidKinds := [.funcs, .funcs, .data, .funcs, .funcs, .funcs], laidTests := true, laidLooks := .later }
def SpareExamplesUptoCardSaid : Prop := Claim7.holds Tryz.pinned (.plain (OpenSpec.upto spareExamplesSpec)) spareExamplesUptoCard
end Rows
end Go.Proofs.YtgbeenpchkneiaaGreatDoor
