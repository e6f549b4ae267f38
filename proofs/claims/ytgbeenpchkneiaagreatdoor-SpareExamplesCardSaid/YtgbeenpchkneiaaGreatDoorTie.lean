/-
  DERIVED. GIVEN WITH THE SEED: THE PROGRAM's TIES (one call each: nine closed facts by the kernel) AND EACH ROW's TIE, after the 31st guide's Derived/Test/Toyas{Tie, Card}.lean. No idea stands in it: it is a product of the set-up. Laid BY PROGRAM, IN A SANDBOX (cutbox-door.mjs). By AI agents, Wed Nov 11 2026. No macro, syntax, notation, axiom, sorry.
-/
import Derived.Test.YtgbeenpchkneiaaGreatDoorRows
import Derived.LaidByTextLater
import Derived.SevenTiedAt
import Derived.LaidSub
import Derived.LaidOnce
namespace Go.Proofs.YtgbeenpchkneiaaGreatDoor
open Go
set_option maxRecDepth 100000
theorem seatTie1 : Tryz.prog.laidByTextLater [("blueline/sheet.checks", Rows.laid_blueline_sheet_checks), ("blueline/note.checks", Rows.laid_blueline_note_checks), ("blueline/built.nothing", Rows.laid_blueline_built_nothing), ("blueline/built.kinds", Rows.laid_blueline_built_kinds), ("blueline/swap.sources", Rows.laid_blueline_swap_sources), ("blueline/spare.kinds", Rows.laid_blueline_spare_kinds)] [.funcs, .funcs, .data, .funcs, .funcs, .funcs] true :=
  Program.laidByTextLater_by_one 58 8 3 (by kernel_rfl) (by kernel_rfl) (by kernel_rfl) (by kernel_rfl) (by kernel_rfl) (by kernel_rfl) (fun _ _ => by kernel_rfl)
theorem noOwnUnsafe : Tryz.pinned.checked.prog.headLifts.contains "ownunsafe" = false := by kernel_rfl
theorem tie : Tryz.prog.laidByTextLater [("blueline/sheet.checks", Rows.laid_blueline_sheet_checks), ("blueline/note.checks", Rows.laid_blueline_note_checks), ("blueline/built.nothing", Rows.laid_blueline_built_nothing), ("blueline/built.kinds", Rows.laid_blueline_built_kinds), ("blueline/swap.sources", Rows.laid_blueline_swap_sources), ("blueline/spare.kinds", Rows.laid_blueline_spare_kinds)] [.funcs, .funcs, .data, .funcs, .funcs, .funcs] true :=
  Program.laidByTextLater.sub seatTie1 ["blueline/sheet.checks", "blueline/note.checks", "blueline/built.nothing", "blueline/built.kinds", "blueline/swap.sources", "blueline/spare.kinds"] (by kernel_rfl) (by kernel_rfl)
theorem spareExamples_row_tie : Rows.spareExamplesRow.laidByTextAt .later Tryz.pinned [.funcs, .funcs, .data, .funcs, .funcs, .funcs] true :=
  OpenClaim.laidByTextAt_later rfl rfl tie noOwnUnsafe
theorem spareExamplesUpto_row_tie : Rows.spareExamplesUptoRow.laidByTextAt .later Tryz.pinned [.funcs, .funcs, .data, .funcs, .funcs, .funcs] true :=
  OpenClaim.laidByTextAt_later rfl rfl tie noOwnUnsafe
end Go.Proofs.YtgbeenpchkneiaaGreatDoor
