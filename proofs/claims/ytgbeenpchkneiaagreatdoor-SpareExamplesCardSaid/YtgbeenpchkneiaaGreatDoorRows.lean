/-
  NARROWER THAN 'FOR EVERY INPUT', by the rows' own cells (each row's printed sentence says how): SpareExamples: laid.
  DERIVED. THE GIVEN ROWS OF THIS SEAT. 1 by the template 'for every input the law returns true; each argument reads behind the call as it read before'; 0 by the template 'total and deterministic' (their statements: YtgbeenpchkneiaaGreatDoorTotals.lean).
  GIVEN WITH THE SEED: the statements are not yours to turn. If you find one false, say at which input.
  Laid BY PROGRAM, IN A SANDBOX (cutbox-rows.mjs): the forced cells as the released guide's own fill.sh prints them over the translation d0f3d1773242bdb2… (all of the seat's roots in one cut). By AI agents, Wed Nov 11 2026. No macro, syntax, notation, axiom, sorry.
-/
import Derived.Test.YtgbeenpchkneiaaGreatDoorChecked
import GoSem.Claim
import GoSem.ClaimJoined
import GoSem.ClaimMapViews
import Derived.JoinedTies
import Derived.KernelRfl
namespace Go.Proofs.YtgbeenpchkneiaaGreatDoor
/- THE CELL 'sum', in the pinned program and in every row, IS THE sha256 OF THE DUMP (.gsa) THAT YtgbeenpchkneiaaGreatDoorProg.lean LOADS. Nothing in Lean hashes anything: it is a label: what it is worth is what the hold of that sum in a sandbox is worth. -/
noncomputable def Tryz.pinned : Pinned := { name := "ytgbeenpchkneiaagreatdoor", sum := "d0f3d1773242bdb2dde589f1d250422454711a9cc4b8ec5ae057655328b766f4", checked := Tryz.checked }
namespace Rows
def none {H : Type} : Left H := { results := [], args := [] }

/- WHAT THE LISTED PACKAGE-LEVEL VARIABLES READ AS WHEN THE CALL BEGINS. Each datum BY PROGRAM (the guide's laid-datum.mjs) off the statement by which the dump's own 'gosem.cut.vars' lays the variable. In a bare row this is a premise. The card (YtgbeenpchkneiaaGreatDoorCards.lean) ties it to the program's text. -/
def laid_blueline_sheet_checks {H : Type} : DataW H := .iface "func table" (.agg [.agg [.iface "func" (.lit (.string [98, 108, 117, 101, 108, 105, 110, 101, 47, 115, 104, 101, 101, 116, 46, 99, 104, 101, 99, 107, 115, 36, 49]))], .agg [.iface "func" (.lit (.string [98, 108, 117, 101, 108, 105, 110, 101, 47, 115, 104, 101, 101, 116, 46, 99, 104, 101, 99, 107, 115, 36, 50]))], .agg [.iface "func" (.lit (.string [98, 108, 117, 101, 108, 105, 110, 101, 47, 115, 104, 101, 101, 116, 46, 99, 104, 101, 99, 107, 115, 36, 51]))], .agg [.iface "func" (.lit (.string [98, 108, 117, 101, 108, 105, 110, 101, 47, 115, 104, 101, 101, 116, 46, 99, 104, 101, 99, 107, 115, 36, 52]))]])
def laid_blueline_note_checks {H : Type} : DataW H := .iface "func table" (.agg [.agg [.iface "func" (.lit (.string [98, 108, 117, 101, 108, 105, 110, 101, 47, 110, 111, 116, 101, 46, 99, 104, 101, 99, 107, 115, 36, 49]))], .agg [.iface "func" (.lit (.string [98, 108, 117, 101, 108, 105, 110, 101, 47, 110, 111, 116, 101, 46, 99, 104, 101, 99, 107, 115, 36, 50]))], .agg [.iface "func" (.lit (.string [98, 108, 117, 101, 108, 105, 110, 101, 47, 110, 111, 116, 101, 46, 99, 104, 101, 99, 107, 115, 36, 51]))], .agg [.iface "func" (.lit (.string [98, 108, 117, 101, 108, 105, 110, 101, 47, 110, 111, 116, 101, 46, 99, 104, 101, 99, 107, 115, 36, 52]))], .agg [.iface "func" (.lit (.string [98, 108, 117, 101, 108, 105, 110, 101, 47, 110, 111, 116, 101, 46, 99, 104, 101, 99, 107, 115, 36, 53]))], .agg [.iface "func" (.lit (.string [98, 108, 117, 101, 108, 105, 110, 101, 47, 110, 111, 116, 101, 46, 99, 104, 101, 99, 107, 115, 36, 54]))], .agg [.iface "func" (.lit (.string [98, 108, 117, 101, 108, 105, 110, 101, 47, 110, 111, 116, 101, 46, 99, 104, 101, 99, 107, 115, 36, 55]))], .agg [.iface "func" (.lit (.string [98, 108, 117, 101, 108, 105, 110, 101, 47, 110, 111, 116, 101, 46, 99, 104, 101, 99, 107, 115, 36, 56]))]])
def laid_blueline_built_nothing {H : Type} : DataW H := .agg [.lit (.int .i64 1), .lit (.int .i64 0)]
def laid_blueline_built_kinds {H : Type} : DataW H := .iface "func table" (.agg [.agg [.nil, .nil], .agg [.iface "func" (.lit (.string [98, 108, 117, 101, 108, 105, 110, 101, 47, 98, 117, 105, 108, 116, 46, 107, 105, 110, 100, 115, 36, 49])), .iface "func" (.lit (.string [98, 108, 117, 101, 108, 105, 110, 101, 47, 98, 117, 105, 108, 116, 46, 107, 105, 110, 100, 115, 36, 50]))], .agg [.iface "func" (.lit (.string [98, 108, 117, 101, 108, 105, 110, 101, 47, 98, 117, 105, 108, 116, 46, 107, 105, 110, 100, 115, 36, 51])), .iface "func" (.lit (.string [98, 108, 117, 101, 108, 105, 110, 101, 47, 98, 117, 105, 108, 116, 46, 107, 105, 110, 100, 115, 36, 52]))], .agg [.iface "func" (.lit (.string [98, 108, 117, 101, 108, 105, 110, 101, 47, 98, 117, 105, 108, 116, 46, 107, 105, 110, 100, 115, 36, 53])), .iface "func" (.lit (.string [98, 108, 117, 101, 108, 105, 110, 101, 47, 98, 117, 105, 108, 116, 46, 107, 105, 110, 100, 115, 36, 54]))]])
def laid_blueline_swap_sources {H : Type} : DataW H := .iface "func table" (.agg [.agg [.iface "func" (.lit (.string [40, 98, 108, 117, 101, 108, 105, 110, 101, 47, 115, 119, 97, 112, 46, 109, 111, 109, 101, 110, 116, 41, 46, 98, 121, 78, 111, 116, 101, 115]))], .agg [.iface "func" (.lit (.string [40, 98, 108, 117, 101, 108, 105, 110, 101, 47, 115, 119, 97, 112, 46, 109, 111, 109, 101, 110, 116, 41, 46, 98, 121, 82, 117, 108, 101, 115]))]])
def laid_blueline_spare_kinds {H : Type} : DataW H := .iface "func table" (.agg [.agg [.iface "func" (.lit (.string [98, 108, 117, 101, 108, 105, 110, 101, 47, 115, 112, 97, 114, 101, 46, 107, 105, 110, 100, 115, 36, 49])), .iface "func" (.lit (.string [98, 108, 117, 101, 108, 105, 110, 101, 47, 115, 112, 97, 114, 101, 46, 107, 105, 110, 100, 115, 36, 50]))], .agg [.iface "func" (.lit (.string [98, 108, 117, 101, 108, 105, 110, 101, 47, 115, 112, 97, 114, 101, 46, 107, 105, 110, 100, 115, 36, 51])), .iface "func" (.lit (.string [98, 108, 117, 101, 108, 105, 110, 101, 47, 115, 112, 97, 114, 101, 46, 107, 105, 110, 100, 115, 36, 52]))]])

/-- 'bluelinelaw09.SpareExamples': WHATEVER THE INPUT: true; the input reads as it did. -/
def spareExamplesSpec : ChangeSpec := { name := "spareExamples", fn := fun _ => fun
  | [] => { results := [.lit (.bool true)], args := [] }
  | _ => none }
def spareExamplesRow : OpenClaim := { program := "ytgbeenpchkneiaagreatdoor", sum := "d0f3d1773242bdb2dde589f1d250422454711a9cc4b8ec5ae057655328b766f4", func := "blueline/bluelinelaw09.SpareExamples", spec := "spareExamples", unfollowed := true, recurses := true, named := ["blueline/note.checks", "blueline/sheet.checks", "blueline/built.nothing", "blueline/built.kinds", "blueline/swap.sources", "blueline/spare.kinds"], plainKeys := false, apart := false, laid := [("blueline/sheet.checks", laid_blueline_sheet_checks), ("blueline/note.checks", laid_blueline_note_checks), ("blueline/built.nothing", laid_blueline_built_nothing), ("blueline/built.kinds", laid_blueline_built_kinds), ("blueline/swap.sources", laid_blueline_swap_sources), ("blueline/spare.kinds", laid_blueline_spare_kinds)] }
def SpareExamplesSaid : Prop := spareExamplesRow.holds Tryz.pinned (OpenSpec.ofChange spareExamplesSpec)

/-- ITS FALSE NEIGHBOUR: 'it returns false'. Refute it at one input. -/
def spareExamplesWrong : ChangeSpec := { name := "spareExamples", fn := fun _ => fun
  | [] => { results := [.lit (.bool false)], args := [] }
  | _ => none }
def SpareExamplesWrongFalsely : Prop := spareExamplesRow.holds Tryz.pinned (OpenSpec.ofChange spareExamplesWrong)

/- THE SECOND FORM. 'bulk': how many values and letters a reading holds, each counted each time it is reached (what is shared counts as often as it is met; a slice's spare places count too). A statement '..UptoSaid' is the law's where the arguments, and the package variables that the reading takes, are together of bulk at most 1048576: NARROWER than '..Said'. Prove '..Said' where nothing that the law and all that it calls make is longer than what came in: it says more and counts as full. Else prove '..UptoSaid'. A law counts once. -/
mutual
def uptoBulk {H : Type} : DataW H → Nat
  | .lit (.string bytes) => bytes.length + 1
  | .lit _ => 1
  | .nil => 1
  | .ptr d => uptoBulk d + 1
  | .slice elems spare => uptoBulkAll elems + uptoBulkAll spare + 1
  | .agg parts => uptoBulkAll parts + 1
  | .iface _ d => uptoBulk d + 1
  | .map entries => uptoBulkEntries entries + 1
  | .held _ => 1
def uptoBulkAll {H : Type} : List (DataW H) → Nat
  | [] => 0
  | d :: r => uptoBulk d + uptoBulkAll r
def uptoBulkEntries {H : Type} : List (Lit × DataW H) → Nat
  | [] => 0
  | x :: r => uptoBulkEntry x + uptoBulkEntries r
def uptoBulkEntry {H : Type} : Lit × DataW H → Nat
  | (.string bytes, d) => bytes.length + uptoBulk d + 1
  | (_, d) => uptoBulk d + 1
 end
def uptoSmall : (H : Type) → List (DataW H) → Bool := fun _ ds => decide (uptoBulkAll ds ≤ 1048576)
def OpenSpec.upto (s : _root_.Go.ChangeSpec) : _root_.Go.OpenSpec := { _root_.Go.OpenSpec.ofChange s with cond := some uptoSmall }

/-- 'bluelinelaw09.SpareExamples', WHERE WHAT IT READS IS OF BULK AT MOST 1048576: true; the input reads as it did. -/
def spareExamplesUptoRow : OpenClaim := { program := "ytgbeenpchkneiaagreatdoor", sum := "d0f3d1773242bdb2dde589f1d250422454711a9cc4b8ec5ae057655328b766f4", func := "blueline/bluelinelaw09.SpareExamples", spec := "spareExamples", unfollowed := true, recurses := true, named := ["blueline/note.checks", "blueline/sheet.checks", "blueline/built.nothing", "blueline/built.kinds", "blueline/swap.sources", "blueline/spare.kinds"], plainKeys := false, apart := false, laid := [("blueline/sheet.checks", laid_blueline_sheet_checks), ("blueline/note.checks", laid_blueline_note_checks), ("blueline/built.nothing", laid_blueline_built_nothing), ("blueline/built.kinds", laid_blueline_built_kinds), ("blueline/swap.sources", laid_blueline_swap_sources), ("blueline/spare.kinds", laid_blueline_spare_kinds)], narrowed := true }
def SpareExamplesUptoSaid : Prop := spareExamplesUptoRow.holds Tryz.pinned (OpenSpec.upto spareExamplesSpec)

end Rows
end Go.Proofs.YtgbeenpchkneiaaGreatDoor
