/-
  DERIVED. GIVEN WITH THE SEED: THE CARDS: each row of YtdodlmlcbhmikaaDoorRows.lean that lists a variable, with what it lists TIED to the program's text (the seventh form; the later family's looks); each row that meets fmt, with fmt's text TOLD by the authors' own Lean function (tested against real Go, not proved from fmt's source: count such statements apart). THE CARD IS WHAT COUNTS. Prove the row's statement (the work); the ties are given (YtdodlmlcbhmikaaDoorTie.lean); close each card by the builder's one call (the guide's Derived/Test/ToyasCard.lean, 'card_holds'). Laid BY PROGRAM, IN A SANDBOX (cutbox-door.mjs). By AI agents, Wed Nov 11 2026. No macro, syntax, notation, axiom, sorry.
-/
import Derived.Test.YtdodlmlcbhmikaaDoorRows
import GoSem.ClaimSeven
namespace Go.Proofs.YtdodlmlcbhmikaaDoor
namespace Rows

/-- THE TIED CARD OF 'haruspexlaw34.AdjustKnown'. -/
def adjustKnownCard : Claim7 := { stood := { row := adjustKnownRow, standIns := [], harness := (true, "83242af876e5d0371b28c21983cfc92a646faee686141564c01ce3ca4ed709b9"), looks := false }, kinds := [], alts := [], laidByText := true, laidKinds := [.data, .data], laidTests := true, laidLooks := .later }
def AdjustKnownCardSaid : Prop := Claim7.holds Tryd.pinned (.plain (OpenSpec.ofChange adjustKnownSpec)) adjustKnownCard

/-- THE SECOND FORM's CARD OF 'haruspexlaw34.AdjustKnown'. -/
def adjustKnownUptoCard : Claim7 := { stood := { row := adjustKnownUptoRow, standIns := [], harness := (true, "83242af876e5d0371b28c21983cfc92a646faee686141564c01ce3ca4ed709b9"), looks := false }, kinds := [], alts := [], laidByText := true, laidKinds := [.data, .data], laidTests := true, laidLooks := .later }
def AdjustKnownUptoCardSaid : Prop := Claim7.holds Tryd.pinned (.plain (OpenSpec.upto adjustKnownSpec)) adjustKnownUptoCard
end Rows
end Go.Proofs.YtdodlmlcbhmikaaDoor
