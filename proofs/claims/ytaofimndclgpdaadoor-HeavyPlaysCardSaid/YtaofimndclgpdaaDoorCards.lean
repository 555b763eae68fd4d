/-
  DERIVED. GIVEN WITH THE SEED: THE CARDS: each row of YtaofimndclgpdaaDoorRows.lean that lists a variable, with what it lists TIED to the program's text (the seventh form; the later family's looks); each row that meets fmt, with fmt's text TOLD by the authors' own Lean function (tested against real Go, not proved from fmt's source: count such statements apart). THE CARD IS WHAT COUNTS. Prove the row's statement (the work); the ties are given (YtaofimndclgpdaaDoorTie.lean); close each card by the builder's one call (the guide's Derived/Test/ToyasCard.lean, 'card_holds'). Laid BY PROGRAM, IN A SANDBOX (cutbox-door.mjs). By AI agents, Wed Nov 11 2026. No macro, syntax, notation, axiom, sorry.
-/
import Derived.Test.YtaofimndclgpdaaDoorRows
import GoSem.ClaimSeven
namespace Go.Proofs.YtaofimndclgpdaaDoor
namespace Rows

/-- THE TIED CARD OF 'portlaw2.HeavyPlays'. -/
def heavyPlaysCard : Claim7 := { stood := { row := heavyPlaysRow, standIns := [], harness := (true, "d5610c6e223c3253b0585ee0a40b490e13ddb0c8ad190c2f9f62fbab6ca8f4f8"), looks := true }, kinds := [], alts := [], laidByText := true, laidKinds := [.handle], laidTests := true, laidLooks := .later }
def HeavyPlaysCardSaid : Prop := Claim7.holds Tryd.pinned (.plain (OpenSpec.ofChange heavyPlaysSpec)) heavyPlaysCard

/-- THE SECOND FORM's CARD OF 'portlaw2.HeavyPlays'. -/
def heavyPlaysUptoCard : Claim7 := { stood := { row := heavyPlaysUptoRow, standIns := [], harness := (true, "d5610c6e223c3253b0585ee0a40b490e13ddb0c8ad190c2f9f62fbab6ca8f4f8"), looks := true }, kinds := [], alts := [], laidByText := true, laidKinds := [.handle], laidTests := true, laidLooks := .later }
def HeavyPlaysUptoCardSaid : Prop := Claim7.holds Tryd.pinned (.plain (OpenSpec.upto heavyPlaysSpec)) heavyPlaysUptoCard
end Rows
end Go.Proofs.YtaofimndclgpdaaDoor
