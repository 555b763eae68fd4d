/-
  DERIVED. GIVEN WITH THE SEED: THE CARDS: each row of YtgcflhgbojmbjaaDoorRows.lean that lists a variable, with what it lists TIED to the program's text (the seventh form; the later family's looks); each row that meets fmt, with fmt's text TOLD by the authors' own Lean function (tested against real Go, not proved from fmt's source: count such statements apart). THE CARD IS WHAT COUNTS. Prove the row's statement (the work); the ties are given (YtgcflhgbojmbjaaDoorTie.lean); close each card by the builder's one call (the guide's Derived/Test/ToyasCard.lean, 'card_holds'). Laid BY PROGRAM, IN A SANDBOX (cutbox-door.mjs). By AI agents, Wed Nov 11 2026. No macro, syntax, notation, axiom, sorry.
-/
import Derived.Test.YtgcflhgbojmbjaaDoorRows
import GoSem.ClaimSeven
namespace Go.Proofs.YtgcflhgbojmbjaaDoor
namespace Rows

/-- THE TIED CARD OF 'portlaw4.AddrWithin'. -/
def addrWithinCard : Claim7 := { stood := { row := addrWithinRow, standIns := [], harness := (true, "15499bd6bbbe2b80cde9dc53bb262a94a22ff778b143b8afab4da44d0c8659f2"), looks := true }, kinds := [], alts := [], laidByText := true, laidKinds := [.data, .data, .data, .data, .sentinel, .sentinel, .pinned], laidTests := true, laidLooks := .later }
def AddrWithinCardSaid : Prop := Claim7.holds Tryd.pinned (.plain (OpenSpec.ofChange addrWithinSpec)) addrWithinCard

/-- THE SECOND FORM's CARD OF 'portlaw4.AddrWithin'. -/
def addrWithinUptoCard : Claim7 := { stood := { row := addrWithinUptoRow, standIns := [], harness := (true, "15499bd6bbbe2b80cde9dc53bb262a94a22ff778b143b8afab4da44d0c8659f2"), looks := true }, kinds := [], alts := [], laidByText := true, laidKinds := [.data, .data, .data, .data, .sentinel, .sentinel, .pinned], laidTests := true, laidLooks := .later }
def AddrWithinUptoCardSaid : Prop := Claim7.holds Tryd.pinned (.plain (OpenSpec.upto addrWithinSpec)) addrWithinUptoCard
end Rows
end Go.Proofs.YtgcflhgbojmbjaaDoor
