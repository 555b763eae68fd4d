/-
  DERIVED. GIVEN WITH THE SEED: THE CARDS: each row of YtchkpkeljcdccaaDoorRows.lean that lists a variable, with what it lists TIED to the program's text (the seventh form; the later family's looks); each row that meets fmt, with fmt's text TOLD by the authors' own Lean function (tested against real Go, not proved from fmt's source: count such statements apart). THE CARD IS WHAT COUNTS. Prove the row's statement (the work); the ties are given (YtchkpkeljcdccaaDoorTie.lean); close each card by the builder's one call (the guide's Derived/Test/ToyasCard.lean, 'card_holds'). Laid BY PROGRAM, IN A SANDBOX (cutbox-door.mjs). By AI agents, Wed Nov 11 2026. No macro, syntax, notation, axiom, sorry.
-/
import Derived.Test.YtchkpkeljcdccaaDoorRows
import GoSem.ClaimSeven
namespace Go.Proofs.YtchkpkeljcdccaaDoor
namespace Rows

/-- THE TIED CARD OF 'portlaw1.AddrCovers'. -/
def addrCoversCard : Claim7 := { stood := { row := addrCoversRow, standIns := [], harness := (true, "5484fd0626ffdde3301cac5accf37476c75b0b3781b1493bc34bea89839bc0be"), looks := true }, kinds := [], alts := [], laidByText := true, laidKinds := [.handle], laidTests := true, laidLooks := .later }
def AddrCoversCardSaid : Prop := Claim7.holds Tryd.pinned (.plain (OpenSpec.ofChange addrCoversSpec)) addrCoversCard

/-- THE TIED CARD OF 'portlaw1.SpanSets'. -/
def spanSetsCard : Claim7 := { stood := { row := spanSetsRow, standIns := [], harness := (true, "5484fd0626ffdde3301cac5accf37476c75b0b3781b1493bc34bea89839bc0be"), looks := true }, kinds := [], alts := [], laidByText := true, laidKinds := [.handle], laidTests := true, laidLooks := .later }
def SpanSetsCardSaid : Prop := Claim7.holds Tryd.pinned (.plain (OpenSpec.ofChange spanSetsSpec)) spanSetsCard

/-- THE TIED CARD OF 'portlaw1.JudgeTells'. -/
def judgeTellsCard : Claim7 := { stood := { row := judgeTellsRow, standIns := [], harness := (true, "5484fd0626ffdde3301cac5accf37476c75b0b3781b1493bc34bea89839bc0be"), looks := true }, kinds := [], alts := [], laidByText := true, laidKinds := [.handle], laidTests := true, laidLooks := .later }
def JudgeTellsCardSaid : Prop := Claim7.holds Tryd.pinned (.plain (OpenSpec.ofChange judgeTellsSpec)) judgeTellsCard

/-- THE TIED CARD OF 'portlaw4.AddrWithin'. -/
def addrWithinCard : Claim7 := { stood := { row := addrWithinRow, standIns := [], harness := (true, "5484fd0626ffdde3301cac5accf37476c75b0b3781b1493bc34bea89839bc0be"), looks := true }, kinds := [], alts := [], laidByText := true, laidKinds := [.data, .data, .data, .data, .sentinel, .sentinel, .pinned], laidTests := true, laidLooks := .later }
def AddrWithinCardSaid : Prop := Claim7.holds Tryd.pinned (.plain (OpenSpec.ofChange addrWithinSpec)) addrWithinCard

/-- THE SECOND FORM's CARD OF 'portlaw1.AddrCovers'. -/
def addrCoversUptoCard : Claim7 := { stood := { row := addrCoversUptoRow, standIns := [], harness := (true, "5484fd0626ffdde3301cac5accf37476c75b0b3781b1493bc34bea89839bc0be"), looks := true }, kinds := [], alts := [], laidByText := true, laidKinds := [.handle], laidTests := true, laidLooks := .later }
def AddrCoversUptoCardSaid : Prop := Claim7.holds Tryd.pinned (.plain (OpenSpec.upto addrCoversSpec)) addrCoversUptoCard

/-- THE SECOND FORM's CARD OF 'portlaw1.SpanSets'. -/
def spanSetsUptoCard : Claim7 := { stood := { row := spanSetsUptoRow, standIns := [], harness := (true, "5484fd0626ffdde3301cac5accf37476c75b0b3781b1493bc34bea89839bc0be"), looks := true }, kinds := [], alts := [], laidByText := true, laidKinds := [.handle], laidTests := true, laidLooks := .later }
def SpanSetsUptoCardSaid : Prop := Claim7.holds Tryd.pinned (.plain (OpenSpec.upto spanSetsSpec)) spanSetsUptoCard

/-- THE SECOND FORM's CARD OF 'portlaw1.JudgeTells'. -/
def judgeTellsUptoCard : Claim7 := { stood := { row := judgeTellsUptoRow, standIns := [], harness := (true, "5484fd0626ffdde3301cac5accf37476c75b0b3781b1493bc34bea89839bc0be"), looks := true }, kinds := [], alts := [], laidByText := true, laidKinds := [.handle], laidTests := true, laidLooks := .later }
def JudgeTellsUptoCardSaid : Prop := Claim7.holds Tryd.pinned (.plain (OpenSpec.upto judgeTellsSpec)) judgeTellsUptoCard

/-- THE SECOND FORM's CARD OF 'portlaw4.AddrWithin'. -/
def addrWithinUptoCard : Claim7 := { stood := { row := addrWithinUptoRow, standIns := [], harness := (true, "5484fd0626ffdde3301cac5accf37476c75b0b3781b1493bc34bea89839bc0be"), looks := true }, kinds := [], alts := [], laidByText := true, laidKinds := [.data, .data, .data, .data, .sentinel, .sentinel, .pinned], laidTests := true, laidLooks := .later }
def AddrWithinUptoCardSaid : Prop := Claim7.holds Tryd.pinned (.plain (OpenSpec.upto addrWithinSpec)) addrWithinUptoCard
end Rows
end Go.Proofs.YtchkpkeljcdccaaDoor
