/-
  DERIVED. GIVEN WITH THE SEED: THE CARDS: each row of YtejndjmlgacffaaDoorRows.lean that lists a variable, with what it lists TIED to the program's text (the seventh form; the later family's looks); each row that meets fmt, with fmt's text TOLD by the authors' own Lean function (tested against real Go, not proved from fmt's source: count such statements apart). THE CARD IS WHAT COUNTS. Prove the row's statement (the work); the ties are given (YtejndjmlgacffaaDoorTie.lean); close each card by the builder's one call (the guide's Derived/Test/ToyasCard.lean, 'card_holds'). Laid BY PROGRAM, IN A SANDBOX (cutbox-door.mjs). By AI agents, Wed Nov 11 2026. No macro, syntax, notation, axiom, sorry.
-/
import Derived.Test.YtejndjmlgacffaaDoorRows
import GoSem.ClaimSeven
namespace Go.Proofs.YtejndjmlgacffaaDoor
namespace Rows

/-- THE TIED CARD OF 'portlaw3.DiffApplies'. -/
def diffAppliesCard : Claim7 := { stood := { row := diffAppliesRow, standIns := [], harness := (true, "320cb18114c074a2ebe37b68fded517aee9f0cec97e4ddcb628ba07a08c4f27f"), looks := true }, kinds := [], alts := [], laidByText := true, laidKinds := [.handle], laidTests := true, laidLooks := .later }
def DiffAppliesCardSaid : Prop := Claim7.holds Tryd.pinned (.plain (OpenSpec.ofChange diffAppliesSpec)) diffAppliesCard

/-- THE TIED CARD OF 'portlaw2.FragPlays'. -/
def fragPlaysCard : Claim7 := { stood := { row := fragPlaysRow, standIns := [], harness := (true, "320cb18114c074a2ebe37b68fded517aee9f0cec97e4ddcb628ba07a08c4f27f"), looks := true }, kinds := [], alts := [], laidByText := true, laidKinds := [.handle], laidTests := true, laidLooks := .later }
def FragPlaysCardSaid : Prop := Claim7.holds Tryd.pinned (.plain (OpenSpec.ofChange fragPlaysSpec)) fragPlaysCard

/-- THE TIED CARD OF 'portlaw2.FragBack'. -/
def fragBackCard : Claim7 := { stood := { row := fragBackRow, standIns := [], harness := (true, "320cb18114c074a2ebe37b68fded517aee9f0cec97e4ddcb628ba07a08c4f27f"), looks := true }, kinds := [], alts := [], laidByText := true, laidKinds := [.handle], laidTests := true, laidLooks := .later }
def FragBackCardSaid : Prop := Claim7.holds Tryd.pinned (.plain (OpenSpec.ofChange fragBackSpec)) fragBackCard

/-- THE SECOND FORM's CARD OF 'portlaw3.DiffApplies'. -/
def diffAppliesUptoCard : Claim7 := { stood := { row := diffAppliesUptoRow, standIns := [], harness := (true, "320cb18114c074a2ebe37b68fded517aee9f0cec97e4ddcb628ba07a08c4f27f"), looks := true }, kinds := [], alts := [], laidByText := true, laidKinds := [.handle], laidTests := true, laidLooks := .later }
def DiffAppliesUptoCardSaid : Prop := Claim7.holds Tryd.pinned (.plain (OpenSpec.upto diffAppliesSpec)) diffAppliesUptoCard

/-- THE SECOND FORM's CARD OF 'portlaw2.FragPlays'. -/
def fragPlaysUptoCard : Claim7 := { stood := { row := fragPlaysUptoRow, standIns := [], harness := (true, "320cb18114c074a2ebe37b68fded517aee9f0cec97e4ddcb628ba07a08c4f27f"), looks := true }, kinds := [], alts := [], laidByText := true, laidKinds := [.handle], laidTests := true, laidLooks := .later }
def FragPlaysUptoCardSaid : Prop := Claim7.holds Tryd.pinned (.plain (OpenSpec.upto fragPlaysSpec)) fragPlaysUptoCard

/-- THE SECOND FORM's CARD OF 'portlaw2.FragBack'. -/
def fragBackUptoCard : Claim7 := { stood := { row := fragBackUptoRow, standIns := [], harness := (true, "320cb18114c074a2ebe37b68fded517aee9f0cec97e4ddcb628ba07a08c4f27f"), looks := true }, kinds := [], alts := [], laidByText := true, laidKinds := [.handle], laidTests := true, laidLooks := .later }
def FragBackUptoCardSaid : Prop := Claim7.holds Tryd.pinned (.plain (OpenSpec.upto fragBackSpec)) fragBackUptoCard
end Rows
end Go.Proofs.YtejndjmlgacffaaDoor
