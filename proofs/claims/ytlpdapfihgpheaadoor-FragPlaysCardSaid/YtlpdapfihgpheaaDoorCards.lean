/-
  DERIVED. GIVEN WITH THE SEED: THE CARDS: each row of YtlpdapfihgpheaaDoorRows.lean that lists a variable, with what it lists TIED to the program's text (the seventh form; the later family's looks); each row that meets fmt, with fmt's text TOLD by the authors' own Lean function (tested against real Go, not proved from fmt's source: count such statements apart). THE CARD IS WHAT COUNTS. Prove the row's statement (the work); the ties are given (YtlpdapfihgpheaaDoorTie.lean); close each card by the builder's one call (the guide's Derived/Test/ToyasCard.lean, 'card_holds'). Laid BY PROGRAM, IN A SANDBOX (cutbox-door.mjs). By AI agents, Wed Nov 11 2026. No macro, syntax, notation, axiom, sorry.
-/
import Derived.Test.YtlpdapfihgpheaaDoorRows
import GoSem.ClaimSeven
namespace Go.Proofs.YtlpdapfihgpheaaDoor
namespace Rows

/-- THE TIED CARD OF 'portlaw2.FragSplits'. -/
def fragSplitsCard : Claim7 := { stood := { row := fragSplitsRow, standIns := [], harness := (true, "a7f6ea16499766fec2bee5ddc20b50857edd143d77f7832fc7b6d11afced7811"), looks := true }, kinds := [], alts := [], laidByText := true, laidKinds := [.handle], laidTests := true, laidLooks := .later }
def FragSplitsCardSaid : Prop := Claim7.holds Tryd.pinned (.plain (OpenSpec.ofChange fragSplitsSpec)) fragSplitsCard

/-- THE TIED CARD OF 'portlaw2.FragPlays'. -/
def fragPlaysCard : Claim7 := { stood := { row := fragPlaysRow, standIns := [], harness := (true, "a7f6ea16499766fec2bee5ddc20b50857edd143d77f7832fc7b6d11afced7811"), looks := true }, kinds := [], alts := [], laidByText := true, laidKinds := [.handle], laidTests := true, laidLooks := .later }
def FragPlaysCardSaid : Prop := Claim7.holds Tryd.pinned (.plain (OpenSpec.ofChange fragPlaysSpec)) fragPlaysCard

/-- THE TIED CARD OF 'portlaw2.FragBack'. -/
def fragBackCard : Claim7 := { stood := { row := fragBackRow, standIns := [], harness := (true, "a7f6ea16499766fec2bee5ddc20b50857edd143d77f7832fc7b6d11afced7811"), looks := true }, kinds := [], alts := [], laidByText := true, laidKinds := [.handle], laidTests := true, laidLooks := .later }
def FragBackCardSaid : Prop := Claim7.holds Tryd.pinned (.plain (OpenSpec.ofChange fragBackSpec)) fragBackCard

/-- THE SECOND FORM's CARD OF 'portlaw2.FragSplits'. -/
def fragSplitsUptoCard : Claim7 := { stood := { row := fragSplitsUptoRow, standIns := [], harness := (true, "a7f6ea16499766fec2bee5ddc20b50857edd143d77f7832fc7b6d11afced7811"), looks := true }, kinds := [], alts := [], laidByText := true, laidKinds := [.handle], laidTests := true, laidLooks := .later }
def FragSplitsUptoCardSaid : Prop := Claim7.holds Tryd.pinned (.plain (OpenSpec.upto fragSplitsSpec)) fragSplitsUptoCard

/-- THE SECOND FORM's CARD OF 'portlaw2.FragPlays'. -/
def fragPlaysUptoCard : Claim7 := { stood := { row := fragPlaysUptoRow, standIns := [], harness := (true, "a7f6ea16499766fec2bee5ddc20b50857edd143d77f7832fc7b6d11afced7811"), looks := true }, kinds := [], alts := [], laidByText := true, laidKinds := [.handle], laidTests := true, laidLooks := .later }
def FragPlaysUptoCardSaid : Prop := Claim7.holds Tryd.pinned (.plain (OpenSpec.upto fragPlaysSpec)) fragPlaysUptoCard

/-- THE SECOND FORM's CARD OF 'portlaw2.FragBack'. -/
def fragBackUptoCard : Claim7 := { stood := { row := fragBackUptoRow, standIns := [], harness := (true, "a7f6ea16499766fec2bee5ddc20b50857edd143d77f7832fc7b6d11afced7811"), looks := true }, kinds := [], alts := [], laidByText := true, laidKinds := [.handle], laidTests := true, laidLooks := .later }
def FragBackUptoCardSaid : Prop := Claim7.holds Tryd.pinned (.plain (OpenSpec.upto fragBackSpec)) fragBackUptoCard
end Rows
end Go.Proofs.YtlpdapfihgpheaaDoor
