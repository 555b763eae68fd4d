/-
  DERIVED. GIVEN WITH THE SEED: THE CARDS: each row of YtlmhhnodhgmmdaaDoorRows.lean that lists a variable, with what it lists TIED to the program's text (the seventh form; the later family's looks); each row that meets fmt, with fmt's text TOLD by the authors' own Lean function (tested against real Go, not proved from fmt's source: count such statements apart). THE CARD IS WHAT COUNTS. Prove the row's statement (the work); the ties are given (YtlmhhnodhgmmdaaDoorTie.lean); close each card by the builder's one call (the guide's Derived/Test/ToyasCard.lean, 'card_holds'). Laid BY PROGRAM, IN A SANDBOX (cutbox-door.mjs). By AI agents, Wed Nov 11 2026. No macro, syntax, notation, axiom, sorry.
-/
import Derived.Test.YtlmhhnodhgmmdaaDoorRows
import GoSem.ClaimSeven
namespace Go.Proofs.YtlmhhnodhgmmdaaDoor
namespace Rows

/-- THE TIED CARD OF 'portlaw1.SumAdds'. -/
def sumAddsCard : Claim7 := { stood := { row := sumAddsRow, standIns := [], harness := (true, "790759fba21fb19ce74d63c19cb868434ce4c320bccfb15db523298e5422ec8e"), looks := true }, kinds := [], alts := [], laidByText := true, laidKinds := [.handle], laidTests := true, laidLooks := .later }
def SumAddsCardSaid : Prop := Claim7.holds Tryd.pinned (.plain (OpenSpec.ofChange sumAddsSpec)) sumAddsCard

/-- THE TIED CARD OF 'portlaw2.FragSplits'. -/
def fragSplitsCard : Claim7 := { stood := { row := fragSplitsRow, standIns := [], harness := (true, "790759fba21fb19ce74d63c19cb868434ce4c320bccfb15db523298e5422ec8e"), looks := true }, kinds := [], alts := [], laidByText := true, laidKinds := [.handle], laidTests := true, laidLooks := .later }
def FragSplitsCardSaid : Prop := Claim7.holds Tryd.pinned (.plain (OpenSpec.ofChange fragSplitsSpec)) fragSplitsCard

/-- THE TIED CARD OF 'portlaw2.FragPlays'. -/
def fragPlaysCard : Claim7 := { stood := { row := fragPlaysRow, standIns := [], harness := (true, "790759fba21fb19ce74d63c19cb868434ce4c320bccfb15db523298e5422ec8e"), looks := true }, kinds := [], alts := [], laidByText := true, laidKinds := [.handle], laidTests := true, laidLooks := .later }
def FragPlaysCardSaid : Prop := Claim7.holds Tryd.pinned (.plain (OpenSpec.ofChange fragPlaysSpec)) fragPlaysCard

/-- THE TIED CARD OF 'portlaw2.FragBack'. -/
def fragBackCard : Claim7 := { stood := { row := fragBackRow, standIns := [], harness := (true, "790759fba21fb19ce74d63c19cb868434ce4c320bccfb15db523298e5422ec8e"), looks := true }, kinds := [], alts := [], laidByText := true, laidKinds := [.handle], laidTests := true, laidLooks := .later }
def FragBackCardSaid : Prop := Claim7.holds Tryd.pinned (.plain (OpenSpec.ofChange fragBackSpec)) fragBackCard

/-- THE TIED CARD OF 'portlaw4.ElectLease'. -/
def electLeaseCard : Claim7 := { stood := { row := electLeaseRow, standIns := [], harness := (true, "790759fba21fb19ce74d63c19cb868434ce4c320bccfb15db523298e5422ec8e"), looks := true }, kinds := [], alts := [], laidByText := true, laidKinds := [.handle], laidTests := true, laidLooks := .later }
def ElectLeaseCardSaid : Prop := Claim7.holds Tryd.pinned (.plain (OpenSpec.ofChange electLeaseSpec)) electLeaseCard

/-- THE TIED CARD OF 'portlaw2.ElectPlays'. -/
def electPlaysCard : Claim7 := { stood := { row := electPlaysRow, standIns := [], harness := (true, "790759fba21fb19ce74d63c19cb868434ce4c320bccfb15db523298e5422ec8e"), looks := true }, kinds := [], alts := [], laidByText := true, laidKinds := [.handle], laidTests := true, laidLooks := .later }
def ElectPlaysCardSaid : Prop := Claim7.holds Tryd.pinned (.plain (OpenSpec.ofChange electPlaysSpec)) electPlaysCard

/-- THE SECOND FORM's CARD OF 'portlaw1.SumAdds'. -/
def sumAddsUptoCard : Claim7 := { stood := { row := sumAddsUptoRow, standIns := [], harness := (true, "790759fba21fb19ce74d63c19cb868434ce4c320bccfb15db523298e5422ec8e"), looks := true }, kinds := [], alts := [], laidByText := true, laidKinds := [.handle], laidTests := true, laidLooks := .later }
def SumAddsUptoCardSaid : Prop := Claim7.holds Tryd.pinned (.plain (OpenSpec.upto sumAddsSpec)) sumAddsUptoCard

/-- THE SECOND FORM's CARD OF 'portlaw2.FragSplits'. -/
def fragSplitsUptoCard : Claim7 := { stood := { row := fragSplitsUptoRow, standIns := [], harness := (true, "790759fba21fb19ce74d63c19cb868434ce4c320bccfb15db523298e5422ec8e"), looks := true }, kinds := [], alts := [], laidByText := true, laidKinds := [.handle], laidTests := true, laidLooks := .later }
def FragSplitsUptoCardSaid : Prop := Claim7.holds Tryd.pinned (.plain (OpenSpec.upto fragSplitsSpec)) fragSplitsUptoCard

/-- THE SECOND FORM's CARD OF 'portlaw2.FragPlays'. -/
def fragPlaysUptoCard : Claim7 := { stood := { row := fragPlaysUptoRow, standIns := [], harness := (true, "790759fba21fb19ce74d63c19cb868434ce4c320bccfb15db523298e5422ec8e"), looks := true }, kinds := [], alts := [], laidByText := true, laidKinds := [.handle], laidTests := true, laidLooks := .later }
def FragPlaysUptoCardSaid : Prop := Claim7.holds Tryd.pinned (.plain (OpenSpec.upto fragPlaysSpec)) fragPlaysUptoCard

/-- THE SECOND FORM's CARD OF 'portlaw2.FragBack'. -/
def fragBackUptoCard : Claim7 := { stood := { row := fragBackUptoRow, standIns := [], harness := (true, "790759fba21fb19ce74d63c19cb868434ce4c320bccfb15db523298e5422ec8e"), looks := true }, kinds := [], alts := [], laidByText := true, laidKinds := [.handle], laidTests := true, laidLooks := .later }
def FragBackUptoCardSaid : Prop := Claim7.holds Tryd.pinned (.plain (OpenSpec.upto fragBackSpec)) fragBackUptoCard

/-- THE SECOND FORM's CARD OF 'portlaw4.ElectLease'. -/
def electLeaseUptoCard : Claim7 := { stood := { row := electLeaseUptoRow, standIns := [], harness := (true, "790759fba21fb19ce74d63c19cb868434ce4c320bccfb15db523298e5422ec8e"), looks := true }, kinds := [], alts := [], laidByText := true, laidKinds := [.handle], laidTests := true, laidLooks := .later }
def ElectLeaseUptoCardSaid : Prop := Claim7.holds Tryd.pinned (.plain (OpenSpec.upto electLeaseSpec)) electLeaseUptoCard

/-- THE SECOND FORM's CARD OF 'portlaw2.ElectPlays'. -/
def electPlaysUptoCard : Claim7 := { stood := { row := electPlaysUptoRow, standIns := [], harness := (true, "790759fba21fb19ce74d63c19cb868434ce4c320bccfb15db523298e5422ec8e"), looks := true }, kinds := [], alts := [], laidByText := true, laidKinds := [.handle], laidTests := true, laidLooks := .later }
def ElectPlaysUptoCardSaid : Prop := Claim7.holds Tryd.pinned (.plain (OpenSpec.upto electPlaysSpec)) electPlaysUptoCard
end Rows
end Go.Proofs.YtlmhhnodhgmmdaaDoor
