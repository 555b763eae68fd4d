/-
  DERIVED. GIVEN WITH THE SEED: THE CARDS: each row of YtmocpeekdfkegaaDoorRows.lean that lists a variable, with what it lists TIED to the program's text (the seventh form; the later family's looks); each row that meets fmt, with fmt's text TOLD by the authors' own Lean function (tested against real Go, not proved from fmt's source: count such statements apart). THE CARD IS WHAT COUNTS. Prove the row's statement (the work); the ties are given (YtmocpeekdfkegaaDoorTie.lean); close each card by the builder's one call (the guide's Derived/Test/ToyasCard.lean, 'card_holds'). Laid BY PROGRAM, IN A SANDBOX (cutbox-door.mjs). By AI agents, Wed Nov 11 2026. No macro, syntax, notation, axiom, sorry.
-/
import Derived.Test.YtmocpeekdfkegaaDoorRows
import GoSem.ClaimSeven
namespace Go.Proofs.YtmocpeekdfkegaaDoor
namespace Rows

/-- THE TIED CARD OF 'portlaw4.TrackEnds'. -/
def trackEndsCard : Claim7 := { stood := { row := trackEndsRow, standIns := [], harness := (true, "4a6a4c29737ad7fdfa567ef23ad95323c20d2e33d1da25fce3ea22dcfdd9e4fa"), looks := true }, kinds := [], alts := [], laidByText := true, laidKinds := [.handle], laidTests := true, laidLooks := .later }
def TrackEndsCardSaid : Prop := Claim7.holds Tryd.pinned (.plain (OpenSpec.ofChange trackEndsSpec)) trackEndsCard

/-- THE TIED CARD OF 'portlaw2.TrackSteps'. -/
def trackStepsCard : Claim7 := { stood := { row := trackStepsRow, standIns := [], harness := (true, "4a6a4c29737ad7fdfa567ef23ad95323c20d2e33d1da25fce3ea22dcfdd9e4fa"), looks := true }, kinds := [], alts := [], laidByText := true, laidKinds := [.handle], laidTests := true, laidLooks := .later }
def TrackStepsCardSaid : Prop := Claim7.holds Tryd.pinned (.plain (OpenSpec.ofChange trackStepsSpec)) trackStepsCard

/-- THE TIED CARD OF 'portlaw2.TrackTalks'. -/
def trackTalksCard : Claim7 := { stood := { row := trackTalksRow, standIns := [], harness := (true, "4a6a4c29737ad7fdfa567ef23ad95323c20d2e33d1da25fce3ea22dcfdd9e4fa"), looks := true }, kinds := [], alts := [], laidByText := true, laidKinds := [.handle], laidTests := true, laidLooks := .later }
def TrackTalksCardSaid : Prop := Claim7.holds Tryd.pinned (.plain (OpenSpec.ofChange trackTalksSpec)) trackTalksCard

/-- THE TIED CARD OF 'portlaw2.SyncTells'. -/
def syncTellsCard : Claim7 := { stood := { row := syncTellsRow, standIns := [], harness := (true, "4a6a4c29737ad7fdfa567ef23ad95323c20d2e33d1da25fce3ea22dcfdd9e4fa"), looks := true }, kinds := [], alts := [], laidByText := true, laidKinds := [.handle], laidTests := true, laidLooks := .later }
def SyncTellsCardSaid : Prop := Claim7.holds Tryd.pinned (.plain (OpenSpec.ofChange syncTellsSpec)) syncTellsCard

/-- THE TIED CARD OF 'portlaw2.SyncNotes'. -/
def syncNotesCard : Claim7 := { stood := { row := syncNotesRow, standIns := [], harness := (true, "4a6a4c29737ad7fdfa567ef23ad95323c20d2e33d1da25fce3ea22dcfdd9e4fa"), looks := true }, kinds := [], alts := [], laidByText := true, laidKinds := [.handle], laidTests := true, laidLooks := .later }
def SyncNotesCardSaid : Prop := Claim7.holds Tryd.pinned (.plain (OpenSpec.ofChange syncNotesSpec)) syncNotesCard

/-- THE TIED CARD OF 'portlaw2.SyncBack'. -/
def syncBackCard : Claim7 := { stood := { row := syncBackRow, standIns := [], harness := (true, "4a6a4c29737ad7fdfa567ef23ad95323c20d2e33d1da25fce3ea22dcfdd9e4fa"), looks := true }, kinds := [], alts := [], laidByText := true, laidKinds := [.handle], laidTests := true, laidLooks := .later }
def SyncBackCardSaid : Prop := Claim7.holds Tryd.pinned (.plain (OpenSpec.ofChange syncBackSpec)) syncBackCard

/-- THE TIED CARD OF 'portlaw2.FragPlays'. -/
def fragPlaysCard : Claim7 := { stood := { row := fragPlaysRow, standIns := [], harness := (true, "4a6a4c29737ad7fdfa567ef23ad95323c20d2e33d1da25fce3ea22dcfdd9e4fa"), looks := true }, kinds := [], alts := [], laidByText := true, laidKinds := [.handle], laidTests := true, laidLooks := .later }
def FragPlaysCardSaid : Prop := Claim7.holds Tryd.pinned (.plain (OpenSpec.ofChange fragPlaysSpec)) fragPlaysCard

/-- THE TIED CARD OF 'portlaw2.FragBack'. -/
def fragBackCard : Claim7 := { stood := { row := fragBackRow, standIns := [], harness := (true, "4a6a4c29737ad7fdfa567ef23ad95323c20d2e33d1da25fce3ea22dcfdd9e4fa"), looks := true }, kinds := [], alts := [], laidByText := true, laidKinds := [.handle], laidTests := true, laidLooks := .later }
def FragBackCardSaid : Prop := Claim7.holds Tryd.pinned (.plain (OpenSpec.ofChange fragBackSpec)) fragBackCard

/-- THE SECOND FORM's CARD OF 'portlaw4.TrackEnds'. -/
def trackEndsUptoCard : Claim7 := { stood := { row := trackEndsUptoRow, standIns := [], harness := (true, "4a6a4c29737ad7fdfa567ef23ad95323c20d2e33d1da25fce3ea22dcfdd9e4fa"), looks := true }, kinds := [], alts := [], laidByText := true, laidKinds := [.handle], laidTests := true, laidLooks := .later }
def TrackEndsUptoCardSaid : Prop := Claim7.holds Tryd.pinned (.plain (OpenSpec.upto trackEndsSpec)) trackEndsUptoCard

/-- THE SECOND FORM's CARD OF 'portlaw2.TrackSteps'. -/
def trackStepsUptoCard : Claim7 := { stood := { row := trackStepsUptoRow, standIns := [], harness := (true, "4a6a4c29737ad7fdfa567ef23ad95323c20d2e33d1da25fce3ea22dcfdd9e4fa"), looks := true }, kinds := [], alts := [], laidByText := true, laidKinds := [.handle], laidTests := true, laidLooks := .later }
def TrackStepsUptoCardSaid : Prop := Claim7.holds Tryd.pinned (.plain (OpenSpec.upto trackStepsSpec)) trackStepsUptoCard

/-- THE SECOND FORM's CARD OF 'portlaw2.TrackTalks'. -/
def trackTalksUptoCard : Claim7 := { stood := { row := trackTalksUptoRow, standIns := [], harness := (true, "4a6a4c29737ad7fdfa567ef23ad95323c20d2e33d1da25fce3ea22dcfdd9e4fa"), looks := true }, kinds := [], alts := [], laidByText := true, laidKinds := [.handle], laidTests := true, laidLooks := .later }
def TrackTalksUptoCardSaid : Prop := Claim7.holds Tryd.pinned (.plain (OpenSpec.upto trackTalksSpec)) trackTalksUptoCard

/-- THE SECOND FORM's CARD OF 'portlaw2.SyncTells'. -/
def syncTellsUptoCard : Claim7 := { stood := { row := syncTellsUptoRow, standIns := [], harness := (true, "4a6a4c29737ad7fdfa567ef23ad95323c20d2e33d1da25fce3ea22dcfdd9e4fa"), looks := true }, kinds := [], alts := [], laidByText := true, laidKinds := [.handle], laidTests := true, laidLooks := .later }
def SyncTellsUptoCardSaid : Prop := Claim7.holds Tryd.pinned (.plain (OpenSpec.upto syncTellsSpec)) syncTellsUptoCard

/-- THE SECOND FORM's CARD OF 'portlaw2.SyncNotes'. -/
def syncNotesUptoCard : Claim7 := { stood := { row := syncNotesUptoRow, standIns := [], harness := (true, "4a6a4c29737ad7fdfa567ef23ad95323c20d2e33d1da25fce3ea22dcfdd9e4fa"), looks := true }, kinds := [], alts := [], laidByText := true, laidKinds := [.handle], laidTests := true, laidLooks := .later }
def SyncNotesUptoCardSaid : Prop := Claim7.holds Tryd.pinned (.plain (OpenSpec.upto syncNotesSpec)) syncNotesUptoCard

/-- THE SECOND FORM's CARD OF 'portlaw2.SyncBack'. -/
def syncBackUptoCard : Claim7 := { stood := { row := syncBackUptoRow, standIns := [], harness := (true, "4a6a4c29737ad7fdfa567ef23ad95323c20d2e33d1da25fce3ea22dcfdd9e4fa"), looks := true }, kinds := [], alts := [], laidByText := true, laidKinds := [.handle], laidTests := true, laidLooks := .later }
def SyncBackUptoCardSaid : Prop := Claim7.holds Tryd.pinned (.plain (OpenSpec.upto syncBackSpec)) syncBackUptoCard

/-- THE SECOND FORM's CARD OF 'portlaw2.FragPlays'. -/
def fragPlaysUptoCard : Claim7 := { stood := { row := fragPlaysUptoRow, standIns := [], harness := (true, "4a6a4c29737ad7fdfa567ef23ad95323c20d2e33d1da25fce3ea22dcfdd9e4fa"), looks := true }, kinds := [], alts := [], laidByText := true, laidKinds := [.handle], laidTests := true, laidLooks := .later }
def FragPlaysUptoCardSaid : Prop := Claim7.holds Tryd.pinned (.plain (OpenSpec.upto fragPlaysSpec)) fragPlaysUptoCard

/-- THE SECOND FORM's CARD OF 'portlaw2.FragBack'. -/
def fragBackUptoCard : Claim7 := { stood := { row := fragBackUptoRow, standIns := [], harness := (true, "4a6a4c29737ad7fdfa567ef23ad95323c20d2e33d1da25fce3ea22dcfdd9e4fa"), looks := true }, kinds := [], alts := [], laidByText := true, laidKinds := [.handle], laidTests := true, laidLooks := .later }
def FragBackUptoCardSaid : Prop := Claim7.holds Tryd.pinned (.plain (OpenSpec.upto fragBackSpec)) fragBackUptoCard
end Rows
end Go.Proofs.YtmocpeekdfkegaaDoor
