/-
  DERIVED. GIVEN WITH THE SEED: THE CARDS: each row of YtpinlpkaflckfaaDoorRows.lean that lists a variable, with what it lists TIED to the program's text (the seventh form; the later family's looks); each row that meets fmt, with fmt's text TOLD by the authors' own Lean function (tested against real Go, not proved from fmt's source: count such statements apart). THE CARD IS WHAT COUNTS. Prove the row's statement (the work); the ties are given (YtpinlpkaflckfaaDoorTie.lean); close each card by the builder's one call (the guide's Derived/Test/ToyasCard.lean, 'card_holds'). Laid BY PROGRAM, IN A SANDBOX (cutbox-door.mjs). By AI agents, Wed Nov 11 2026. No macro, syntax, notation, axiom, sorry.
-/
import Derived.Test.YtpinlpkaflckfaaDoorRows
import GoSem.ClaimSeven
namespace Go.Proofs.YtpinlpkaflckfaaDoor
namespace Rows

/-- THE TIED CARD OF 'portlaw4.AuditRow'. -/
def auditRowCard : Claim7 := { stood := { row := auditRowRow, standIns := [], harness := (true, "d9332d2fbcaaeb630d2ae37b3d43cc7292ea59ec66765901bacf2c676e963336"), looks := true }, kinds := [], alts := [], laidByText := true, laidKinds := [.handle], laidTests := true, laidLooks := .later }
def AuditRowCardSaid : Prop := Claim7.holds Tryd.pinned (.plain (OpenSpec.ofChange auditRowSpec)) auditRowCard

/-- THE TIED CARD OF 'portlaw4.SegFlips'. -/
def segFlipsCard : Claim7 := { stood := { row := segFlipsRow, standIns := [], harness := (true, "d9332d2fbcaaeb630d2ae37b3d43cc7292ea59ec66765901bacf2c676e963336"), looks := true }, kinds := [], alts := [], laidByText := true, laidKinds := [.handle], laidTests := true, laidLooks := .later }
def SegFlipsCardSaid : Prop := Claim7.holds Tryd.pinned (.plain (OpenSpec.ofChange segFlipsSpec)) segFlipsCard

/-- THE TIED CARD OF 'portlaw1.WireGoes'. -/
def wireGoesCard : Claim7 := { stood := { row := wireGoesRow, standIns := [], harness := (true, "d9332d2fbcaaeb630d2ae37b3d43cc7292ea59ec66765901bacf2c676e963336"), looks := true }, kinds := [], alts := [], laidByText := true, laidKinds := [.handle], laidTests := true, laidLooks := .later }
def WireGoesCardSaid : Prop := Claim7.holds Tryd.pinned (.plain (OpenSpec.ofChange wireGoesSpec)) wireGoesCard

/-- THE TIED CARD OF 'portlaw1.WireBack'. -/
def wireBackCard : Claim7 := { stood := { row := wireBackRow, standIns := [], harness := (true, "d9332d2fbcaaeb630d2ae37b3d43cc7292ea59ec66765901bacf2c676e963336"), looks := true }, kinds := [], alts := [], laidByText := true, laidKinds := [.handle], laidTests := true, laidLooks := .later }
def WireBackCardSaid : Prop := Claim7.holds Tryd.pinned (.plain (OpenSpec.ofChange wireBackSpec)) wireBackCard

/-- THE TIED CARD OF 'portlaw1.SegGoes'. -/
def segGoesCard : Claim7 := { stood := { row := segGoesRow, standIns := [], harness := (true, "d9332d2fbcaaeb630d2ae37b3d43cc7292ea59ec66765901bacf2c676e963336"), looks := true }, kinds := [], alts := [], laidByText := true, laidKinds := [.handle], laidTests := true, laidLooks := .later }
def SegGoesCardSaid : Prop := Claim7.holds Tryd.pinned (.plain (OpenSpec.ofChange segGoesSpec)) segGoesCard

/-- THE TIED CARD OF 'portlaw3.AuditChecks'. -/
def auditChecksCard : Claim7 := { stood := { row := auditChecksRow, standIns := [], harness := (true, "d9332d2fbcaaeb630d2ae37b3d43cc7292ea59ec66765901bacf2c676e963336"), looks := true }, kinds := [], alts := [], laidByText := true, laidKinds := [.handle], laidTests := true, laidLooks := .later }
def AuditChecksCardSaid : Prop := Claim7.holds Tryd.pinned (.plain (OpenSpec.ofChange auditChecksSpec)) auditChecksCard

/-- THE TIED CARD OF 'portlaw1.SegKeys'. -/
def segKeysCard : Claim7 := { stood := { row := segKeysRow, standIns := [], harness := (true, "d9332d2fbcaaeb630d2ae37b3d43cc7292ea59ec66765901bacf2c676e963336"), looks := true }, kinds := [], alts := [], laidByText := true, laidKinds := [.handle], laidTests := true, laidLooks := .later }
def SegKeysCardSaid : Prop := Claim7.holds Tryd.pinned (.plain (OpenSpec.ofChange segKeysSpec)) segKeysCard

/-- THE SECOND FORM's CARD OF 'portlaw4.AuditRow'. -/
def auditRowUptoCard : Claim7 := { stood := { row := auditRowUptoRow, standIns := [], harness := (true, "d9332d2fbcaaeb630d2ae37b3d43cc7292ea59ec66765901bacf2c676e963336"), looks := true }, kinds := [], alts := [], laidByText := true, laidKinds := [.handle], laidTests := true, laidLooks := .later }
def AuditRowUptoCardSaid : Prop := Claim7.holds Tryd.pinned (.plain (OpenSpec.upto auditRowSpec)) auditRowUptoCard

/-- THE SECOND FORM's CARD OF 'portlaw4.SegFlips'. -/
def segFlipsUptoCard : Claim7 := { stood := { row := segFlipsUptoRow, standIns := [], harness := (true, "d9332d2fbcaaeb630d2ae37b3d43cc7292ea59ec66765901bacf2c676e963336"), looks := true }, kinds := [], alts := [], laidByText := true, laidKinds := [.handle], laidTests := true, laidLooks := .later }
def SegFlipsUptoCardSaid : Prop := Claim7.holds Tryd.pinned (.plain (OpenSpec.upto segFlipsSpec)) segFlipsUptoCard

/-- THE SECOND FORM's CARD OF 'portlaw1.WireGoes'. -/
def wireGoesUptoCard : Claim7 := { stood := { row := wireGoesUptoRow, standIns := [], harness := (true, "d9332d2fbcaaeb630d2ae37b3d43cc7292ea59ec66765901bacf2c676e963336"), looks := true }, kinds := [], alts := [], laidByText := true, laidKinds := [.handle], laidTests := true, laidLooks := .later }
def WireGoesUptoCardSaid : Prop := Claim7.holds Tryd.pinned (.plain (OpenSpec.upto wireGoesSpec)) wireGoesUptoCard

/-- THE SECOND FORM's CARD OF 'portlaw1.WireBack'. -/
def wireBackUptoCard : Claim7 := { stood := { row := wireBackUptoRow, standIns := [], harness := (true, "d9332d2fbcaaeb630d2ae37b3d43cc7292ea59ec66765901bacf2c676e963336"), looks := true }, kinds := [], alts := [], laidByText := true, laidKinds := [.handle], laidTests := true, laidLooks := .later }
def WireBackUptoCardSaid : Prop := Claim7.holds Tryd.pinned (.plain (OpenSpec.upto wireBackSpec)) wireBackUptoCard

/-- THE SECOND FORM's CARD OF 'portlaw1.SegGoes'. -/
def segGoesUptoCard : Claim7 := { stood := { row := segGoesUptoRow, standIns := [], harness := (true, "d9332d2fbcaaeb630d2ae37b3d43cc7292ea59ec66765901bacf2c676e963336"), looks := true }, kinds := [], alts := [], laidByText := true, laidKinds := [.handle], laidTests := true, laidLooks := .later }
def SegGoesUptoCardSaid : Prop := Claim7.holds Tryd.pinned (.plain (OpenSpec.upto segGoesSpec)) segGoesUptoCard

/-- THE SECOND FORM's CARD OF 'portlaw3.AuditChecks'. -/
def auditChecksUptoCard : Claim7 := { stood := { row := auditChecksUptoRow, standIns := [], harness := (true, "d9332d2fbcaaeb630d2ae37b3d43cc7292ea59ec66765901bacf2c676e963336"), looks := true }, kinds := [], alts := [], laidByText := true, laidKinds := [.handle], laidTests := true, laidLooks := .later }
def AuditChecksUptoCardSaid : Prop := Claim7.holds Tryd.pinned (.plain (OpenSpec.upto auditChecksSpec)) auditChecksUptoCard

/-- THE SECOND FORM's CARD OF 'portlaw1.SegKeys'. -/
def segKeysUptoCard : Claim7 := { stood := { row := segKeysUptoRow, standIns := [], harness := (true, "d9332d2fbcaaeb630d2ae37b3d43cc7292ea59ec66765901bacf2c676e963336"), looks := true }, kinds := [], alts := [], laidByText := true, laidKinds := [.handle], laidTests := true, laidLooks := .later }
def SegKeysUptoCardSaid : Prop := Claim7.holds Tryd.pinned (.plain (OpenSpec.upto segKeysSpec)) segKeysUptoCard
end Rows
end Go.Proofs.YtpinlpkaflckfaaDoor
