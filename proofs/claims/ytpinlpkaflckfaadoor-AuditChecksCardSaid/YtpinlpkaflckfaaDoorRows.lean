/-
  NARROWER THAN 'FOR EVERY INPUT', by the rows' own cells (each row's printed sentence says how): AuditRow: laid · SegFlips: laid · WireGoes: laid · WireBack: laid · SegGoes: laid · AuditChecks: laid · SegKeys: laid.
  DERIVED. THE GIVEN ROWS OF THIS SEAT. 7 by the template 'for every input the law returns true; each argument reads behind the call as it read before'; 0 by the template 'total and deterministic' (their statements: YtpinlpkaflckfaaDoorTotals.lean).
  GIVEN WITH THE SEED: the statements are not yours to turn. If you find one false, say at which input.
  Laid BY PROGRAM, IN A SANDBOX (cutbox-rows.mjs): the forced cells as the released guide's own fill.sh prints them over the translation e6f0369def905ecd… (all of the seat's roots in one cut). By AI agents, Wed Nov 11 2026. No macro, syntax, notation, axiom, sorry.
-/
import Derived.Test.YtpinlpkaflckfaaDoorChecked
import GoSem.Claim
import GoSem.ClaimJoined
import GoSem.ClaimMapViews
import Derived.JoinedTies
import Derived.KernelRfl
namespace Go.Proofs.YtpinlpkaflckfaaDoor
/- THE CELL 'sum', in the pinned program and in every row, IS THE sha256 OF THE DUMP (.gsa) THAT YtpinlpkaflckfaaDoorProg.lean LOADS. Nothing in Lean hashes anything: it is a label: what it is worth is what the hold of that sum in a sandbox is worth. -/
noncomputable def Tryd.pinned : Pinned := { name := "ytpinlpkaflckfaadoor", sum := "e6f0369def905ecdb65241a8cb348acb101c33cd84187a229c9424238ac9f348", checked := Tryd.checked }
namespace Rows
def none {H : Type} : Left H := { results := [], args := [] }

/- WHAT THE LISTED PACKAGE-LEVEL VARIABLES READ AS WHEN THE CALL BEGINS. Each datum BY PROGRAM (the guide's laid-datum.mjs) off the statement by which the dump's own 'gosem.cut.vars' lays the variable. In a bare row this is a premise. The card (YtpinlpkaflckfaaDoorCards.lean) ties it to the program's text. -/
def laid_errors_errorType {H : Type} : DataW H := .iface "internal/reflectlite.rtype" (.agg [.ptr (.lit (.string [101, 114, 114, 111, 114]))])

/-- 'portlaw4.AuditRow': WHATEVER THE INPUT: true; the input reads as it did. -/
def auditRowSpec : ChangeSpec := { name := "auditRow", fn := fun _ => fun
  | [d1, d2] => { results := [.lit (.bool true)], args := [d1, d2] }
  | _ => none }
def auditRowRow : OpenClaim := { program := "ytpinlpkaflckfaadoor", sum := "e6f0369def905ecdb65241a8cb348acb101c33cd84187a229c9424238ac9f348", func := "portcullis/portlaw4.AuditRow", spec := "auditRow", inPlace := ["internal/reflectlite.ValueOf", "(internal/reflectlite.Value).Type", "(internal/reflectlite.Value).IsNil", "internal/reflectlite.TypeOf", "(internal/reflectlite.Value).Elem", "(internal/reflectlite.Value).Set"], unfollowed := true, recurses := true, named := ["errors.errorType"], apart := false, laid := [("errors.errorType", laid_errors_errorType)] }
def AuditRowSaid : Prop := auditRowRow.holds Tryd.pinned (OpenSpec.ofChange auditRowSpec)

/-- ITS FALSE NEIGHBOUR: 'it returns false'. Refute it at one input. -/
def auditRowWrong : ChangeSpec := { name := "auditRow", fn := fun _ => fun
  | [d1, d2] => { results := [.lit (.bool false)], args := [d1, d2] }
  | _ => none }
def AuditRowWrongFalsely : Prop := auditRowRow.holds Tryd.pinned (OpenSpec.ofChange auditRowWrong)

/-- 'portlaw4.SegFlips': WHATEVER THE INPUT: true; the input reads as it did. -/
def segFlipsSpec : ChangeSpec := { name := "segFlips", fn := fun _ => fun
  | [d1, d2, d3, d4, d5, d6] => { results := [.lit (.bool true)], args := [d1, d2, d3, d4, d5, d6] }
  | _ => none }
def segFlipsRow : OpenClaim := { program := "ytpinlpkaflckfaadoor", sum := "e6f0369def905ecdb65241a8cb348acb101c33cd84187a229c9424238ac9f348", func := "portcullis/portlaw4.SegFlips", spec := "segFlips", inPlace := ["internal/reflectlite.ValueOf", "(internal/reflectlite.Value).Type", "(internal/reflectlite.Value).IsNil", "internal/reflectlite.TypeOf", "(internal/reflectlite.Value).Elem", "(internal/reflectlite.Value).Set"], unfollowed := true, recurses := true, named := ["errors.errorType"], apart := false, laid := [("errors.errorType", laid_errors_errorType)] }
def SegFlipsSaid : Prop := segFlipsRow.holds Tryd.pinned (OpenSpec.ofChange segFlipsSpec)

/-- ITS FALSE NEIGHBOUR: 'it returns false'. Refute it at one input. -/
def segFlipsWrong : ChangeSpec := { name := "segFlips", fn := fun _ => fun
  | [d1, d2, d3, d4, d5, d6] => { results := [.lit (.bool false)], args := [d1, d2, d3, d4, d5, d6] }
  | _ => none }
def SegFlipsWrongFalsely : Prop := segFlipsRow.holds Tryd.pinned (OpenSpec.ofChange segFlipsWrong)

/-- 'portlaw1.WireGoes': WHATEVER THE INPUT: true; the input reads as it did. -/
def wireGoesSpec : ChangeSpec := { name := "wireGoes", fn := fun _ => fun
  | [d1, d2] => { results := [.lit (.bool true)], args := [d1, d2] }
  | _ => none }
def wireGoesRow : OpenClaim := { program := "ytpinlpkaflckfaadoor", sum := "e6f0369def905ecdb65241a8cb348acb101c33cd84187a229c9424238ac9f348", func := "portcullis/portlaw1.WireGoes", spec := "wireGoes", inPlace := ["internal/reflectlite.ValueOf", "(internal/reflectlite.Value).Type", "(internal/reflectlite.Value).IsNil", "internal/reflectlite.TypeOf", "(internal/reflectlite.Value).Elem", "(internal/reflectlite.Value).Set"], unfollowed := true, recurses := true, named := ["errors.errorType"], apart := false, laid := [("errors.errorType", laid_errors_errorType)] }
def WireGoesSaid : Prop := wireGoesRow.holds Tryd.pinned (OpenSpec.ofChange wireGoesSpec)

/-- ITS FALSE NEIGHBOUR: 'it returns false'. Refute it at one input. -/
def wireGoesWrong : ChangeSpec := { name := "wireGoes", fn := fun _ => fun
  | [d1, d2] => { results := [.lit (.bool false)], args := [d1, d2] }
  | _ => none }
def WireGoesWrongFalsely : Prop := wireGoesRow.holds Tryd.pinned (OpenSpec.ofChange wireGoesWrong)

/-- 'portlaw1.WireBack': WHATEVER THE INPUT: true; the input reads as it did. -/
def wireBackSpec : ChangeSpec := { name := "wireBack", fn := fun _ => fun
  | [d1, d2, d3, d4] => { results := [.lit (.bool true)], args := [d1, d2, d3, d4] }
  | _ => none }
def wireBackRow : OpenClaim := { program := "ytpinlpkaflckfaadoor", sum := "e6f0369def905ecdb65241a8cb348acb101c33cd84187a229c9424238ac9f348", func := "portcullis/portlaw1.WireBack", spec := "wireBack", inPlace := ["internal/reflectlite.ValueOf", "(internal/reflectlite.Value).Type", "(internal/reflectlite.Value).IsNil", "internal/reflectlite.TypeOf", "(internal/reflectlite.Value).Elem", "(internal/reflectlite.Value).Set"], unfollowed := true, recurses := true, named := ["errors.errorType"], apart := false, laid := [("errors.errorType", laid_errors_errorType)] }
def WireBackSaid : Prop := wireBackRow.holds Tryd.pinned (OpenSpec.ofChange wireBackSpec)

/-- ITS FALSE NEIGHBOUR: 'it returns false'. Refute it at one input. -/
def wireBackWrong : ChangeSpec := { name := "wireBack", fn := fun _ => fun
  | [d1, d2, d3, d4] => { results := [.lit (.bool false)], args := [d1, d2, d3, d4] }
  | _ => none }
def WireBackWrongFalsely : Prop := wireBackRow.holds Tryd.pinned (OpenSpec.ofChange wireBackWrong)

/-- 'portlaw1.SegGoes': WHATEVER THE INPUT: true; the input reads as it did. -/
def segGoesSpec : ChangeSpec := { name := "segGoes", fn := fun _ => fun
  | [d1, d2, d3, d4, d5] => { results := [.lit (.bool true)], args := [d1, d2, d3, d4, d5] }
  | _ => none }
def segGoesRow : OpenClaim := { program := "ytpinlpkaflckfaadoor", sum := "e6f0369def905ecdb65241a8cb348acb101c33cd84187a229c9424238ac9f348", func := "portcullis/portlaw1.SegGoes", spec := "segGoes", inPlace := ["internal/reflectlite.ValueOf", "(internal/reflectlite.Value).Type", "(internal/reflectlite.Value).IsNil", "internal/reflectlite.TypeOf", "(internal/reflectlite.Value).Elem", "(internal/reflectlite.Value).Set"], unfollowed := true, recurses := true, named := ["errors.errorType"], apart := false, laid := [("errors.errorType", laid_errors_errorType)] }
def SegGoesSaid : Prop := segGoesRow.holds Tryd.pinned (OpenSpec.ofChange segGoesSpec)

/-- ITS FALSE NEIGHBOUR: 'it returns false'. Refute it at one input. -/
def segGoesWrong : ChangeSpec := { name := "segGoes", fn := fun _ => fun
  | [d1, d2, d3, d4, d5] => { results := [.lit (.bool false)], args := [d1, d2, d3, d4, d5] }
  | _ => none }
def SegGoesWrongFalsely : Prop := segGoesRow.holds Tryd.pinned (OpenSpec.ofChange segGoesWrong)

/-- 'portlaw3.AuditChecks': WHATEVER THE INPUT: true; the input reads as it did. -/
def auditChecksSpec : ChangeSpec := { name := "auditChecks", fn := fun _ => fun
  | [d1, d2] => { results := [.lit (.bool true)], args := [d1, d2] }
  | _ => none }
def auditChecksRow : OpenClaim := { program := "ytpinlpkaflckfaadoor", sum := "e6f0369def905ecdb65241a8cb348acb101c33cd84187a229c9424238ac9f348", func := "portcullis/portlaw3.AuditChecks", spec := "auditChecks", inPlace := ["internal/reflectlite.ValueOf", "(internal/reflectlite.Value).Type", "(internal/reflectlite.Value).IsNil", "internal/reflectlite.TypeOf", "(internal/reflectlite.Value).Elem", "(internal/reflectlite.Value).Set"], unfollowed := true, recurses := true, named := ["errors.errorType"], apart := false, laid := [("errors.errorType", laid_errors_errorType)] }
def AuditChecksSaid : Prop := auditChecksRow.holds Tryd.pinned (OpenSpec.ofChange auditChecksSpec)

/-- ITS FALSE NEIGHBOUR: 'it returns false'. Refute it at one input. -/
def auditChecksWrong : ChangeSpec := { name := "auditChecks", fn := fun _ => fun
  | [d1, d2] => { results := [.lit (.bool false)], args := [d1, d2] }
  | _ => none }
def AuditChecksWrongFalsely : Prop := auditChecksRow.holds Tryd.pinned (OpenSpec.ofChange auditChecksWrong)

/-- 'portlaw1.SegKeys': WHATEVER THE INPUT: true; the input reads as it did. -/
def segKeysSpec : ChangeSpec := { name := "segKeys", fn := fun _ => fun
  | [d1, d2, d3, d4, d5] => { results := [.lit (.bool true)], args := [d1, d2, d3, d4, d5] }
  | _ => none }
def segKeysRow : OpenClaim := { program := "ytpinlpkaflckfaadoor", sum := "e6f0369def905ecdb65241a8cb348acb101c33cd84187a229c9424238ac9f348", func := "portcullis/portlaw1.SegKeys", spec := "segKeys", inPlace := ["internal/reflectlite.ValueOf", "(internal/reflectlite.Value).Type", "(internal/reflectlite.Value).IsNil", "internal/reflectlite.TypeOf", "(internal/reflectlite.Value).Elem", "(internal/reflectlite.Value).Set"], unfollowed := true, recurses := true, named := ["errors.errorType"], apart := false, laid := [("errors.errorType", laid_errors_errorType)] }
def SegKeysSaid : Prop := segKeysRow.holds Tryd.pinned (OpenSpec.ofChange segKeysSpec)

/-- ITS FALSE NEIGHBOUR: 'it returns false'. Refute it at one input. -/
def segKeysWrong : ChangeSpec := { name := "segKeys", fn := fun _ => fun
  | [d1, d2, d3, d4, d5] => { results := [.lit (.bool false)], args := [d1, d2, d3, d4, d5] }
  | _ => none }
def SegKeysWrongFalsely : Prop := segKeysRow.holds Tryd.pinned (OpenSpec.ofChange segKeysWrong)

/- THE SECOND FORM. 'bulk': how many values and letters a reading holds, each counted each time it is reached (what is shared counts as often as it is met; a slice's spare places count too). A statement '..UptoSaid' is the law's where the arguments, and the package variables that the reading takes, are together of bulk at most 1048576: NARROWER than '..Said'. Prove '..Said' where nothing that the law and all that it calls make is longer than what came in: it says more and counts as full. Else prove '..UptoSaid'. A law counts once. -/
mutual
def uptoBulk {H : Type} : DataW H → Nat
  | .lit (.string bytes) => bytes.length + 1
  | .lit _ => 1
  | .nil => 1
  | .ptr d => uptoBulk d + 1
  | .slice elems spare => uptoBulkAll elems + uptoBulkAll spare + 1
  | .agg parts => uptoBulkAll parts + 1
  | .iface _ d => uptoBulk d + 1
  | .map entries => uptoBulkEntries entries + 1
  | .held _ => 1
def uptoBulkAll {H : Type} : List (DataW H) → Nat
  | [] => 0
  | d :: r => uptoBulk d + uptoBulkAll r
def uptoBulkEntries {H : Type} : List (Lit × DataW H) → Nat
  | [] => 0
  | x :: r => uptoBulkEntry x + uptoBulkEntries r
def uptoBulkEntry {H : Type} : Lit × DataW H → Nat
  | (.string bytes, d) => bytes.length + uptoBulk d + 1
  | (_, d) => uptoBulk d + 1
 end
def uptoSmall : (H : Type) → List (DataW H) → Bool := fun _ ds => decide (uptoBulkAll ds ≤ 1048576)
def OpenSpec.upto (s : _root_.Go.ChangeSpec) : _root_.Go.OpenSpec := { _root_.Go.OpenSpec.ofChange s with cond := some uptoSmall }

/-- 'portlaw4.AuditRow', WHERE WHAT IT READS IS OF BULK AT MOST 1048576: true; the input reads as it did. -/
def auditRowUptoRow : OpenClaim := { program := "ytpinlpkaflckfaadoor", sum := "e6f0369def905ecdb65241a8cb348acb101c33cd84187a229c9424238ac9f348", func := "portcullis/portlaw4.AuditRow", spec := "auditRow", inPlace := ["internal/reflectlite.ValueOf", "(internal/reflectlite.Value).Type", "(internal/reflectlite.Value).IsNil", "internal/reflectlite.TypeOf", "(internal/reflectlite.Value).Elem", "(internal/reflectlite.Value).Set"], unfollowed := true, recurses := true, named := ["errors.errorType"], apart := false, laid := [("errors.errorType", laid_errors_errorType)], narrowed := true }
def AuditRowUptoSaid : Prop := auditRowUptoRow.holds Tryd.pinned (OpenSpec.upto auditRowSpec)

/-- 'portlaw4.SegFlips', WHERE WHAT IT READS IS OF BULK AT MOST 1048576: true; the input reads as it did. -/
def segFlipsUptoRow : OpenClaim := { program := "ytpinlpkaflckfaadoor", sum := "e6f0369def905ecdb65241a8cb348acb101c33cd84187a229c9424238ac9f348", func := "portcullis/portlaw4.SegFlips", spec := "segFlips", inPlace := ["internal/reflectlite.ValueOf", "(internal/reflectlite.Value).Type", "(internal/reflectlite.Value).IsNil", "internal/reflectlite.TypeOf", "(internal/reflectlite.Value).Elem", "(internal/reflectlite.Value).Set"], unfollowed := true, recurses := true, named := ["errors.errorType"], apart := false, laid := [("errors.errorType", laid_errors_errorType)], narrowed := true }
def SegFlipsUptoSaid : Prop := segFlipsUptoRow.holds Tryd.pinned (OpenSpec.upto segFlipsSpec)

/-- 'portlaw1.WireGoes', WHERE WHAT IT READS IS OF BULK AT MOST 1048576: true; the input reads as it did. -/
def wireGoesUptoRow : OpenClaim := { program := "ytpinlpkaflckfaadoor", sum := "e6f0369def905ecdb65241a8cb348acb101c33cd84187a229c9424238ac9f348", func := "portcullis/portlaw1.WireGoes", spec := "wireGoes", inPlace := ["internal/reflectlite.ValueOf", "(internal/reflectlite.Value).Type", "(internal/reflectlite.Value).IsNil", "internal/reflectlite.TypeOf", "(internal/reflectlite.Value).Elem", "(internal/reflectlite.Value).Set"], unfollowed := true, recurses := true, named := ["errors.errorType"], apart := false, laid := [("errors.errorType", laid_errors_errorType)], narrowed := true }
def WireGoesUptoSaid : Prop := wireGoesUptoRow.holds Tryd.pinned (OpenSpec.upto wireGoesSpec)

/-- 'portlaw1.WireBack', WHERE WHAT IT READS IS OF BULK AT MOST 1048576: true; the input reads as it did. -/
def wireBackUptoRow : OpenClaim := { program := "ytpinlpkaflckfaadoor", sum := "e6f0369def905ecdb65241a8cb348acb101c33cd84187a229c9424238ac9f348", func := "portcullis/portlaw1.WireBack", spec := "wireBack", inPlace := ["internal/reflectlite.ValueOf", "(internal/reflectlite.Value).Type", "(internal/reflectlite.Value).IsNil", "internal/reflectlite.TypeOf", "(internal/reflectlite.Value).Elem", "(internal/reflectlite.Value).Set"], unfollowed := true, recurses := true, named := ["errors.errorType"], apart := false, laid := [("errors.errorType", laid_errors_errorType)], narrowed := true }
def WireBackUptoSaid : Prop := wireBackUptoRow.holds Tryd.pinned (OpenSpec.upto wireBackSpec)

/-- 'portlaw1.SegGoes', WHERE WHAT IT READS IS OF BULK AT MOST 1048576: true; the input reads as it did. -/
def segGoesUptoRow : OpenClaim := { program := "ytpinlpkaflckfaadoor", sum := "e6f0369def905ecdb65241a8cb348acb101c33cd84187a229c9424238ac9f348", func := "portcullis/portlaw1.SegGoes", spec := "segGoes", inPlace := ["internal/reflectlite.ValueOf", "(internal/reflectlite.Value).Type", "(internal/reflectlite.Value).IsNil", "internal/reflectlite.TypeOf", "(internal/reflectlite.Value).Elem", "(internal/reflectlite.Value).Set"], unfollowed := true, recurses := true, named := ["errors.errorType"], apart := false, laid := [("errors.errorType", laid_errors_errorType)], narrowed := true }
def SegGoesUptoSaid : Prop := segGoesUptoRow.holds Tryd.pinned (OpenSpec.upto segGoesSpec)

/-- 'portlaw3.AuditChecks', WHERE WHAT IT READS IS OF BULK AT MOST 1048576: true; the input reads as it did. -/
def auditChecksUptoRow : OpenClaim := { program := "ytpinlpkaflckfaadoor", sum := "e6f0369def905ecdb65241a8cb348acb101c33cd84187a229c9424238ac9f348", func := "portcullis/portlaw3.AuditChecks", spec := "auditChecks", inPlace := ["internal/reflectlite.ValueOf", "(internal/reflectlite.Value).Type", "(internal/reflectlite.Value).IsNil", "internal/reflectlite.TypeOf", "(internal/reflectlite.Value).Elem", "(internal/reflectlite.Value).Set"], unfollowed := true, recurses := true, named := ["errors.errorType"], apart := false, laid := [("errors.errorType", laid_errors_errorType)], narrowed := true }
def AuditChecksUptoSaid : Prop := auditChecksUptoRow.holds Tryd.pinned (OpenSpec.upto auditChecksSpec)

/-- 'portlaw1.SegKeys', WHERE WHAT IT READS IS OF BULK AT MOST 1048576: true; the input reads as it did. -/
def segKeysUptoRow : OpenClaim := { program := "ytpinlpkaflckfaadoor", sum := "e6f0369def905ecdb65241a8cb348acb101c33cd84187a229c9424238ac9f348", func := "portcullis/portlaw1.SegKeys", spec := "segKeys", inPlace := ["internal/reflectlite.ValueOf", "(internal/reflectlite.Value).Type", "(internal/reflectlite.Value).IsNil", "internal/reflectlite.TypeOf", "(internal/reflectlite.Value).Elem", "(internal/reflectlite.Value).Set"], unfollowed := true, recurses := true, named := ["errors.errorType"], apart := false, laid := [("errors.errorType", laid_errors_errorType)], narrowed := true }
def SegKeysUptoSaid : Prop := segKeysUptoRow.holds Tryd.pinned (OpenSpec.upto segKeysSpec)

end Rows
end Go.Proofs.YtpinlpkaflckfaaDoor
