/-
  No cell of these rows narrows 'for every input' (looked for: loops, veiled, ifaces, maps, wideKeys, modest, calm, conditions, laid).
  DERIVED. THE GIVEN ROWS OF THIS SEAT. 4 by the template 'for every input the law returns true; each argument reads behind the call as it read before'; 0 by the template 'total and deterministic' (their statements: YtpinlpkaflckfaaTotals.lean).
  GIVEN WITH THE SEED: the statements are not yours to turn. If you find one false, say at which input.
  Laid BY PROGRAM, IN A SANDBOX (cutbox-rows.mjs): the forced cells as the released guide's own fill.sh prints them over the translation f72a540ef9c7aae0… (all of the seat's roots in one cut). By AI agents, Wed Nov 11 2026. No macro, syntax, notation, axiom, sorry.
-/
import Derived.Test.YtpinlpkaflckfaaChecked
import GoSem.Claim
import GoSem.ClaimJoined
import GoSem.ClaimMapViews
import Derived.JoinedTies
import Derived.KernelRfl
namespace Go.Proofs.Ytpinlpkaflckfaa
/- THE CELL 'sum', in the pinned program and in every row, IS THE sha256 OF THE DUMP (.gsa) THAT YtpinlpkaflckfaaProg.lean LOADS. Nothing in Lean hashes anything: it is a label: what it is worth is what the hold of that sum in a sandbox is worth. -/
noncomputable def Try.pinned : Pinned := { name := "ytpinlpkaflckfaa", sum := "f72a540ef9c7aae0df3bc1f98414e7ddfdb1815af0a3c93c1b1102afc35ff8ee", checked := Try.checked }
namespace Rows
def none {H : Type} : Left H := { results := [], args := [] }

/-- 'portlaw4.WireRow': WHATEVER THE INPUT: true; the input reads as it did. -/
def wireRowSpec : ChangeSpec := { name := "wireRow", fn := fun _ => fun
  | [d] => { results := [.lit (.bool true)], args := [d] }
  | _ => none }
def wireRowRow : OpenClaim := { program := "ytpinlpkaflckfaa", sum := "f72a540ef9c7aae0df3bc1f98414e7ddfdb1815af0a3c93c1b1102afc35ff8ee", func := "portcullis/portlaw4.WireRow", spec := "wireRow", apart := false }
def WireRowSaid : Prop := wireRowRow.holds Try.pinned (OpenSpec.ofChange wireRowSpec)

/-- ITS FALSE NEIGHBOUR: 'it returns false'. Refute it at one input. -/
def wireRowWrong : ChangeSpec := { name := "wireRow", fn := fun _ => fun
  | [d] => { results := [.lit (.bool false)], args := [d] }
  | _ => none }
def WireRowWrongFalsely : Prop := wireRowRow.holds Try.pinned (OpenSpec.ofChange wireRowWrong)

/-- 'portlaw1.SegBack': WHATEVER THE INPUT: true; the input reads as it did. -/
def segBackSpec : ChangeSpec := { name := "segBack", fn := fun _ => fun
  | [d1, d2, d3, d4, d5] => { results := [.lit (.bool true)], args := [d1, d2, d3, d4, d5] }
  | _ => none }
def segBackRow : OpenClaim := { program := "ytpinlpkaflckfaa", sum := "f72a540ef9c7aae0df3bc1f98414e7ddfdb1815af0a3c93c1b1102afc35ff8ee", func := "portcullis/portlaw1.SegBack", spec := "segBack", apart := false }
def SegBackSaid : Prop := segBackRow.holds Try.pinned (OpenSpec.ofChange segBackSpec)

/-- ITS FALSE NEIGHBOUR: 'it returns false'. Refute it at one input. -/
def segBackWrong : ChangeSpec := { name := "segBack", fn := fun _ => fun
  | [d1, d2, d3, d4, d5] => { results := [.lit (.bool false)], args := [d1, d2, d3, d4, d5] }
  | _ => none }
def SegBackWrongFalsely : Prop := segBackRow.holds Try.pinned (OpenSpec.ofChange segBackWrong)

/-- 'portlaw2.TrackKeeps': WHATEVER THE INPUT: true; the input reads as it did. -/
def trackKeepsSpec : ChangeSpec := { name := "trackKeeps", fn := fun _ => fun
  | [d1, d2, d3, d4] => { results := [.lit (.bool true)], args := [d1, d2, d3, d4] }
  | _ => none }
def trackKeepsRow : OpenClaim := { program := "ytpinlpkaflckfaa", sum := "f72a540ef9c7aae0df3bc1f98414e7ddfdb1815af0a3c93c1b1102afc35ff8ee", func := "portcullis/portlaw2.TrackKeeps", spec := "trackKeeps", unfollowed := true, recurses := true, apart := false }
def TrackKeepsSaid : Prop := trackKeepsRow.holds Try.pinned (OpenSpec.ofChange trackKeepsSpec)

/-- ITS FALSE NEIGHBOUR: 'it returns false'. Refute it at one input. -/
def trackKeepsWrong : ChangeSpec := { name := "trackKeeps", fn := fun _ => fun
  | [d1, d2, d3, d4] => { results := [.lit (.bool false)], args := [d1, d2, d3, d4] }
  | _ => none }
def TrackKeepsWrongFalsely : Prop := trackKeepsRow.holds Try.pinned (OpenSpec.ofChange trackKeepsWrong)

/-- 'portlaw2.SyncHears': WHATEVER THE INPUT: true; the input reads as it did. -/
def syncHearsSpec : ChangeSpec := { name := "syncHears", fn := fun _ => fun
  | [d1, d2] => { results := [.lit (.bool true)], args := [d1, d2] }
  | _ => none }
def syncHearsRow : OpenClaim := { program := "ytpinlpkaflckfaa", sum := "f72a540ef9c7aae0df3bc1f98414e7ddfdb1815af0a3c93c1b1102afc35ff8ee", func := "portcullis/portlaw2.SyncHears", spec := "syncHears", apart := false }
def SyncHearsSaid : Prop := syncHearsRow.holds Try.pinned (OpenSpec.ofChange syncHearsSpec)

/-- ITS FALSE NEIGHBOUR: 'it returns false'. Refute it at one input. -/
def syncHearsWrong : ChangeSpec := { name := "syncHears", fn := fun _ => fun
  | [d1, d2] => { results := [.lit (.bool false)], args := [d1, d2] }
  | _ => none }
def SyncHearsWrongFalsely : Prop := syncHearsRow.holds Try.pinned (OpenSpec.ofChange syncHearsWrong)

/- THE SECOND FORM. 'bulk': how many values and letters a reading holds, each counted each time it is reached (what is shared counts as often as it is met; a slice's spare places count too). A statement '..UptoSaid' is the law's where the arguments, and the package variables that the reading takes, are together of bulk at most 1048576: NARROWER than '..Said'. Prove '..Said' where nothing that the law and all that it calls make is longer than what came in: it says more and counts as full. Else prove '..UptoSaid'. A law counts once. -/
mutual
def uptoBulk {H : Type} : DataW H → Nat
  | .lit (.string bytes) => bytes.length + 1
  | .lit _ => 1
  | .nil => 1
  | .ptr d => uptoBulk d + 1
  | .slice elems spare => uptoBulkAll elems + uptoBulkAll spare + 1
  | .agg parts => uptoBulkAll parts + 1
  | .iface _ d => uptoBulk d + 1
  | .map entries => uptoBulkEntries entries + 1
  | .held _ => 1
def uptoBulkAll {H : Type} : List (DataW H) → Nat
  | [] => 0
  | d :: r => uptoBulk d + uptoBulkAll r
def uptoBulkEntries {H : Type} : List (Lit × DataW H) → Nat
  | [] => 0
  | x :: r => uptoBulkEntry x + uptoBulkEntries r
def uptoBulkEntry {H : Type} : Lit × DataW H → Nat
  | (.string bytes, d) => bytes.length + uptoBulk d + 1
  | (_, d) => uptoBulk d + 1
 end
def uptoSmall : (H : Type) → List (DataW H) → Bool := fun _ ds => decide (uptoBulkAll ds ≤ 1048576)
def OpenSpec.upto (s : _root_.Go.ChangeSpec) : _root_.Go.OpenSpec := { _root_.Go.OpenSpec.ofChange s with cond := some uptoSmall }

/-- 'portlaw4.WireRow', WHERE WHAT IT READS IS OF BULK AT MOST 1048576: true; the input reads as it did. -/
def wireRowUptoRow : OpenClaim := { program := "ytpinlpkaflckfaa", sum := "f72a540ef9c7aae0df3bc1f98414e7ddfdb1815af0a3c93c1b1102afc35ff8ee", func := "portcullis/portlaw4.WireRow", spec := "wireRow", apart := false, narrowed := true }
def WireRowUptoSaid : Prop := wireRowUptoRow.holds Try.pinned (OpenSpec.upto wireRowSpec)

/-- 'portlaw1.SegBack', WHERE WHAT IT READS IS OF BULK AT MOST 1048576: true; the input reads as it did. -/
def segBackUptoRow : OpenClaim := { program := "ytpinlpkaflckfaa", sum := "f72a540ef9c7aae0df3bc1f98414e7ddfdb1815af0a3c93c1b1102afc35ff8ee", func := "portcullis/portlaw1.SegBack", spec := "segBack", apart := false, narrowed := true }
def SegBackUptoSaid : Prop := segBackUptoRow.holds Try.pinned (OpenSpec.upto segBackSpec)

/-- 'portlaw2.TrackKeeps', WHERE WHAT IT READS IS OF BULK AT MOST 1048576: true; the input reads as it did. -/
def trackKeepsUptoRow : OpenClaim := { program := "ytpinlpkaflckfaa", sum := "f72a540ef9c7aae0df3bc1f98414e7ddfdb1815af0a3c93c1b1102afc35ff8ee", func := "portcullis/portlaw2.TrackKeeps", spec := "trackKeeps", unfollowed := true, recurses := true, apart := false, narrowed := true }
def TrackKeepsUptoSaid : Prop := trackKeepsUptoRow.holds Try.pinned (OpenSpec.upto trackKeepsSpec)

/-- 'portlaw2.SyncHears', WHERE WHAT IT READS IS OF BULK AT MOST 1048576: true; the input reads as it did. -/
def syncHearsUptoRow : OpenClaim := { program := "ytpinlpkaflckfaa", sum := "f72a540ef9c7aae0df3bc1f98414e7ddfdb1815af0a3c93c1b1102afc35ff8ee", func := "portcullis/portlaw2.SyncHears", spec := "syncHears", apart := false, narrowed := true }
def SyncHearsUptoSaid : Prop := syncHearsUptoRow.holds Try.pinned (OpenSpec.upto syncHearsSpec)

end Rows
end Go.Proofs.Ytpinlpkaflckfaa
