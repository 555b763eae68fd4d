/-
  NARROWER THAN 'FOR EVERY INPUT', by the rows' own cells (each row's printed sentence says how): TrackEnds: laid · TrackSteps: laid · TrackTalks: laid · SyncTells: laid · SyncNotes: laid · SyncBack: laid · FragPlays: laid · FragBack: laid.
  DERIVED. THE GIVEN ROWS OF THIS SEAT. 8 by the template 'for every input the law returns true; each argument reads behind the call as it read before'; 0 by the template 'total and deterministic' (their statements: YtmocpeekdfkegaaDoorTotals.lean).
  GIVEN WITH THE SEED: the statements are not yours to turn. If you find one false, say at which input.
  Laid BY PROGRAM, IN A SANDBOX (cutbox-rows.mjs): the forced cells as the released guide's own fill.sh prints them over the translation d147d0505646bb65… (all of the seat's roots in one cut). By AI agents, Wed Nov 11 2026. No macro, syntax, notation, axiom, sorry.
-/
import Derived.Test.YtmocpeekdfkegaaDoorChecked
import GoSem.Claim
import GoSem.ClaimJoined
import GoSem.ClaimMapViews
import Derived.JoinedTies
import Derived.KernelRfl
namespace Go.Proofs.YtmocpeekdfkegaaDoor
/- THE CELL 'sum', in the pinned program and in every row, IS THE sha256 OF THE DUMP (.gsa) THAT YtmocpeekdfkegaaDoorProg.lean LOADS. Nothing in Lean hashes anything: it is a label: what it is worth is what the hold of that sum in a sandbox is worth. -/
noncomputable def Tryd.pinned : Pinned := { name := "ytmocpeekdfkegaadoor", sum := "d147d0505646bb65a682edfcce7ee890ed006890006e0e197ddc9a9643d187f8", checked := Tryd.checked }
namespace Rows
def none {H : Type} : Left H := { results := [], args := [] }

/- WHAT THE LISTED PACKAGE-LEVEL VARIABLES READ AS WHEN THE CALL BEGINS. Each datum BY PROGRAM (the guide's laid-datum.mjs) off the statement by which the dump's own 'gosem.cut.vars' lays the variable. In a bare row this is a premise. The card (YtmocpeekdfkegaaDoorCards.lean) ties it to the program's text. -/
def laid_errors_errorType {H : Type} : DataW H := .iface "internal/reflectlite.rtype" (.agg [.ptr (.lit (.string [101, 114, 114, 111, 114]))])

/-- 'portlaw4.TrackEnds': WHATEVER THE INPUT: true; the input reads as it did. -/
def trackEndsSpec : ChangeSpec := { name := "trackEnds", fn := fun _ => fun
  | [d1, d2, d3, d4, d5] => { results := [.lit (.bool true)], args := [d1, d2, d3, d4, d5] }
  | _ => none }
def trackEndsRow : OpenClaim := { program := "ytmocpeekdfkegaadoor", sum := "d147d0505646bb65a682edfcce7ee890ed006890006e0e197ddc9a9643d187f8", func := "portcullis/portlaw4.TrackEnds", spec := "trackEnds", inPlace := ["internal/reflectlite.ValueOf", "(internal/reflectlite.Value).Type", "(internal/reflectlite.Value).IsNil", "internal/reflectlite.TypeOf", "(internal/reflectlite.Value).Elem", "(internal/reflectlite.Value).Set"], unfollowed := true, recurses := true, named := ["errors.errorType"], plainKeys := false, apart := false, laid := [("errors.errorType", laid_errors_errorType)] }
def TrackEndsSaid : Prop := trackEndsRow.holds Tryd.pinned (OpenSpec.ofChange trackEndsSpec)

/-- ITS FALSE NEIGHBOUR: 'it returns false'. Refute it at one input. -/
def trackEndsWrong : ChangeSpec := { name := "trackEnds", fn := fun _ => fun
  | [d1, d2, d3, d4, d5] => { results := [.lit (.bool false)], args := [d1, d2, d3, d4, d5] }
  | _ => none }
def TrackEndsWrongFalsely : Prop := trackEndsRow.holds Tryd.pinned (OpenSpec.ofChange trackEndsWrong)

/-- 'portlaw2.TrackSteps': WHATEVER THE INPUT: true; the input reads as it did. -/
def trackStepsSpec : ChangeSpec := { name := "trackSteps", fn := fun _ => fun
  | [d1, d2, d3, d4, d5, d6, d7] => { results := [.lit (.bool true)], args := [d1, d2, d3, d4, d5, d6, d7] }
  | _ => none }
def trackStepsRow : OpenClaim := { program := "ytmocpeekdfkegaadoor", sum := "d147d0505646bb65a682edfcce7ee890ed006890006e0e197ddc9a9643d187f8", func := "portcullis/portlaw2.TrackSteps", spec := "trackSteps", inPlace := ["internal/reflectlite.ValueOf", "(internal/reflectlite.Value).Type", "(internal/reflectlite.Value).IsNil", "internal/reflectlite.TypeOf", "(internal/reflectlite.Value).Elem", "(internal/reflectlite.Value).Set"], unfollowed := true, recurses := true, named := ["errors.errorType"], plainKeys := false, apart := false, laid := [("errors.errorType", laid_errors_errorType)] }
def TrackStepsSaid : Prop := trackStepsRow.holds Tryd.pinned (OpenSpec.ofChange trackStepsSpec)

/-- ITS FALSE NEIGHBOUR: 'it returns false'. Refute it at one input. -/
def trackStepsWrong : ChangeSpec := { name := "trackSteps", fn := fun _ => fun
  | [d1, d2, d3, d4, d5, d6, d7] => { results := [.lit (.bool false)], args := [d1, d2, d3, d4, d5, d6, d7] }
  | _ => none }
def TrackStepsWrongFalsely : Prop := trackStepsRow.holds Tryd.pinned (OpenSpec.ofChange trackStepsWrong)

/-- 'portlaw2.TrackTalks': WHATEVER THE INPUT: true; the input reads as it did. -/
def trackTalksSpec : ChangeSpec := { name := "trackTalks", fn := fun _ => fun
  | [d1, d2, d3, d4, d5] => { results := [.lit (.bool true)], args := [d1, d2, d3, d4, d5] }
  | _ => none }
def trackTalksRow : OpenClaim := { program := "ytmocpeekdfkegaadoor", sum := "d147d0505646bb65a682edfcce7ee890ed006890006e0e197ddc9a9643d187f8", func := "portcullis/portlaw2.TrackTalks", spec := "trackTalks", inPlace := ["internal/reflectlite.ValueOf", "(internal/reflectlite.Value).Type", "(internal/reflectlite.Value).IsNil", "internal/reflectlite.TypeOf", "(internal/reflectlite.Value).Elem", "(internal/reflectlite.Value).Set"], unfollowed := true, recurses := true, named := ["errors.errorType"], plainKeys := false, apart := false, laid := [("errors.errorType", laid_errors_errorType)] }
def TrackTalksSaid : Prop := trackTalksRow.holds Tryd.pinned (OpenSpec.ofChange trackTalksSpec)

/-- ITS FALSE NEIGHBOUR: 'it returns false'. Refute it at one input. -/
def trackTalksWrong : ChangeSpec := { name := "trackTalks", fn := fun _ => fun
  | [d1, d2, d3, d4, d5] => { results := [.lit (.bool false)], args := [d1, d2, d3, d4, d5] }
  | _ => none }
def TrackTalksWrongFalsely : Prop := trackTalksRow.holds Tryd.pinned (OpenSpec.ofChange trackTalksWrong)

/-- 'portlaw2.SyncTells': WHATEVER THE INPUT: true; the input reads as it did. -/
def syncTellsSpec : ChangeSpec := { name := "syncTells", fn := fun _ => fun
  | [d1, d2, d3] => { results := [.lit (.bool true)], args := [d1, d2, d3] }
  | _ => none }
def syncTellsRow : OpenClaim := { program := "ytmocpeekdfkegaadoor", sum := "d147d0505646bb65a682edfcce7ee890ed006890006e0e197ddc9a9643d187f8", func := "portcullis/portlaw2.SyncTells", spec := "syncTells", inPlace := ["internal/reflectlite.ValueOf", "(internal/reflectlite.Value).Type", "(internal/reflectlite.Value).IsNil", "internal/reflectlite.TypeOf", "(internal/reflectlite.Value).Elem", "(internal/reflectlite.Value).Set"], unfollowed := true, recurses := true, named := ["errors.errorType"], plainKeys := false, apart := false, laid := [("errors.errorType", laid_errors_errorType)] }
def SyncTellsSaid : Prop := syncTellsRow.holds Tryd.pinned (OpenSpec.ofChange syncTellsSpec)

/-- ITS FALSE NEIGHBOUR: 'it returns false'. Refute it at one input. -/
def syncTellsWrong : ChangeSpec := { name := "syncTells", fn := fun _ => fun
  | [d1, d2, d3] => { results := [.lit (.bool false)], args := [d1, d2, d3] }
  | _ => none }
def SyncTellsWrongFalsely : Prop := syncTellsRow.holds Tryd.pinned (OpenSpec.ofChange syncTellsWrong)

/-- 'portlaw2.SyncNotes': WHATEVER THE INPUT: true; the input reads as it did. -/
def syncNotesSpec : ChangeSpec := { name := "syncNotes", fn := fun _ => fun
  | [d1, d2] => { results := [.lit (.bool true)], args := [d1, d2] }
  | _ => none }
def syncNotesRow : OpenClaim := { program := "ytmocpeekdfkegaadoor", sum := "d147d0505646bb65a682edfcce7ee890ed006890006e0e197ddc9a9643d187f8", func := "portcullis/portlaw2.SyncNotes", spec := "syncNotes", inPlace := ["internal/reflectlite.ValueOf", "(internal/reflectlite.Value).Type", "(internal/reflectlite.Value).IsNil", "internal/reflectlite.TypeOf", "(internal/reflectlite.Value).Elem", "(internal/reflectlite.Value).Set"], unfollowed := true, recurses := true, named := ["errors.errorType"], plainKeys := false, apart := false, laid := [("errors.errorType", laid_errors_errorType)] }
def SyncNotesSaid : Prop := syncNotesRow.holds Tryd.pinned (OpenSpec.ofChange syncNotesSpec)

/-- ITS FALSE NEIGHBOUR: 'it returns false'. Refute it at one input. -/
def syncNotesWrong : ChangeSpec := { name := "syncNotes", fn := fun _ => fun
  | [d1, d2] => { results := [.lit (.bool false)], args := [d1, d2] }
  | _ => none }
def SyncNotesWrongFalsely : Prop := syncNotesRow.holds Tryd.pinned (OpenSpec.ofChange syncNotesWrong)

/-- 'portlaw2.SyncBack': WHATEVER THE INPUT: true; the input reads as it did. -/
def syncBackSpec : ChangeSpec := { name := "syncBack", fn := fun _ => fun
  | [d1, d2, d3] => { results := [.lit (.bool true)], args := [d1, d2, d3] }
  | _ => none }
def syncBackRow : OpenClaim := { program := "ytmocpeekdfkegaadoor", sum := "d147d0505646bb65a682edfcce7ee890ed006890006e0e197ddc9a9643d187f8", func := "portcullis/portlaw2.SyncBack", spec := "syncBack", inPlace := ["internal/reflectlite.ValueOf", "(internal/reflectlite.Value).Type", "(internal/reflectlite.Value).IsNil", "internal/reflectlite.TypeOf", "(internal/reflectlite.Value).Elem", "(internal/reflectlite.Value).Set"], unfollowed := true, recurses := true, named := ["errors.errorType"], plainKeys := false, apart := false, laid := [("errors.errorType", laid_errors_errorType)] }
def SyncBackSaid : Prop := syncBackRow.holds Tryd.pinned (OpenSpec.ofChange syncBackSpec)

/-- ITS FALSE NEIGHBOUR: 'it returns false'. Refute it at one input. -/
def syncBackWrong : ChangeSpec := { name := "syncBack", fn := fun _ => fun
  | [d1, d2, d3] => { results := [.lit (.bool false)], args := [d1, d2, d3] }
  | _ => none }
def SyncBackWrongFalsely : Prop := syncBackRow.holds Tryd.pinned (OpenSpec.ofChange syncBackWrong)

/-- 'portlaw2.FragPlays': WHATEVER THE INPUT: true; the input reads as it did. -/
def fragPlaysSpec : ChangeSpec := { name := "fragPlays", fn := fun _ => fun
  | [d1, d2, d3] => { results := [.lit (.bool true)], args := [d1, d2, d3] }
  | _ => none }
def fragPlaysRow : OpenClaim := { program := "ytmocpeekdfkegaadoor", sum := "d147d0505646bb65a682edfcce7ee890ed006890006e0e197ddc9a9643d187f8", func := "portcullis/portlaw2.FragPlays", spec := "fragPlays", inPlace := ["internal/reflectlite.ValueOf", "(internal/reflectlite.Value).Type", "(internal/reflectlite.Value).IsNil", "internal/reflectlite.TypeOf", "(internal/reflectlite.Value).Elem", "(internal/reflectlite.Value).Set"], unfollowed := true, recurses := true, named := ["errors.errorType"], plainKeys := false, apart := false, laid := [("errors.errorType", laid_errors_errorType)] }
def FragPlaysSaid : Prop := fragPlaysRow.holds Tryd.pinned (OpenSpec.ofChange fragPlaysSpec)

/-- ITS FALSE NEIGHBOUR: 'it returns false'. Refute it at one input. -/
def fragPlaysWrong : ChangeSpec := { name := "fragPlays", fn := fun _ => fun
  | [d1, d2, d3] => { results := [.lit (.bool false)], args := [d1, d2, d3] }
  | _ => none }
def FragPlaysWrongFalsely : Prop := fragPlaysRow.holds Tryd.pinned (OpenSpec.ofChange fragPlaysWrong)

/-- 'portlaw2.FragBack': WHATEVER THE INPUT: true; the input reads as it did. -/
def fragBackSpec : ChangeSpec := { name := "fragBack", fn := fun _ => fun
  | [d1, d2, d3, d4] => { results := [.lit (.bool true)], args := [d1, d2, d3, d4] }
  | _ => none }
def fragBackRow : OpenClaim := { program := "ytmocpeekdfkegaadoor", sum := "d147d0505646bb65a682edfcce7ee890ed006890006e0e197ddc9a9643d187f8", func := "portcullis/portlaw2.FragBack", spec := "fragBack", inPlace := ["internal/reflectlite.ValueOf", "(internal/reflectlite.Value).Type", "(internal/reflectlite.Value).IsNil", "internal/reflectlite.TypeOf", "(internal/reflectlite.Value).Elem", "(internal/reflectlite.Value).Set"], unfollowed := true, recurses := true, named := ["errors.errorType"], plainKeys := false, apart := false, laid := [("errors.errorType", laid_errors_errorType)] }
def FragBackSaid : Prop := fragBackRow.holds Tryd.pinned (OpenSpec.ofChange fragBackSpec)

/-- ITS FALSE NEIGHBOUR: 'it returns false'. Refute it at one input. -/
def fragBackWrong : ChangeSpec := { name := "fragBack", fn := fun _ => fun
  | [d1, d2, d3, d4] => { results := [.lit (.bool false)], args := [d1, d2, d3, d4] }
  | _ => none }
def FragBackWrongFalsely : Prop := fragBackRow.holds Tryd.pinned (OpenSpec.ofChange fragBackWrong)

/- THE SECOND FORM. 'bulk': how many values and letters a reading holds, each counted each time it is reached (what is shared counts as often as it is met; a slice's spare places count too). A statement '..UptoSaid' is the law's where the arguments, and the package variables that the reading takes, are together of bulk at most 1048576: NARROWER than '..Said'. Prove '..Said' where nothing that the law and all that it calls make is longer than what came in: it says more and counts as full. Else prove '..UptoSaid'. A law counts once. -/
mutual
def uptoBulk {H : Type} : DataW H → Nat
  | .lit (.string bytes) => bytes.length + 1
  | .lit _ => 1
  | .nil => 1
  | .ptr d => uptoBulk d + 1
  | .slice elems spare => uptoBulkAll elems + uptoBulkAll spare + 1
  | .agg parts => uptoBulkAll parts + 1
  | .iface _ d => uptoBulk d + 1
  | .map entries => uptoBulkEntries entries + 1
  | .held _ => 1
def uptoBulkAll {H : Type} : List (DataW H) → Nat
  | [] => 0
  | d :: r => uptoBulk d + uptoBulkAll r
def uptoBulkEntries {H : Type} : List (Lit × DataW H) → Nat
  | [] => 0
  | x :: r => uptoBulkEntry x + uptoBulkEntries r
def uptoBulkEntry {H : Type} : Lit × DataW H → Nat
  | (.string bytes, d) => bytes.length + uptoBulk d + 1
  | (_, d) => uptoBulk d + 1
 end
def uptoSmall : (H : Type) → List (DataW H) → Bool := fun _ ds => decide (uptoBulkAll ds ≤ 1048576)
def OpenSpec.upto (s : _root_.Go.ChangeSpec) : _root_.Go.OpenSpec := { _root_.Go.OpenSpec.ofChange s with cond := some uptoSmall }

/-- 'portlaw4.TrackEnds', WHERE WHAT IT READS IS OF BULK AT MOST 1048576: true; the input reads as it did. -/
def trackEndsUptoRow : OpenClaim := { program := "ytmocpeekdfkegaadoor", sum := "d147d0505646bb65a682edfcce7ee890ed006890006e0e197ddc9a9643d187f8", func := "portcullis/portlaw4.TrackEnds", spec := "trackEnds", inPlace := ["internal/reflectlite.ValueOf", "(internal/reflectlite.Value).Type", "(internal/reflectlite.Value).IsNil", "internal/reflectlite.TypeOf", "(internal/reflectlite.Value).Elem", "(internal/reflectlite.Value).Set"], unfollowed := true, recurses := true, named := ["errors.errorType"], plainKeys := false, apart := false, laid := [("errors.errorType", laid_errors_errorType)], narrowed := true }
def TrackEndsUptoSaid : Prop := trackEndsUptoRow.holds Tryd.pinned (OpenSpec.upto trackEndsSpec)

/-- 'portlaw2.TrackSteps', WHERE WHAT IT READS IS OF BULK AT MOST 1048576: true; the input reads as it did. -/
def trackStepsUptoRow : OpenClaim := { program := "ytmocpeekdfkegaadoor", sum := "d147d0505646bb65a682edfcce7ee890ed006890006e0e197ddc9a9643d187f8", func := "portcullis/portlaw2.TrackSteps", spec := "trackSteps", inPlace := ["internal/reflectlite.ValueOf", "(internal/reflectlite.Value).Type", "(internal/reflectlite.Value).IsNil", "internal/reflectlite.TypeOf", "(internal/reflectlite.Value).Elem", "(internal/reflectlite.Value).Set"], unfollowed := true, recurses := true, named := ["errors.errorType"], plainKeys := false, apart := false, laid := [("errors.errorType", laid_errors_errorType)], narrowed := true }
def TrackStepsUptoSaid : Prop := trackStepsUptoRow.holds Tryd.pinned (OpenSpec.upto trackStepsSpec)

/-- 'portlaw2.TrackTalks', WHERE WHAT IT READS IS OF BULK AT MOST 1048576: true; the input reads as it did. -/
def trackTalksUptoRow : OpenClaim := { program := "ytmocpeekdfkegaadoor", sum := "d147d0505646bb65a682edfcce7ee890ed006890006e0e197ddc9a9643d187f8", func := "portcullis/portlaw2.TrackTalks", spec := "trackTalks", inPlace := ["internal/reflectlite.ValueOf", "(internal/reflectlite.Value).Type", "(internal/reflectlite.Value).IsNil", "internal/reflectlite.TypeOf", "(internal/reflectlite.Value).Elem", "(internal/reflectlite.Value).Set"], unfollowed := true, recurses := true, named := ["errors.errorType"], plainKeys := false, apart := false, laid := [("errors.errorType", laid_errors_errorType)], narrowed := true }
def TrackTalksUptoSaid : Prop := trackTalksUptoRow.holds Tryd.pinned (OpenSpec.upto trackTalksSpec)

/-- 'portlaw2.SyncTells', WHERE WHAT IT READS IS OF BULK AT MOST 1048576: true; the input reads as it did. -/
def syncTellsUptoRow : OpenClaim := { program := "ytmocpeekdfkegaadoor", sum := "d147d0505646bb65a682edfcce7ee890ed006890006e0e197ddc9a9643d187f8", func := "portcullis/portlaw2.SyncTells", spec := "syncTells", inPlace := ["internal/reflectlite.ValueOf", "(internal/reflectlite.Value).Type", "(internal/reflectlite.Value).IsNil", "internal/reflectlite.TypeOf", "(internal/reflectlite.Value).Elem", "(internal/reflectlite.Value).Set"], unfollowed := true, recurses := true, named := ["errors.errorType"], plainKeys := false, apart := false, laid := [("errors.errorType", laid_errors_errorType)], narrowed := true }
def SyncTellsUptoSaid : Prop := syncTellsUptoRow.holds Tryd.pinned (OpenSpec.upto syncTellsSpec)

/-- 'portlaw2.SyncNotes', WHERE WHAT IT READS IS OF BULK AT MOST 1048576: true; the input reads as it did. -/
def syncNotesUptoRow : OpenClaim := { program := "ytmocpeekdfkegaadoor", sum := "d147d0505646bb65a682edfcce7ee890ed006890006e0e197ddc9a9643d187f8", func := "portcullis/portlaw2.SyncNotes", spec := "syncNotes", inPlace := ["internal/reflectlite.ValueOf", "(internal/reflectlite.Value).Type", "(internal/reflectlite.Value).IsNil", "internal/reflectlite.TypeOf", "(internal/reflectlite.Value).Elem", "(internal/reflectlite.Value).Set"], unfollowed := true, recurses := true, named := ["errors.errorType"], plainKeys := false, apart := false, laid := [("errors.errorType", laid_errors_errorType)], narrowed := true }
def SyncNotesUptoSaid : Prop := syncNotesUptoRow.holds Tryd.pinned (OpenSpec.upto syncNotesSpec)

/-- 'portlaw2.SyncBack', WHERE WHAT IT READS IS OF BULK AT MOST 1048576: true; the input reads as it did. -/
def syncBackUptoRow : OpenClaim := { program := "ytmocpeekdfkegaadoor", sum := "d147d0505646bb65a682edfcce7ee890ed006890006e0e197ddc9a9643d187f8", func := "portcullis/portlaw2.SyncBack", spec := "syncBack", inPlace := ["internal/reflectlite.ValueOf", "(internal/reflectlite.Value).Type", "(internal/reflectlite.Value).IsNil", "internal/reflectlite.TypeOf", "(internal/reflectlite.Value).Elem", "(internal/reflectlite.Value).Set"], unfollowed := true, recurses := true, named := ["errors.errorType"], plainKeys := false, apart := false, laid := [("errors.errorType", laid_errors_errorType)], narrowed := true }
def SyncBackUptoSaid : Prop := syncBackUptoRow.holds Tryd.pinned (OpenSpec.upto syncBackSpec)

/-- 'portlaw2.FragPlays', WHERE WHAT IT READS IS OF BULK AT MOST 1048576: true; the input reads as it did. -/
def fragPlaysUptoRow : OpenClaim := { program := "ytmocpeekdfkegaadoor", sum := "d147d0505646bb65a682edfcce7ee890ed006890006e0e197ddc9a9643d187f8", func := "portcullis/portlaw2.FragPlays", spec := "fragPlays", inPlace := ["internal/reflectlite.ValueOf", "(internal/reflectlite.Value).Type", "(internal/reflectlite.Value).IsNil", "internal/reflectlite.TypeOf", "(internal/reflectlite.Value).Elem", "(internal/reflectlite.Value).Set"], unfollowed := true, recurses := true, named := ["errors.errorType"], plainKeys := false, apart := false, laid := [("errors.errorType", laid_errors_errorType)], narrowed := true }
def FragPlaysUptoSaid : Prop := fragPlaysUptoRow.holds Tryd.pinned (OpenSpec.upto fragPlaysSpec)

/-- 'portlaw2.FragBack', WHERE WHAT IT READS IS OF BULK AT MOST 1048576: true; the input reads as it did. -/
def fragBackUptoRow : OpenClaim := { program := "ytmocpeekdfkegaadoor", sum := "d147d0505646bb65a682edfcce7ee890ed006890006e0e197ddc9a9643d187f8", func := "portcullis/portlaw2.FragBack", spec := "fragBack", inPlace := ["internal/reflectlite.ValueOf", "(internal/reflectlite.Value).Type", "(internal/reflectlite.Value).IsNil", "internal/reflectlite.TypeOf", "(internal/reflectlite.Value).Elem", "(internal/reflectlite.Value).Set"], unfollowed := true, recurses := true, named := ["errors.errorType"], plainKeys := false, apart := false, laid := [("errors.errorType", laid_errors_errorType)], narrowed := true }
def FragBackUptoSaid : Prop := fragBackUptoRow.holds Tryd.pinned (OpenSpec.upto fragBackSpec)

end Rows
end Go.Proofs.YtmocpeekdfkegaaDoor
