/-
  No cell of these rows narrows 'for every input' (looked for: loops, veiled, ifaces, maps, wideKeys, modest, calm, conditions, laid).
  DERIVED. THE GIVEN ROWS OF THIS SEAT. 4 by the template 'for every input the law returns true; each argument reads behind the call as it read before'; 0 by the template 'total and deterministic' (their statements: YtlmhhnodhgmmdaaTotals.lean).
  GIVEN WITH THE SEED: the statements are not yours to turn. If you find one false, say at which input.
  Laid BY PROGRAM, IN A SANDBOX (cutbox-rows.mjs): the forced cells as the released guide's own fill.sh prints them over the translation a427e38ce4c1485a… (all of the seat's roots in one cut). By AI agents, Wed Nov 11 2026. No macro, syntax, notation, axiom, sorry.
-/
import Derived.Test.YtlmhhnodhgmmdaaChecked
import GoSem.Claim
import GoSem.ClaimJoined
import GoSem.ClaimMapViews
import Derived.JoinedTies
import Derived.KernelRfl
namespace Go.Proofs.Ytlmhhnodhgmmdaa
/- THE CELL 'sum', in the pinned program and in every row, IS THE sha256 OF THE DUMP (.gsa) THAT YtlmhhnodhgmmdaaProg.lean LOADS. Nothing in Lean hashes anything: it is a label: what it is worth is what the hold of that sum in a sandbox is worth. -/
noncomputable def Try.pinned : Pinned := { name := "ytlmhhnodhgmmdaa", sum := "a427e38ce4c1485a13e1bcb073626e07a083ed7232610a49cc18797aa6945818", checked := Try.checked }
namespace Rows
def none {H : Type} : Left H := { results := [], args := [] }

/-- 'portlaw1.Names': WHATEVER THE INPUT: true; the input reads as it did. -/
def namesSpec : ChangeSpec := { name := "names", fn := fun _ => fun
  | [] => { results := [.lit (.bool true)], args := [] }
  | _ => none }
def namesRow : OpenClaim := { program := "ytlmhhnodhgmmdaa", sum := "a427e38ce4c1485a13e1bcb073626e07a083ed7232610a49cc18797aa6945818", func := "portcullis/portlaw1.Names", spec := "names", apart := false }
def NamesSaid : Prop := namesRow.holds Try.pinned (OpenSpec.ofChange namesSpec)

/-- ITS FALSE NEIGHBOUR: 'it returns false'. Refute it at one input. -/
def namesWrong : ChangeSpec := { name := "names", fn := fun _ => fun
  | [] => { results := [.lit (.bool false)], args := [] }
  | _ => none }
def NamesWrongFalsely : Prop := namesRow.holds Try.pinned (OpenSpec.ofChange namesWrong)

/-- 'portlaw1.SumHolds': WHATEVER THE INPUT: true; the input reads as it did. -/
def sumHoldsSpec : ChangeSpec := { name := "sumHolds", fn := fun _ => fun
  | [d1, d2, d3, d4, d5] => { results := [.lit (.bool true)], args := [d1, d2, d3, d4, d5] }
  | _ => none }
def sumHoldsRow : OpenClaim := { program := "ytlmhhnodhgmmdaa", sum := "a427e38ce4c1485a13e1bcb073626e07a083ed7232610a49cc18797aa6945818", func := "portcullis/portlaw1.SumHolds", spec := "sumHolds", apart := false }
def SumHoldsSaid : Prop := sumHoldsRow.holds Try.pinned (OpenSpec.ofChange sumHoldsSpec)

/-- ITS FALSE NEIGHBOUR: 'it returns false'. Refute it at one input. -/
def sumHoldsWrong : ChangeSpec := { name := "sumHolds", fn := fun _ => fun
  | [d1, d2, d3, d4, d5] => { results := [.lit (.bool false)], args := [d1, d2, d3, d4, d5] }
  | _ => none }
def SumHoldsWrongFalsely : Prop := sumHoldsRow.holds Try.pinned (OpenSpec.ofChange sumHoldsWrong)

/-- 'portlaw4.FragPieces': WHATEVER THE INPUT: true; the input reads as it did. -/
def fragPiecesSpec : ChangeSpec := { name := "fragPieces", fn := fun _ => fun
  | [d1, d2] => { results := [.lit (.bool true)], args := [d1, d2] }
  | _ => none }
def fragPiecesRow : OpenClaim := { program := "ytlmhhnodhgmmdaa", sum := "a427e38ce4c1485a13e1bcb073626e07a083ed7232610a49cc18797aa6945818", func := "portcullis/portlaw4.FragPieces", spec := "fragPieces", apart := false }
def FragPiecesSaid : Prop := fragPiecesRow.holds Try.pinned (OpenSpec.ofChange fragPiecesSpec)

/-- ITS FALSE NEIGHBOUR: 'it returns false'. Refute it at one input. -/
def fragPiecesWrong : ChangeSpec := { name := "fragPieces", fn := fun _ => fun
  | [d1, d2] => { results := [.lit (.bool false)], args := [d1, d2] }
  | _ => none }
def FragPiecesWrongFalsely : Prop := fragPiecesRow.holds Try.pinned (OpenSpec.ofChange fragPiecesWrong)

/-- 'portlaw2.ElectOne': WHATEVER THE INPUT: true; the input reads as it did. -/
def electOneSpec : ChangeSpec := { name := "electOne", fn := fun _ => fun
  | [d1, d2, d3, d4, d5] => { results := [.lit (.bool true)], args := [d1, d2, d3, d4, d5] }
  | _ => none }
def electOneRow : OpenClaim := { program := "ytlmhhnodhgmmdaa", sum := "a427e38ce4c1485a13e1bcb073626e07a083ed7232610a49cc18797aa6945818", func := "portcullis/portlaw2.ElectOne", spec := "electOne", apart := false }
def ElectOneSaid : Prop := electOneRow.holds Try.pinned (OpenSpec.ofChange electOneSpec)

/-- ITS FALSE NEIGHBOUR: 'it returns false'. Refute it at one input. -/
def electOneWrong : ChangeSpec := { name := "electOne", fn := fun _ => fun
  | [d1, d2, d3, d4, d5] => { results := [.lit (.bool false)], args := [d1, d2, d3, d4, d5] }
  | _ => none }
def ElectOneWrongFalsely : Prop := electOneRow.holds Try.pinned (OpenSpec.ofChange electOneWrong)

/- THE SECOND FORM. 'bulk': how many values and letters a reading holds, each counted each time it is reached (what is shared counts as often as it is met; a slice's spare places count too). A statement '..UptoSaid' is the law's where the arguments, and the package variables that the reading takes, are together of bulk at most 1048576: NARROWER than '..Said'. Prove '..Said' where nothing that the law and all that it calls make is longer than what came in: it says more and counts as full. Else prove '..UptoSaid'. A law counts once. -/
mutual
def uptoBulk {H : Type} : DataW H → Nat
  | .lit (.string bytes) => bytes.length + 1
  | .lit _ => 1
  | .nil => 1
  | .ptr d => uptoBulk d + 1
  | .slice elems spare => uptoBulkAll elems + uptoBulkAll spare + 1
  | .agg parts => uptoBulkAll parts + 1
  | .iface _ d => uptoBulk d + 1
  | .map entries => uptoBulkEntries entries + 1
  | .held _ => 1
def uptoBulkAll {H : Type} : List (DataW H) → Nat
  | [] => 0
  | d :: r => uptoBulk d + uptoBulkAll r
def uptoBulkEntries {H : Type} : List (Lit × DataW H) → Nat
  | [] => 0
  | x :: r => uptoBulkEntry x + uptoBulkEntries r
def uptoBulkEntry {H : Type} : Lit × DataW H → Nat
  | (.string bytes, d) => bytes.length + uptoBulk d + 1
  | (_, d) => uptoBulk d + 1
 end
def uptoSmall : (H : Type) → List (DataW H) → Bool := fun _ ds => decide (uptoBulkAll ds ≤ 1048576)
def OpenSpec.upto (s : _root_.Go.ChangeSpec) : _root_.Go.OpenSpec := { _root_.Go.OpenSpec.ofChange s with cond := some uptoSmall }

/-- 'portlaw1.Names', WHERE WHAT IT READS IS OF BULK AT MOST 1048576: true; the input reads as it did. -/
def namesUptoRow : OpenClaim := { program := "ytlmhhnodhgmmdaa", sum := "a427e38ce4c1485a13e1bcb073626e07a083ed7232610a49cc18797aa6945818", func := "portcullis/portlaw1.Names", spec := "names", apart := false, narrowed := true }
def NamesUptoSaid : Prop := namesUptoRow.holds Try.pinned (OpenSpec.upto namesSpec)

/-- 'portlaw1.SumHolds', WHERE WHAT IT READS IS OF BULK AT MOST 1048576: true; the input reads as it did. -/
def sumHoldsUptoRow : OpenClaim := { program := "ytlmhhnodhgmmdaa", sum := "a427e38ce4c1485a13e1bcb073626e07a083ed7232610a49cc18797aa6945818", func := "portcullis/portlaw1.SumHolds", spec := "sumHolds", apart := false, narrowed := true }
def SumHoldsUptoSaid : Prop := sumHoldsUptoRow.holds Try.pinned (OpenSpec.upto sumHoldsSpec)

/-- 'portlaw4.FragPieces', WHERE WHAT IT READS IS OF BULK AT MOST 1048576: true; the input reads as it did. -/
def fragPiecesUptoRow : OpenClaim := { program := "ytlmhhnodhgmmdaa", sum := "a427e38ce4c1485a13e1bcb073626e07a083ed7232610a49cc18797aa6945818", func := "portcullis/portlaw4.FragPieces", spec := "fragPieces", apart := false, narrowed := true }
def FragPiecesUptoSaid : Prop := fragPiecesUptoRow.holds Try.pinned (OpenSpec.upto fragPiecesSpec)

/-- 'portlaw2.ElectOne', WHERE WHAT IT READS IS OF BULK AT MOST 1048576: true; the input reads as it did. -/
def electOneUptoRow : OpenClaim := { program := "ytlmhhnodhgmmdaa", sum := "a427e38ce4c1485a13e1bcb073626e07a083ed7232610a49cc18797aa6945818", func := "portcullis/portlaw2.ElectOne", spec := "electOne", apart := false, narrowed := true }
def ElectOneUptoSaid : Prop := electOneUptoRow.holds Try.pinned (OpenSpec.upto electOneSpec)

end Rows
end Go.Proofs.Ytlmhhnodhgmmdaa
