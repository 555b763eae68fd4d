/-
  No cell of these rows narrows 'for every input' (looked for: loops, veiled, ifaces, maps, wideKeys, modest, calm, conditions, laid).
  DERIVED. THE GIVEN ROWS OF THIS SEAT. 5 by the template 'for every input the law returns true; each argument reads behind the call as it read before'; 0 by the template 'total and deterministic' (their statements: YtejndjmlgacffaaTotals.lean).
  GIVEN WITH THE SEED: the statements are not yours to turn. If you find one false, say at which input.
  Laid BY PROGRAM, IN A SANDBOX (cutbox-rows.mjs): the forced cells as the released guide's own fill.sh prints them over the translation f37c7fb99c2b8eaa… (all of the seat's roots in one cut). By AI agents, Wed Nov 11 2026. No macro, syntax, notation, axiom, sorry.
-/
import Derived.Test.YtejndjmlgacffaaChecked
import GoSem.Claim
import GoSem.ClaimJoined
import GoSem.ClaimMapViews
import Derived.JoinedTies
import Derived.KernelRfl
namespace Go.Proofs.Ytejndjmlgacffaa
/- THE CELL 'sum', in the pinned program and in every row, IS THE sha256 OF THE DUMP (.gsa) THAT YtejndjmlgacffaaProg.lean LOADS. Nothing in Lean hashes anything: it is a label: what it is worth is what the hold of that sum in a sandbox is worth. -/
noncomputable def Try.pinned : Pinned := { name := "ytejndjmlgacffaa", sum := "f37c7fb99c2b8eaa34c356c282149750f2578e641c39426a67e7a8e6104e6896", checked := Try.checked }
namespace Rows
def none {H : Type} : Left H := { results := [], args := [] }

/-- 'portlaw4.DiffSteps': WHATEVER THE INPUT: true; the input reads as it did. -/
def diffStepsSpec : ChangeSpec := { name := "diffSteps", fn := fun _ => fun
  | [d1, d2, d3] => { results := [.lit (.bool true)], args := [d1, d2, d3] }
  | _ => none }
def diffStepsRow : OpenClaim := { program := "ytejndjmlgacffaa", sum := "f37c7fb99c2b8eaa34c356c282149750f2578e641c39426a67e7a8e6104e6896", func := "portcullis/portlaw4.DiffSteps", spec := "diffSteps", inPlace := ["slices.overlaps[portcullis/api.Rule]"], unfollowed := true, recurses := true, apart := false }
def DiffStepsSaid : Prop := diffStepsRow.holds Try.pinned (OpenSpec.ofChange diffStepsSpec)

/-- ITS FALSE NEIGHBOUR: 'it returns false'. Refute it at one input. -/
def diffStepsWrong : ChangeSpec := { name := "diffSteps", fn := fun _ => fun
  | [d1, d2, d3] => { results := [.lit (.bool false)], args := [d1, d2, d3] }
  | _ => none }
def DiffStepsWrongFalsely : Prop := diffStepsRow.holds Try.pinned (OpenSpec.ofChange diffStepsWrong)

/-- 'portlaw3.DiffBack': WHATEVER THE INPUT: true; the input reads as it did. -/
def diffBackSpec : ChangeSpec := { name := "diffBack", fn := fun _ => fun
  | [d1, d2] => { results := [.lit (.bool true)], args := [d1, d2] }
  | _ => none }
def diffBackRow : OpenClaim := { program := "ytejndjmlgacffaa", sum := "f37c7fb99c2b8eaa34c356c282149750f2578e641c39426a67e7a8e6104e6896", func := "portcullis/portlaw3.DiffBack", spec := "diffBack", inPlace := ["slices.overlaps[portcullis/api.Rule]"], unfollowed := true, recurses := true, apart := false }
def DiffBackSaid : Prop := diffBackRow.holds Try.pinned (OpenSpec.ofChange diffBackSpec)

/-- ITS FALSE NEIGHBOUR: 'it returns false'. Refute it at one input. -/
def diffBackWrong : ChangeSpec := { name := "diffBack", fn := fun _ => fun
  | [d1, d2] => { results := [.lit (.bool false)], args := [d1, d2] }
  | _ => none }
def DiffBackWrongFalsely : Prop := diffBackRow.holds Try.pinned (OpenSpec.ofChange diffBackWrong)

/-- 'portlaw2.HeavyBounds': WHATEVER THE INPUT: true; the input reads as it did. -/
def heavyBoundsSpec : ChangeSpec := { name := "heavyBounds", fn := fun _ => fun
  | [d1, d2, d3, d4] => { results := [.lit (.bool true)], args := [d1, d2, d3, d4] }
  | _ => none }
def heavyBoundsRow : OpenClaim := { program := "ytejndjmlgacffaa", sum := "f37c7fb99c2b8eaa34c356c282149750f2578e641c39426a67e7a8e6104e6896", func := "portcullis/portlaw2.HeavyBounds", spec := "heavyBounds", inPlace := ["maps.clone"], unfollowed := true, recurses := true, apart := false }
def HeavyBoundsSaid : Prop := heavyBoundsRow.holds Try.pinned (OpenSpec.ofChange heavyBoundsSpec)

/-- ITS FALSE NEIGHBOUR: 'it returns false'. Refute it at one input. -/
def heavyBoundsWrong : ChangeSpec := { name := "heavyBounds", fn := fun _ => fun
  | [d1, d2, d3, d4] => { results := [.lit (.bool false)], args := [d1, d2, d3, d4] }
  | _ => none }
def HeavyBoundsWrongFalsely : Prop := heavyBoundsRow.holds Try.pinned (OpenSpec.ofChange heavyBoundsWrong)

/-- 'portlaw4.HeavyTop': WHATEVER THE INPUT: true; the input reads as it did. -/
def heavyTopSpec : ChangeSpec := { name := "heavyTop", fn := fun _ => fun
  | [d1, d2, d3] => { results := [.lit (.bool true)], args := [d1, d2, d3] }
  | _ => none }
def heavyTopRow : OpenClaim := { program := "ytejndjmlgacffaa", sum := "f37c7fb99c2b8eaa34c356c282149750f2578e641c39426a67e7a8e6104e6896", func := "portcullis/portlaw4.HeavyTop", spec := "heavyTop", unfollowed := true, recurses := true, apart := false }
def HeavyTopSaid : Prop := heavyTopRow.holds Try.pinned (OpenSpec.ofChange heavyTopSpec)

/-- ITS FALSE NEIGHBOUR: 'it returns false'. Refute it at one input. -/
def heavyTopWrong : ChangeSpec := { name := "heavyTop", fn := fun _ => fun
  | [d1, d2, d3] => { results := [.lit (.bool false)], args := [d1, d2, d3] }
  | _ => none }
def HeavyTopWrongFalsely : Prop := heavyTopRow.holds Try.pinned (OpenSpec.ofChange heavyTopWrong)

/-- 'portlaw4.TrieDrops': WHATEVER THE INPUT: true; the input reads as it did. -/
def trieDropsSpec : ChangeSpec := { name := "trieDrops", fn := fun _ => fun
  | [d1, d2, d3, d4] => { results := [.lit (.bool true)], args := [d1, d2, d3, d4] }
  | _ => none }
def trieDropsRow : OpenClaim := { program := "ytejndjmlgacffaa", sum := "f37c7fb99c2b8eaa34c356c282149750f2578e641c39426a67e7a8e6104e6896", func := "portcullis/portlaw4.TrieDrops", spec := "trieDrops", unfollowed := true, recurses := true, apart := false }
def TrieDropsSaid : Prop := trieDropsRow.holds Try.pinned (OpenSpec.ofChange trieDropsSpec)

/-- ITS FALSE NEIGHBOUR: 'it returns false'. Refute it at one input. -/
def trieDropsWrong : ChangeSpec := { name := "trieDrops", fn := fun _ => fun
  | [d1, d2, d3, d4] => { results := [.lit (.bool false)], args := [d1, d2, d3, d4] }
  | _ => none }
def TrieDropsWrongFalsely : Prop := trieDropsRow.holds Try.pinned (OpenSpec.ofChange trieDropsWrong)

/- THE SECOND FORM. 'bulk': how many values and letters a reading holds, each counted each time it is reached (what is shared counts as often as it is met; a slice's spare places count too). A statement '..UptoSaid' is the law's where the arguments, and the package variables that the reading takes, are together of bulk at most 1048576: NARROWER than '..Said'. Prove '..Said' where nothing that the law and all that it calls make is longer than what came in: it says more and counts as full. Else prove '..UptoSaid'. A law counts once. -/
mutual
def uptoBulk {H : Type} : DataW H → Nat
  | .lit (.string bytes) => bytes.length + 1
  | .lit _ => 1
  | .nil => 1
  | .ptr d => uptoBulk d + 1
  | .slice elems spare => uptoBulkAll elems + uptoBulkAll spare + 1
  | .agg parts => uptoBulkAll parts + 1
  | .iface _ d => uptoBulk d + 1
  | .map entries => uptoBulkEntries entries + 1
  | .held _ => 1
def uptoBulkAll {H : Type} : List (DataW H) → Nat
  | [] => 0
  | d :: r => uptoBulk d + uptoBulkAll r
def uptoBulkEntries {H : Type} : List (Lit × DataW H) → Nat
  | [] => 0
  | x :: r => uptoBulkEntry x + uptoBulkEntries r
def uptoBulkEntry {H : Type} : Lit × DataW H → Nat
  | (.string bytes, d) => bytes.length + uptoBulk d + 1
  | (_, d) => uptoBulk d + 1
 end
def uptoSmall : (H : Type) → List (DataW H) → Bool := fun _ ds => decide (uptoBulkAll ds ≤ 1048576)
def OpenSpec.upto (s : _root_.Go.ChangeSpec) : _root_.Go.OpenSpec := { _root_.Go.OpenSpec.ofChange s with cond := some uptoSmall }

/-- 'portlaw4.DiffSteps', WHERE WHAT IT READS IS OF BULK AT MOST 1048576: true; the input reads as it did. -/
def diffStepsUptoRow : OpenClaim := { program := "ytejndjmlgacffaa", sum := "f37c7fb99c2b8eaa34c356c282149750f2578e641c39426a67e7a8e6104e6896", func := "portcullis/portlaw4.DiffSteps", spec := "diffSteps", inPlace := ["slices.overlaps[portcullis/api.Rule]"], unfollowed := true, recurses := true, apart := false, narrowed := true }
def DiffStepsUptoSaid : Prop := diffStepsUptoRow.holds Try.pinned (OpenSpec.upto diffStepsSpec)

/-- 'portlaw3.DiffBack', WHERE WHAT IT READS IS OF BULK AT MOST 1048576: true; the input reads as it did. -/
def diffBackUptoRow : OpenClaim := { program := "ytejndjmlgacffaa", sum := "f37c7fb99c2b8eaa34c356c282149750f2578e641c39426a67e7a8e6104e6896", func := "portcullis/portlaw3.DiffBack", spec := "diffBack", inPlace := ["slices.overlaps[portcullis/api.Rule]"], unfollowed := true, recurses := true, apart := false, narrowed := true }
def DiffBackUptoSaid : Prop := diffBackUptoRow.holds Try.pinned (OpenSpec.upto diffBackSpec)

/-- 'portlaw2.HeavyBounds', WHERE WHAT IT READS IS OF BULK AT MOST 1048576: true; the input reads as it did. -/
def heavyBoundsUptoRow : OpenClaim := { program := "ytejndjmlgacffaa", sum := "f37c7fb99c2b8eaa34c356c282149750f2578e641c39426a67e7a8e6104e6896", func := "portcullis/portlaw2.HeavyBounds", spec := "heavyBounds", inPlace := ["maps.clone"], unfollowed := true, recurses := true, apart := false, narrowed := true }
def HeavyBoundsUptoSaid : Prop := heavyBoundsUptoRow.holds Try.pinned (OpenSpec.upto heavyBoundsSpec)

/-- 'portlaw4.HeavyTop', WHERE WHAT IT READS IS OF BULK AT MOST 1048576: true; the input reads as it did. -/
def heavyTopUptoRow : OpenClaim := { program := "ytejndjmlgacffaa", sum := "f37c7fb99c2b8eaa34c356c282149750f2578e641c39426a67e7a8e6104e6896", func := "portcullis/portlaw4.HeavyTop", spec := "heavyTop", unfollowed := true, recurses := true, apart := false, narrowed := true }
def HeavyTopUptoSaid : Prop := heavyTopUptoRow.holds Try.pinned (OpenSpec.upto heavyTopSpec)

/-- 'portlaw4.TrieDrops', WHERE WHAT IT READS IS OF BULK AT MOST 1048576: true; the input reads as it did. -/
def trieDropsUptoRow : OpenClaim := { program := "ytejndjmlgacffaa", sum := "f37c7fb99c2b8eaa34c356c282149750f2578e641c39426a67e7a8e6104e6896", func := "portcullis/portlaw4.TrieDrops", spec := "trieDrops", unfollowed := true, recurses := true, apart := false, narrowed := true }
def TrieDropsUptoSaid : Prop := trieDropsUptoRow.holds Try.pinned (OpenSpec.upto trieDropsSpec)

end Rows
end Go.Proofs.Ytejndjmlgacffaa
