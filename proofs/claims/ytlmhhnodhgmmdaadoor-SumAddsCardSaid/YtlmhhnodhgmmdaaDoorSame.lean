/- portsame.Error by its contract. -/
import Derived.Test.YtlmhhnodhgmmdaaDoorToldB
namespace Go.Proofs.YtlmhhnodhgmmdaaDoor
open Go.RowKit Go.Port

/-- An error as a value: nil, or an Errno. -/
def errV (k : Int) : Value := if k = 0 then .nilIface else .iface 84 (.int .i64 k)
theorem errV_zero : errV 0 = .nilIface := rfl
theorem told (k : Int) (w : World) (hg : Laid w) :
    Calls Tryd.prog 45 #[errV k] w fun e w' => e = .returned (.int .i64 k) ∧ Below w.heap.size w w' := by
  unfold errV
  split
  · rename_i h; subst h; exact told_nil w
  · exact told_errno k w hg

/-- Is an error the one told? -/
theorem same_Error (k e : Int) (w : World) (hg : Laid w) :
    Calls Tryd.prog 15 #[errV k, .int .i64 e] w fun r w' => r = .returned (.bool (k == e)) ∧ Below w.heap.size w w' := by
  obtain ⟨v, hv⟩ : ∃ v, v = errV k := ⟨_, rfl⟩
  have H := told k w hg
  rw [← hv] at H ⊢
  have HT := Lib.hid H
  clear H hv hg
  go_enter Tryd.func15, Tryd.ntmps15
  go_wp2_with (go_at_call 45; refine HT.out.mono ?_; rintro r w1 ⟨rfl, hb⟩; have Hb := Lib.hid hb; clear hb)
  go_ret
  exact ⟨rfl, Hb.out⟩
end Go.Proofs.YtlmhhnodhgmmdaaDoor
