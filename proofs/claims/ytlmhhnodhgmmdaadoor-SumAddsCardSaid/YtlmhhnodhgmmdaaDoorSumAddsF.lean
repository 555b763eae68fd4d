/- Contracts that SumAdds wants beside those of XSum. -/
import Derived.Test.YtlmhhnodhgmmdaaDoorSum
import Derived.Test.YtlmhhnodhgmmdaaDoorSumRef
import Derived.Test.YtlmhhnodhgmmdaaDoorSame
namespace Go.Proofs.YtlmhhnodhgmmdaaDoor
open Go.RowKit Go.Port

theorem ref_Word (n : Int) (w : World) : Calls Tryd.prog 12 #[.int .i64 n] w fun e w' => e = .returned (.bool (isWord n)) ∧ w = w' := by
  by_cases h0 : 0 ≤ n
  · by_cases h1 : n ≤ 65535
    · have hw := Lib.hid (isWord_true h0 h1)
      go_enter Tryd.func12, Tryd.ntmps12
      go_wp2
      go_ret
      exact ⟨ret_bool (by rw [hw.out]), rfl⟩
    · have hw := Lib.hid (isWord_false (n := n) (by omega))
      go_enter Tryd.func12, Tryd.ntmps12
      go_wp2
      go_ret
      exact ⟨ret_bool (by rw [hw.out]), rfl⟩
  · have hw := Lib.hid (isWord_false (n := n) (by omega))
    go_enter Tryd.func12, Tryd.ntmps12
    go_wp2
    go_ret
    exact ⟨ret_bool (by rw [hw.out]), rfl⟩

theorem sum_Add (a b : Int) (w : World) (h0 : 0 ≤ a) (h1 : a ≤ 65535) (h2 : 0 ≤ b) (h3 : b ≤ 65535) :
    Calls Tryd.prog 14 #[.int .i64 a, .int .i64 b] w fun e w' => e = .returned (.tuple #[.int .i64 (addW a b), .nilIface]) ∧ w = w' := by
  have e1 := isWord_true h0 h1
  have e2 := isWord_true h2 h3
  go_enter Tryd.func14, Tryd.ntmps14
  go_wp2_with (first | (go_at_call 43; refine (sum_word _ _).mono ?_; rintro e w' ⟨rfl, rfl⟩) | (go_at_call 44; refine (sum_add _ _ _ (by omega) (by omega) (by omega) (by omega)).mono ?_; rintro e w' ⟨rfl, rfl⟩))
  go_ret2
  exact ⟨rfl, rfl⟩
theorem sum_Add_no (a b : Int) (w : World) (h : isWord a = false ∨ isWord b = false) :
    Calls Tryd.prog 14 #[.int .i64 a, .int .i64 b] w fun e w' => e = .returned (.tuple #[.int .i64 0, .iface 84 (.int .i64 1)]) ∧ w = w' := by
  cases e1 : isWord a <;> cases e2 : isWord b
  all_goals first | (exfalso; simp [e1, e2] at h; done) | skip
  all_goals
    clear h
    go_enter Tryd.func14, Tryd.ntmps14
    go_wp2_with (first | (go_at_call 43; refine (sum_word _ _).mono ?_; rintro e w' ⟨rfl, rfl⟩))
    go_ret2
    exact ⟨rfl, rfl⟩

/-- A number made full. -/
theorem sum_Pad (n s : Int) (w : World) (h0 : 0 ≤ n) (h1 : n ≤ 1000000) (h2 : 1 ≤ s) (h3 : s ≤ 64) :
    Calls Tryd.prog 17 #[.int .i64 n, .int .i64 s] w fun e w' => e = .returned (.tuple #[.int .i64 ((n + s - 1) / s * s), .nilIface]) ∧ w = w' := by
  obtain ⟨p0, p1⟩ := pad_bd h0 h1 h2 h3
  go_enter Tryd.func17, Tryd.ntmps17
  go_wp2
  go_ret2
  exact ⟨rfl, rfl⟩
theorem sum_Pad_no (n s : Int) (w : World) (h : n < 0 ∨ 1000000 < n ∨ s < 1 ∨ 64 < s) :
    Calls Tryd.prog 17 #[.int .i64 n, .int .i64 s] w fun e w' => e = .returned (.tuple #[.int .i64 0, .iface 84 (.int .i64 1)]) ∧ w = w' := by
  by_cases h0 : n < 0
  · go_enter Tryd.func17, Tryd.ntmps17
    go_wp2
    go_ret2
    exact ⟨rfl, rfl⟩
  · by_cases h1 : 1000000 < n
    · go_enter Tryd.func17, Tryd.ntmps17
      go_wp2
      go_ret2
      exact ⟨rfl, rfl⟩
    · by_cases h2 : s < 1
      · go_enter Tryd.func17, Tryd.ntmps17
        go_wp2
        go_ret2
        exact ⟨rfl, rfl⟩
      · have h3 : 64 < s := by omega
        clear h
        go_enter Tryd.func17, Tryd.ntmps17
        go_wp2
        go_ret2
        exact ⟨rfl, rfl⟩
end Go.Proofs.YtlmhhnodhgmmdaaDoor
