/- Contracts of the sums' functions. -/
import Derived.Test.YtlmhhnodhgmmdaaDoorBase
import Derived.Test.YtlmhhnodhgmmdaaDoorProg
import Derived.WalkLawsBesides
namespace Go.Proofs.YtlmhhnodhgmmdaaDoor
open Go.RowKit Go.Port

theorem sum_add (a b : Int) (w : World) (h0 : 0 ≤ a) (h1 : a ≤ 65535) (h2 : 0 ≤ b) (h3 : b ≤ 65535) :
    Calls Tryd.prog 44 #[.int .i64 a, .int .i64 b] w fun e w' => e = .returned (.int .i64 (addW a b)) ∧ w = w' := by
  by_cases h : 65535 < a + b
  · go_enter Tryd.func44, Tryd.ntmps44
    go_wp2
    go_ret
    exact ⟨ret_int (by rw [addW, if_pos h]), rfl⟩
  · go_enter Tryd.func44, Tryd.ntmps44
    go_wp2
    go_ret
    exact ⟨ret_int (by rw [addW, if_neg (by omega)]), rfl⟩

theorem total_nil (a : Option Addr) (cap : Nat) (w : World) : Calls Tryd.prog 42 #[.slice a 0 cap] w fun e w' => e = .returned (.int .i64 0) ∧ w = w' := by
  go_enter Tryd.func42, Tryd.ntmps42
  go_wp2
  refine wp_loop_rounds 1 ?_
  rw [rounds_succ]
  go_wp2
  go_ret
  exact ⟨rfl, rfl⟩

set_option maxHeartbeats 400000 in
theorem total_row (b o cap : Nat) (l : List Int) (w : World) (hn : l.length ≤ 1125899906842624) (hl : Octets l) (hc : RowAt w .u8 b o l) :
    Calls Tryd.prog 42 #[.slice (some ⟨b, o, none⟩) l.length cap] w fun e w' => e = .returned (.int .i64 (total l)) ∧ w = w' := by
  obtain ⟨n, hN⟩ : ∃ n, n = l.length := ⟨_, rfl⟩
  rw [← hN] at hn ⊢
  have HN := Lib.hid hN
  clear hN
  go_enter Tryd.func42, Tryd.ntmps42
  go_wp2
  go_loop [3, 4] (fun s i => ∃ k : Nat, 2 * k ≤ n + 1 ∧ i = .int .i64 (2 * k : Nat) ∧ s = .int .i64 (tot (words l k))) (fun _ i => n + 2 - (intOf i).toNat)
  case atStart => exact ⟨0, by omega, rfl, rfl⟩
  case round =>
    obtain ⟨k, hk, rfl, rfl⟩ := hrel
    by_cases hlt : 2 * k < n
    · have c0 : w.cell? ⟨b, o + 2 * k, none⟩ = some (.int .u8 (nth l (2 * k))) := hc (2 * k) (by have := HN.out; omega)
      have hstep := Lib.hid (total_step hl k)
      obtain ⟨b0, b1⟩ := hl.nth (2 * k)
      obtain ⟨t0, t1⟩ := tot_bd (words_nonneg hl k)
      by_cases hlt2 : 2 * k + 1 < n
      · have c1 : w.cell? ⟨b, o + (2 * k + 1), none⟩ = some (.int .u8 (nth l (2 * k + 1))) := hc (2 * k + 1) (by have := HN.out; omega)
        obtain ⟨b2, b3⟩ := hl.nth (2 * k + 1)
        have hor := or_byte (nth l (2 * k)) (nth l (2 * k + 1)) b0 (by omega) b2 b3
        clear hc
        go_wp2_with (go_at_call 44; refine (sum_add _ _ _ (by omega) (by omega) (by omega) (by omega)).mono ?_; rintro e w' ⟨rfl, rfl⟩)
        go_round
        case rel => exact ⟨k + 1, by omega, by go_num, by rw [← hstep.out, Int.mul_comm 256]⟩
        case measure => simp [intOf]; omega
      · have z := nth_out (l := l) (i := 2 * k + 1) (by have := HN.out; omega)
        have hz := Lib.hid z
        clear hc z
        go_wp2_with (go_at_call 44; refine (sum_add _ _ _ (by omega) (by omega) (by omega) (by omega)).mono ?_; rintro e w' ⟨rfl, rfl⟩)
        go_round
        case rel => exact ⟨k + 1, by omega, by go_num, by rw [← hstep.out, hz.out, Int.mul_comm 256, Int.add_zero]⟩
        case measure => simp [intOf]; omega
    · have he := Lib.hid (total_end (l := l) (j := k) (by have := HN.out; omega) (by have := HN.out; omega))
      clear hc
      go_wp2
      go_ret
      exact ⟨ret_int he.out, rfl⟩

/-- The total of bytes. -/
theorem sum_total {a : Option Addr} {len cap : Nat} {l : List Int} {w : World} (h : IsRow w .u8 a len cap l) (hl : Octets l) (hn : len ≤ 1125899906842624) :
    Calls Tryd.prog 42 #[.slice a len cap] w fun e w' => e = .returned (.int .i64 (total l)) ∧ w = w' := by
  obtain rfl := h.len
  rcases h.2 with h0 | ⟨b, o, rfl, _, _, hc⟩
  · obtain rfl := List.eq_nil_of_length_eq_zero h0
    exact total_nil a cap w
  · exact total_row b o cap l w hn hl hc.row

theorem sum_Sum {a : Option Addr} {len cap : Nat} {l : List Int} {w : World} (h : IsRow w .u8 a len cap l) (hl : Octets l) (hn : len ≤ 1125899906842624) :
    Calls Tryd.prog 9 #[.slice a len cap] w fun e w' => e = .returned (.int .i64 (65535 - total l)) ∧ w = w' := by
  obtain ⟨t0, t1⟩ := total_bd hl
  have H := Lib.hid h
  clear h
  go_enter Tryd.func9, Tryd.ntmps9
  go_wp2_with (go_at_call 42; refine (sum_total H.out hl hn).mono ?_; rintro e w' ⟨rfl, rfl⟩)
  go_ret
  exact ⟨rfl, rfl⟩

theorem sum_Valid {a : Option Addr} {len cap : Nat} {l : List Int} {w : World} (h : IsRow w .u8 a len cap l) (hl : Octets l) (hn : len ≤ 1125899906842624) :
    Calls Tryd.prog 11 #[.slice a len cap] w fun e w' => e = .returned (.bool (total l == 65535)) ∧ w = w' := by
  have H := Lib.hid h
  clear h
  go_enter Tryd.func11, Tryd.ntmps11
  go_wp2_with (go_at_call 42; refine (sum_total H.out hl hn).mono ?_; rintro e w' ⟨rfl, rfl⟩)
  go_ret
  exact ⟨rfl, rfl⟩

theorem sum_word (n : Int) (w : World) : Calls Tryd.prog 43 #[.int .i64 n] w fun e w' => e = .returned (.bool (isWord n)) ∧ w = w' := by
  by_cases h0 : 0 ≤ n
  · by_cases h1 : n ≤ 65535
    · have hw := Lib.hid (isWord_true h0 h1)
      go_enter Tryd.func43, Tryd.ntmps43
      go_wp2
      go_ret
      exact ⟨ret_bool (by rw [hw.out]), rfl⟩
    · have hw := Lib.hid (isWord_false (n := n) (by omega))
      go_enter Tryd.func43, Tryd.ntmps43
      go_wp2
      go_ret
      exact ⟨ret_bool (by rw [hw.out]), rfl⟩
  · have hw := Lib.hid (isWord_false (n := n) (by omega))
    go_enter Tryd.func43, Tryd.ntmps43
    go_wp2
    go_ret
    exact ⟨ret_bool (by rw [hw.out]), rfl⟩

/-- Update, where all three are words. -/
theorem sum_Update (s o n : Int) (w : World) (h0 : 0 ≤ s) (h1 : s ≤ 65535) (h2 : 0 ≤ o) (h3 : o ≤ 65535) (h4 : 0 ≤ n) (h5 : n ≤ 65535) :
    Calls Tryd.prog 16 #[.int .i64 s, .int .i64 o, .int .i64 n] w fun e w' => e = .returned (.tuple #[.int .i64 (65535 - addW (addW (65535 - s) (65535 - o)) n), .nilIface]) ∧ w = w' := by
  have e1 := isWord_true h0 h1
  have e2 := isWord_true h2 h3
  have e3 := isWord_true h4 h5
  obtain ⟨a0, a1⟩ := addW_bd (a := 65535 - s) (b := 65535 - o) (by omega) (by omega) (by omega) (by omega)
  obtain ⟨a2, a3⟩ := addW_bd (a := addW (65535 - s) (65535 - o)) (b := n) a0 a1 h4 h5
  go_enter Tryd.func16, Tryd.ntmps16
  go_wp2_with (first | (go_at_call 43; refine (sum_word _ _).mono ?_; rintro e w' ⟨rfl, rfl⟩) | (go_at_call 44; refine (sum_add _ _ _ (by omega) (by omega) (by omega) (by omega)).mono ?_; rintro e w' ⟨rfl, rfl⟩))
  go_ret2
  exact ⟨rfl, rfl⟩

/-- Update, where one is none. -/
theorem sum_Update_no (s o n : Int) (w : World) (h : isWord s = false ∨ isWord o = false ∨ isWord n = false) :
    Calls Tryd.prog 16 #[.int .i64 s, .int .i64 o, .int .i64 n] w fun e w' => e = .returned (.tuple #[.int .i64 0, .iface 84 (.int .i64 1)]) ∧ w = w' := by
  cases e1 : isWord s <;> cases e2 : isWord o <;> cases e3 : isWord n
  all_goals first | (exfalso; simp [e1, e2, e3] at h; done) | skip
  all_goals
    clear h
    go_enter Tryd.func16, Tryd.ntmps16
    go_wp2_with (first | (go_at_call 43; refine (sum_word _ _).mono ?_; rintro e w' ⟨rfl, rfl⟩))
    go_ret2
    exact ⟨rfl, rfl⟩
end Go.Proofs.YtlmhhnodhgmmdaaDoor
