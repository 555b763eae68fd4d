/- Contracts of the references' sums. -/
import Derived.Test.YtlmhhnodhgmmdaaDoorBase
import Derived.Test.YtlmhhnodhgmmdaaDoorProg
import Derived.WalkLawsBesides
namespace Go.Proofs.YtlmhhnodhgmmdaaDoor
open Go.RowKit Go.Port

theorem ref_Add (a b : Int) (w : World) (h0 : 0 ≤ a) (h1 : a ≤ 65535) (h2 : 0 ≤ b) (h3 : b ≤ 65535) :
    Calls Tryd.prog 13 #[.int .i64 a, .int .i64 b] w fun e w' => e = .returned (.int .i64 (addW a b)) ∧ w = w' := by
  by_cases h : 65535 < a + b
  · go_enter Tryd.func13, Tryd.ntmps13
    go_wp2
    go_ret
    exact ⟨ret_int (by rw [addW, if_pos h]), rfl⟩
  · go_enter Tryd.func13, Tryd.ntmps13
    go_wp2
    go_ret
    exact ⟨ret_int (by rw [addW, if_neg (by omega)]), rfl⟩

theorem refTotal_nil (a : Option Addr) (cap : Nat) (w : World) : Calls Tryd.prog 10 #[.slice a 0 cap] w fun e w' => e = .returned (.int .i64 0) ∧ w = w' := by
  go_enter Tryd.func10, Tryd.ntmps10
  go_wp2
  refine wp_loop_rounds 1 ?_
  rw [rounds_succ]
  go_wp2
  go_ret
  exact ⟨rfl, rfl⟩

set_option maxHeartbeats 400000 in
theorem refTotal_row (b o cap : Nat) (l : List Int) (w : World) (hn : l.length ≤ 1125899906842624) (hl : Octets l) (hc : RowAt w .u8 b o l) :
    Calls Tryd.prog 10 #[.slice (some ⟨b, o, none⟩) l.length cap] w fun e w' => e = .returned (.int .i64 (total l)) ∧ w = w' := by
  obtain ⟨n, hN⟩ : ∃ n, n = l.length := ⟨_, rfl⟩
  rw [← hN] at hn ⊢
  have HN := Lib.hid hN
  clear hN
  go_enter Tryd.func10, Tryd.ntmps10
  go_wp2
  go_loop [3, 4] (fun s i => ∃ k : Nat, 2 * k ≤ n + 1 ∧ i = .int .i64 (2 * k : Nat) ∧ s = .int .i64 (tot (words l k))) (fun _ i => n + 2 - (intOf i).toNat)
  case atStart => exact ⟨0, by omega, rfl, rfl⟩
  case round =>
    obtain ⟨k, hk, rfl, rfl⟩ := hrel
    by_cases hlt : 2 * k < n
    · have c0 : w.cell? ⟨b, o + 2 * k, none⟩ = some (.int .u8 (nth l (2 * k))) := hc (2 * k) (by have := HN.out; omega)
      have hstep := Lib.hid (total_step hl k)
      obtain ⟨b0, b1⟩ := hl.nth (2 * k)
      obtain ⟨t0, t1⟩ := tot_bd (words_nonneg hl k)
      by_cases hlt2 : 2 * k + 1 < n
      · have c1 : w.cell? ⟨b, o + (2 * k + 1), none⟩ = some (.int .u8 (nth l (2 * k + 1))) := hc (2 * k + 1) (by have := HN.out; omega)
        obtain ⟨b2, b3⟩ := hl.nth (2 * k + 1)
        clear hc
        go_wp2_with (go_at_call 13; refine (ref_Add _ _ _ (by omega) (by omega) (by omega) (by omega)).mono ?_; rintro e w' ⟨rfl, rfl⟩)
        go_round
        case rel => exact ⟨k + 1, by omega, by go_num, by rw [← hstep.out, Int.mul_comm 256]⟩
        case measure => simp [intOf]; omega
      · have z := nth_out (l := l) (i := 2 * k + 1) (by have := HN.out; omega)
        have hz := Lib.hid z
        clear hc z
        go_wp2_with (go_at_call 13; refine (ref_Add _ _ _ (by omega) (by omega) (by omega) (by omega)).mono ?_; rintro e w' ⟨rfl, rfl⟩)
        go_round
        case rel => exact ⟨k + 1, by omega, by go_num, by rw [← hstep.out, hz.out, Int.mul_comm 256, Int.add_zero]⟩
        case measure => simp [intOf]; omega
    · have he := Lib.hid (total_end (l := l) (j := k) (by have := HN.out; omega) (by have := HN.out; omega))
      clear hc
      go_wp2
      go_ret
      exact ⟨ret_int he.out, rfl⟩

/-- The total of bytes. -/
theorem ref_Total {a : Option Addr} {len cap : Nat} {l : List Int} {w : World} (h : IsRow w .u8 a len cap l) (hl : Octets l) (hn : len ≤ 1125899906842624) :
    Calls Tryd.prog 10 #[.slice a len cap] w fun e w' => e = .returned (.int .i64 (total l)) ∧ w = w' := by
  obtain rfl := h.len
  rcases h.2 with h0 | ⟨b, o, rfl, _, _, hc⟩
  · obtain rfl := List.eq_nil_of_length_eq_zero h0
    exact refTotal_nil a cap w
  · exact refTotal_row b o cap l w hn hl hc.row

end Go.Proofs.YtlmhhnodhgmmdaaDoor
