/- TableFull: what Begin does there. -/
import Derived.Test.YtcnnldlpcpcemaaDoorTblD
import Derived.Test.YtcnnldlpcpcemaaDoorErr
set_option linter.unusedSimpArgs false
set_option linter.unusedVariables false
namespace Go.Proofs.YtcnnldlpcpcemaaDoor
open Go.RowKit Go.Port
attribute [local irreducible] Calls
/-- The flow of key i begins. -/
theorem begin_kF {i : Nat} {now : Int} (hi : i ≤ 100) (hn : 0 ≤ now ∧ now ≤ 1000000) : beginR 2 1 i 2 9 i 9 0 0 0 0 0 0 now = (0, fF now i) := by
  have h1 : segE 2 i 9 0 0 0 0 1 2 0 = 0 := by
    have h3 := (sgSize_bd 2).2
    unfold segE
    rw [if_neg (by unfold segP1; omega), if_neg (by unfold segP2; omega), if_neg (by unfold segP3; omega), if_neg (by omega)]
  have h2 : saidB ⟨2, 1, i, 2, 9⟩ i 9 0 = true := by
    unfold saidB
    simp
  unfold beginR
  rw [if_neg (by omega), if_neg (by rw [Classical.not_not]; exact h1), if_neg (by rw [h2]; decide), if_neg (by omega)]
  rfl
theorem begin_turn {i : Nat} {now : Int} (hi : i ≤ 100) (hn : 0 ≤ now ∧ now ≤ 1000000) : (beginR 2 2 9 1 i 9 i 0 0 0 0 0 0 now).1 = 0 := by
  have h1 : segE 2 9 i 0 0 0 0 2 1 0 = 0 := by
    have h3 := (sgSize_bd 2).2
    unfold segE
    rw [if_neg (by unfold segP1; omega), if_neg (by unfold segP2; omega), if_neg (by unfold segP3; omega), if_neg (by omega)]
  have h2 : saidB ⟨2, 2, 9, 1, i⟩ 9 i 0 = true := by
    unfold saidB
    simp
  unfold beginR
  rw [if_neg (by omega), if_neg (by rw [Classical.not_not]; exact h1), if_neg (by rw [h2]; decide), if_neg (by omega)]
/-- .. begins. -/
theorem full_yes {max tn nf now : Int} {tb r i n : Nat} (hi : i ≤ 31) (hin : i ≤ n) (hn : 0 ≤ now ∧ now ≤ 1000000) (ht : tn ≤ now) (hmax : (liveT now (cF nf i) : Int) < max) {w : World} {D : List Nat} (hn100 : n ≤ 100) (hD : D = (tbC max tn tb r i (cF nf i)).map (·.1)) (hM0 : Mem w w D [tbC max tn tb r i (cF nf i)]) :
    Calls Tryd.prog 5 #[.pointer (some ⟨tb, 0, none⟩), .agg #[.int .i64 2, .int .i64 1, .int .i64 n, .int .i64 2, .int .i64 9], .agg #[.int .i64 n, .int .i64 9, .int .i64 0, .int .i64 0, .int .i64 0, .int .i64 0, .slice none 0 0], .int .i64 0, .int .i64 now] w (Ret w D (fun v L => v = .tuple #[.agg (fF now n).row.toArray, .nilIface] ∧ L = [tbC max now tb r (i + 1) (stayT now (cF nf i) ++ [(kF n, fF now n, i)])])) :=
  (table_Begin 2 1 n 2 9 n 9 0 0 0 0 0 now none 0 0 (cF_ok nf i) (by rw [cF_len]; omega) hD hM0).mono fun e w' h => by
    obtain ⟨v, L, rfl, hm, h⟩ := h
    refine ⟨v, L, rfl, hm, ?_⟩
    rw [begin_kF hn100 hn] at h
    have hk : K5.first ⟨2, 1, n, 2, 9⟩ = kF n := kF_first n
    have ht0 : timE tn now = 0 := by unfold timE; rw [if_neg (by omega), if_neg (by omega)]
    have hno : ¬ clashT now (cF nf i) (kF n) := fun ⟨z, hz, _⟩ => by
      rw [(gM_none (val := fval) (cF_no nf hin)).2] at hz
      cases hz
    unfold BegT at h
    rw [hk, ht0] at h
    rcases h with ⟨e, he, _, _, h | ⟨_, ⟨h, _⟩ | ⟨_, ⟨h, _⟩ | ⟨_, h, _⟩⟩⟩⟩ | ⟨_, _, _, _, h1, h2⟩
    · exact absurd h he
    · exact absurd rfl h
    · exact absurd h hno
    · omega
    · exact ⟨h1, h2⟩
/-- .. does not, as there is no room. -/
theorem full_no {max tn nf now : Int} {tb r i n : Nat} (hi : i ≤ 31) (hin : i ≤ n) (hn : 0 ≤ now ∧ now ≤ 1000000) (ht : tn ≤ now) (hmax : max ≤ liveT now (cF nf i)) {w : World} {D : List Nat} (hn100 : n ≤ 100) (hD : D = (tbC max tn tb r i (cF nf i)).map (·.1)) (hM0 : Mem w w D [tbC max tn tb r i (cF nf i)]) :
    Calls Tryd.prog 5 #[.pointer (some ⟨tb, 0, none⟩), .agg #[.int .i64 2, .int .i64 1, .int .i64 n, .int .i64 2, .int .i64 9], .agg #[.int .i64 n, .int .i64 9, .int .i64 0, .int .i64 0, .int .i64 0, .int .i64 0, .slice none 0 0], .int .i64 0, .int .i64 now] w (Ret w D (fun v L => v = .tuple #[.agg Fl.zero.row.toArray, er 4] ∧ L = [tbC max tn tb r i (cF nf i)])) :=
  (table_Begin 2 1 n 2 9 n 9 0 0 0 0 0 now none 0 0 (cF_ok nf i) (by rw [cF_len]; omega) hD hM0).mono fun e w' h => by
    obtain ⟨v, L, rfl, hm, h⟩ := h
    refine ⟨v, L, rfl, hm, ?_⟩
    rw [begin_kF hn100 hn] at h
    have hk : K5.first ⟨2, 1, n, 2, 9⟩ = kF n := kF_first n
    have ht0 : timE tn now = 0 := by unfold timE; rw [if_neg (by omega), if_neg (by omega)]
    have hno : ¬ clashT now (cF nf i) (kF n) := fun ⟨z, hz, _⟩ => by
      rw [(gM_none (val := fval) (cF_no nf hin)).2] at hz
      cases hz
    unfold BegT at h
    rw [hk, ht0] at h
    rcases h with ⟨e, he, h1, h2, h | ⟨_, ⟨h, _⟩ | ⟨_, ⟨h, _⟩ | ⟨_, h, rfl⟩⟩⟩⟩ | ⟨_, _, _, h, _, _⟩
    · exact absurd h he
    · exact absurd rfl h
    · exact absurd h hno
    · exact ⟨h1, h2⟩
    · omega
/-- .. its turn is there already. -/
theorem full_turn {max tn now : Int} {tb r i : Nat} (hi : i < 31) (hn : 0 ≤ now ∧ now ≤ 1000000) (ht : tn ≤ now) {w : World} {D : List Nat} (hD : D = (tbC max tn tb r (i + 1) (cF now (i + 1))).map (·.1)) (hM0 : Mem w w D [tbC max tn tb r (i + 1) (cF now (i + 1))]) :
    Calls Tryd.prog 5 #[.pointer (some ⟨tb, 0, none⟩), .agg #[.int .i64 2, .int .i64 2, .int .i64 9, .int .i64 1, .int .i64 i], .agg #[.int .i64 9, .int .i64 i, .int .i64 0, .int .i64 0, .int .i64 0, .int .i64 0, .slice none 0 0], .int .i64 0, .int .i64 now] w (Ret w D (fun v L => v = .tuple #[.agg Fl.zero.row.toArray, er 7] ∧ L = [tbC max tn tb r (i + 1) (cF now (i + 1))])) :=
  (table_Begin 2 2 9 1 i 9 i 0 0 0 0 0 now none 0 0 (cF_ok now (i + 1)) (by rw [cF_len]; omega) hD hM0).mono fun e w' h => by
    obtain ⟨v, L, rfl, hm, h⟩ := h
    refine ⟨v, L, rfl, hm, ?_⟩
    have hb := begin_turn (i := i) (by omega) hn
    have hk : K5.first ⟨2, 2, 9, 1, i⟩ = kF i := (K5.first_turn (kF i)).trans (kF_first i)
    have ht0 : timE tn now = 0 := by unfold timE; rw [if_neg (by omega), if_neg (by omega)]
    have hyes : clashT now (cF now (i + 1)) (kF i) := ⟨fF now i, lkG_mem (x := (kF i, fF now i, i)) (cF_ok now (i + 1)) (by rw [cF_succ]; simp), by show now < now + 30; omega⟩
    unfold BegT at h
    rw [hk, ht0, hb] at h
    rcases h with ⟨e, he, h1, h2, h | ⟨_, ⟨h, _⟩ | ⟨_, ⟨_, rfl⟩ | ⟨h, _, _⟩⟩⟩⟩ | ⟨_, _, h, _, _, _⟩
    · exact absurd h he
    · exact absurd rfl h
    · exact ⟨h1, h2⟩
    · exact absurd hyes h
    · exact absurd hyes h
end Go.Proofs.YtcnnldlpcpcemaaDoor
