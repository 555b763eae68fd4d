/- TablePlays: keyOf; Begin, Tick, New as the law calls them. -/
import Derived.Test.YtghnjmjdaggopaaGreatDoorTabD
import Derived.Test.YtghnjmjdaggopaaGreatDoorTabF
import Derived.Test.YtghnjmjdaggopaaGreatDoorErr
set_option linter.unusedSimpArgs false
set_option linter.unusedVariables false
set_option maxRecDepth 100000
namespace Go.Proofs.YtghnjmjdaggopaaGreatDoor
open Go.RowKit Go.Port
attribute [local irreducible] Calls
def absN (n : Int) : Int := if n < 0 then -(n + 1) else n
def keyN (n : Int) : K5 := ⟨1 + absN n % 3, 10 + absN n % 5, 7, 20 - absN n % 3, 7⟩
theorem keyN_sd (n : Int) : ¬ (keyN n).s = (keyN n).d := by
  unfold keyN
  dsimp only
  omega
set_option maxHeartbeats 4000000 in
theorem law_keyOf (n : Int) (hn : -9223372036854775808 ≤ n ∧ n ≤ 9223372036854775807) (w : World) : Calls Tryz.prog 6 #[.int .i64 n] w (Ret w [] (isV (.agg #[.int .i64 (keyN n).k, .int .i64 (keyN n).s, .int .i64 (keyN n).f, .int .i64 (keyN n).d, .int .i64 (keyN n).t]))) := by
  refine cx_enter (args := [.int .i64 n]) (F := [(0, .int .i64 n)]) _ [] Tryz.func6 rfl Tryz.ntmps6 (by simp) rfl (Mem.refl _) (fun g => ?_)
  by_cases h0 : n < 0
  · have e : absN n = -(n + 1) := if_pos h0
    have ek : (keyN n) = ⟨1 + -(n + 1) % 3, 10 + -(n + 1) % 5, 7, 20 - -(n + 1) % 3, 7⟩ := by unfold keyN; rw [e]
    rw [ek]
    repeat' (first | ((with_reducible refine at_build ?_); refine sx_build [.int .i64 (1 + -(n + 1) % 3), .int .i64 (10 + -(n + 1) % 5), .int .i64 7, .int .i64 (20 - -(n + 1) % 3), .int .i64 7] rfl ?_) | ((with_reducible refine at_op ?_); first | ((with_reducible refine at_move ?_); refine sx_move _ vf ?_) | ((with_reducible refine at_bin ?_); first | refine sx_lss rfl rfl ?_ | refine sx_add rfl rfl bnd ?_ | refine sx_sub rfl rfl bnd ?_ | refine sx_rem rfl rfl bnd ?_) | ((with_reducible refine at_assign ?_); refine sx_assign _ vf ?_) | ((with_reducible refine at_stores ?_); first | refine sx_stval _ vf ?_ | refine sx_storeW rfl rfl rfl rfl ?_) | refine sx_neg rfl bnd ?_ | (refine sx_alloc ?_; intro b)) | refine sx_nil ?_ | ((with_reducible refine at_code ?_); first | refine cx_seq ?_ | refine cx_region ?_ | refine cx_ret ?_ | (refine cx_cond rfl (fun h => ?_) (fun h => ?_) <;> (try simp only [decide_eq_true_eq, decide_eq_false_iff_not, Bool.and_eq_true, Bool.or_eq_true, Bool.and_eq_false_iff, Bool.or_eq_false_iff, Bool.not_eq_true', Bool.not_eq_false', Bool.not_true, Bool.not_false, Bool.true_or, Bool.or_true, Bool.false_or, Bool.or_false, Bool.and_true, Bool.true_and, Bool.false_and, Bool.and_false, reduceCtorEq, Classical.not_not, beq_self_eq_true, bne_self_eq_false, not_true_eq_false, not_false_eq_true, or_false, false_or, or_true, true_or, and_true, true_and, and_false, false_and, or_self, and_self] at h) <;> (try (exfalso; omega)))) | ((with_reducible refine at_exit ?_); refine qx_then ?_))
    all_goals try (exfalso; omega)
    exact qx_retC1 0 [] rfl rfl rfl rfl ⟨rfl, rfl⟩ (fun w hm => hm.nil)
  · have e : absN n = n := if_neg h0
    have ek : (keyN n) = ⟨1 + n % 3, 10 + n % 5, 7, 20 - n % 3, 7⟩ := by unfold keyN; rw [e]
    rw [ek]
    repeat' (first | ((with_reducible refine at_build ?_); refine sx_build [.int .i64 (1 + n % 3), .int .i64 (10 + n % 5), .int .i64 7, .int .i64 (20 - n % 3), .int .i64 7] rfl ?_) | ((with_reducible refine at_op ?_); first | ((with_reducible refine at_move ?_); refine sx_move _ vf ?_) | ((with_reducible refine at_bin ?_); first | refine sx_lss rfl rfl ?_ | refine sx_add rfl rfl bnd ?_ | refine sx_sub rfl rfl bnd ?_ | refine sx_rem rfl rfl bnd ?_) | ((with_reducible refine at_stores ?_); first | refine sx_stval _ vf ?_ | refine sx_storeW rfl rfl rfl rfl ?_) | (refine sx_alloc ?_; intro b)) | refine sx_nil ?_ | ((with_reducible refine at_code ?_); first | refine cx_seq ?_ | refine cx_region ?_ | refine cx_skip ?_ | refine cx_ret ?_ | (refine cx_cond rfl (fun h => ?_) (fun h => ?_) <;> (try simp only [decide_eq_true_eq, decide_eq_false_iff_not, Bool.and_eq_true, Bool.or_eq_true, Bool.and_eq_false_iff, Bool.or_eq_false_iff, Bool.not_eq_true', Bool.not_eq_false', Bool.not_true, Bool.not_false, Bool.true_or, Bool.or_true, Bool.false_or, Bool.or_false, Bool.and_true, Bool.true_and, Bool.false_and, Bool.and_false, reduceCtorEq, Classical.not_not, beq_self_eq_true, bne_self_eq_false, not_true_eq_false, not_false_eq_true, or_false, false_or, or_true, true_or, and_true, true_and, and_false, false_and, or_self, and_self] at h) <;> (try (exfalso; omega)))) | ((with_reducible refine at_exit ?_); refine qx_then ?_))
    all_goals try (exfalso; omega)
    exact qx_retC1 0 [] rfl rfl rfl rfl ⟨rfl, rfl⟩ (fun w hm => hm.nil)
set_option maxHeartbeats 4000000 in
theorem table_TickNo {max tnow : Int} {tb r ck : Nat} {C : Tb} (now : Int) {w : World} {D : List Nat} (hD : D = (tbC max tnow tb r ck C).map (·.1)) (hM0 : Mem w w D [tbC max tnow tb r ck C]) (ht : ¬ timE tnow now = 0) :
    Calls Tryz.prog 17 #[.pointer (some ⟨tb, 0, none⟩), .int .i64 now] w (Ret w D (fun v L => v = .tuple #[.slice none 0 0, er (timE tnow now)] ∧ L = [tbC max tnow tb r ck C])) := by
  have hTx : ∀ {w' : World}, Has w' (tbC max tnow tb r ck C) → w'.cell? ⟨tb, 0 + 1, none⟩ = some (.int .i64 tnow) := fun hh => cell_of_cells (cs := [.int .i64 max, .int .i64 tnow, .map (some r)]) (k := 1) (hh _ (List.Mem.head _)) rfl
  refine cx_enter (args := [.pointer (some ⟨tb, 0, none⟩), .int .i64 now]) (F := [(0, .pointer (some ⟨tb, 0, none⟩)), (1, .int .i64 now)]) _ [tbC max tnow tb r ck C] Tryz.func17 rfl Tryz.ntmps17 (by simp) rfl hM0 (fun g => ?_)
  clear hM0
  by_cases h1 : 0 ≤ now ∧ now ≤ 1000000
  · by_cases h2 : now < tnow
    · have e : timE tnow now = 6 := by unfold timE; rw [if_neg (by omega), if_pos (by omega)]
      rw [e]
      repeat' (first | ((with_reducible refine at_call 39 ?_); refine sx_callv (fun w hm => track_Time _ _) ?_ rfl) | ((with_reducible refine at_load ?_); refine sx_loadM rfl (fun w hm => hTx (hm.at 0 rfl)) ?_) | ((with_reducible refine at_op ?_); first | ((with_reducible refine at_move ?_); refine sx_move _ vf ?_) | ((with_reducible refine at_bin ?_); refine sx_lss rfl rfl ?_) | ((with_reducible refine at_assign ?_); refine sx_assign _ vf ?_) | refine sx_nilCheck rfl ?_ | refine sx_fieldAddr rfl ?_ | refine sx_not rfl ?_ | ((with_reducible refine at_iface ?_); refine sx_iface _ vf ?_)) | refine sx_nil ?_ | ((with_reducible refine at_code ?_); first | refine cx_seq ?_ | refine cx_region ?_ | refine cx_ret ?_ | refine cx_block ?_ | (refine cx_cond rfl (fun h => ?_) (fun h => ?_) <;> (try simp only [decide_eq_true_eq, decide_eq_false_iff_not, Bool.and_eq_true, Bool.or_eq_true, Bool.and_eq_false_iff, Bool.or_eq_false_iff, Bool.not_eq_true', Bool.not_eq_false', Bool.not_true, Bool.not_false, Bool.true_or, Bool.or_true, Bool.false_or, Bool.or_false, Bool.and_true, Bool.true_and, Bool.false_and, Bool.and_false, reduceCtorEq, Classical.not_not, beq_self_eq_true, bne_self_eq_false, not_true_eq_false, not_false_eq_true, or_false, false_or, or_true, true_or, and_true, true_and, and_false, false_and, or_self, and_self] at h) <;> (try (exfalso; omega)))) | ((with_reducible refine at_exit ?_); first | refine qx_then ?_ | refine qx_in_ret ?_ | refine qx_then_ret ?_))
      all_goals try (exfalso; omega)
      all_goals exact qx_ret2 (v := .slice none 0 0) (x := .iface _ _) [tbC max tnow tb r ck C] rfl rfl rfl ⟨by rw [er, errV_ne (by decide)], rfl⟩ (fun w hm => hm)
    · exact absurd (by unfold timE; rw [if_neg (by omega), if_neg (by omega)]) ht
  · have e : timE tnow now = 1 := by unfold timE; rw [if_pos (by omega)]
    rw [e]
    repeat' (first | ((with_reducible refine at_call 39 ?_); refine sx_callv (fun w hm => track_Time _ _) ?_ rfl) | ((with_reducible refine at_op ?_); first | ((with_reducible refine at_move ?_); refine sx_move _ vf ?_) | ((with_reducible refine at_assign ?_); refine sx_assign _ vf ?_) | refine sx_not rfl ?_ | ((with_reducible refine at_iface ?_); refine sx_iface _ vf ?_)) | refine sx_nil ?_ | ((with_reducible refine at_code ?_); first | refine cx_seq ?_ | refine cx_region ?_ | refine cx_ret ?_ | refine cx_block ?_ | (refine cx_cond rfl (fun h => ?_) (fun h => ?_) <;> (try simp only [decide_eq_true_eq, decide_eq_false_iff_not, Bool.and_eq_true, Bool.or_eq_true, Bool.and_eq_false_iff, Bool.or_eq_false_iff, Bool.not_eq_true', Bool.not_eq_false', Bool.not_true, Bool.not_false, Bool.true_or, Bool.or_true, Bool.false_or, Bool.or_false, Bool.and_true, Bool.true_and, Bool.false_and, Bool.and_false, reduceCtorEq, Classical.not_not, beq_self_eq_true, bne_self_eq_false, not_true_eq_false, not_false_eq_true, or_false, false_or, or_true, true_or, and_true, true_and, and_false, false_and, or_self, and_self] at h) <;> (try (exfalso; omega)))) | ((with_reducible refine at_exit ?_); first | refine qx_then ?_ | refine qx_in_ret ?_ | refine qx_then_ret ?_))
    all_goals try (exfalso; omega)
    all_goals exact qx_ret2 (v := .slice none 0 0) (x := .iface _ _) [tbC max tnow tb r ck C] rfl rfl rfl ⟨by rw [er, errV_ne (by decide)], rfl⟩ (fun w hm => hm)
theorem clash_iff {max now : Int} {C : Tb} {ck : Nat} {A : List Fl} {κ : K5} (hT : TRel max C ck A) : clashT now C κ.first ↔ (findF κ (stayL now A)).isSome = true := by
  constructor
  · rintro ⟨z, hz, hu⟩
    cases hf : findF κ (stayL now A) with
    | some _ => rfl
    | none =>
      have := find_no hT hf z hz
      omega
  · intro h
    cases hf : findF κ (stayL now A) with
    | some z =>
      obtain ⟨h1, h2, _⟩ := find_yes hT hf
      exact ⟨z, h1, h2⟩
    | none => rw [hf] at h; cases h
/-- Begin, as the row tells it. -/
theorem table_BeginT {max tnow : Int} {tb r ck : Nat} {C : Tb} {A : List Fl} (k s f d t sf sto q a wn y rule now : Int) (A0 : Option Addr) (len cap0 : Nat) {w : World} {D : List Nat} (hT : TRel max C ck A) (hmx : max ≤ 100) (hD : D = (tbC max tnow tb r ck C).map (·.1)) (hM0 : Mem w w D [tbC max tnow tb r ck C]) {be : Int} {bz : Fl} (hb : beginR k s f d t sf sto q a wn y len rule now = (be, bz)) :
    Calls Tryz.prog 8 #[.pointer (some ⟨tb, 0, none⟩), .agg #[.int .i64 k, .int .i64 s, .int .i64 f, .int .i64 d, .int .i64 t], .agg #[.int .i64 sf, .int .i64 sto, .int .i64 q, .int .i64 a, .int .i64 wn, .int .i64 y, .slice A0 len cap0], .int .i64 rule, .int .i64 now] w (Ret w D (fun v L => (¬ begE max tnow now A ⟨k, s, f, d, t⟩ be = 0 ∧ v = .tuple #[.agg Fl.zero.row.toArray, er (begE max tnow now A ⟨k, s, f, d, t⟩ be)] ∧ L = [tbC max tnow tb r ck C]) ∨ (begE max tnow now A ⟨k, s, f, d, t⟩ be = 0 ∧ v = .tuple #[.agg bz.row.toArray, .nilIface] ∧ ∃ (ck' : Nat) (C' : Tb), L = [tbC max now tb r ck' C'] ∧ TRel max C' ck' (putL bz (stayL now A))))) := by
  have hlen : C.length ≤ 100 := by have := hT.len; omega
  have hcl := clash_iff (now := now) (κ := ⟨k, s, f, d, t⟩) hT
  have hlv := hT.live now
  refine (table_Begin k s f d t sf sto q a wn y rule now A0 len cap0 hT.ok hlen hD hM0).mono fun e w' h => ?_
  obtain ⟨v, L, rfl, hm, h⟩ := h
  refine ⟨v, L, rfl, hm, ?_⟩
  rw [hb] at h
  unfold BegT at h
  rw [hlv] at h
  dsimp only at h
  unfold begE
  rcases h with ⟨e, he, rfl, rfl, h⟩ | ⟨ht, rfl, hnc, hl, rfl, rfl⟩
  · refine .inl ?_
    rcases h with rfl | ⟨ht, ⟨hbe, rfl⟩ | ⟨rfl, ⟨hc, rfl⟩ | ⟨hc, hl, rfl⟩⟩⟩
    · rw [if_pos he]
      exact ⟨he, rfl, rfl⟩
    · rw [if_neg (by simp [ht]), if_pos hbe]
      exact ⟨hbe, rfl, rfl⟩
    · rw [if_neg (by simp [ht]), if_neg (by simp), if_pos (hcl.1 hc)]
      exact ⟨by decide, rfl, rfl⟩
    · rw [if_neg (by simp [ht]), if_neg (by simp), if_neg (fun h => hc (hcl.2 h)), if_pos hl]
      exact ⟨by decide, rfl, rfl⟩
  · refine .inr ?_
    rw [if_neg (by simp [ht]), if_neg (by simp), if_neg (fun h => hnc (hcl.2 h)), if_neg (by omega)]
    have hk : bz.fk = K5.first ⟨k, s, f, d, t⟩ := by unfold Fl.fk; rw [beginR_key hb]
    have hfn : ∀ z ∈ stayL now A, z.fk ≠ bz.fk := fun z hz he => hnc (hcl.2 (by
      cases hf : findF ⟨k, s, f, d, t⟩ (stayL now A) with
      | some _ => rfl
      | none => exact absurd (he.trans hk) (findF_none hf z hz)))
    have hput := (hT.tick now).put (f := bz) hfn (by rw [← (hT.tick now).al]; exact hl)
    rw [hk] at hput
    exact ⟨rfl, rfl, ck + 1, _, rfl, hput⟩
/-- Tick, as the row tells it. -/
theorem table_TickT {max tnow : Int} {tb r ck : Nat} {C : Tb} {A : List Fl} (now : Int) {w : World} {D : List Nat} (hT : TRel max C ck A) (hmx : max ≤ 100) (ht : timE tnow now = 0) (hD : D = (tbC max tnow tb r ck C).map (·.1)) (hM0 : Mem w w D [tbC max tnow tb r ck C]) :
    Calls Tryz.prog 17 #[.pointer (some ⟨tb, 0, none⟩), .int .i64 now] w (Ret w D (fun v L => ∃ (gs : List K5) (Ag : Option Addr) (cap : Nat) (c : Ch), v = .tuple #[.slice Ag gs.length cap, .nilIface] ∧ L = [tbC max now tb r ck (stayT now C), c] ∧ OwnS 37 5 (.slice Ag gs.length cap) gs.length (rowsG enc5 gs) c ∧ gs.Perm (goneL now A) ∧ SortK gs)) :=
  (table_Tick now hT.ok (by have := hT.len; omega) (timE_ok ht) hD hM0).mono fun e w' h => by
    obtain ⟨v, L, rfl, hm, gs, Ag, cap, c, rfl, rfl, ho, hp, hs⟩ := h
    exact ⟨_, _, rfl, hm, gs, Ag, cap, c, rfl, rfl, ho, hp.trans (hT.gone now), hs.imp fun {a b} hab => of_decide_eq_false hab⟩
theorem tnew_no {max : Int} (h : ¬ (1 ≤ max ∧ max ≤ 30)) (w : World) : Calls Tryz.prog 4 #[.int .i64 max] w (Ret w [] (isV (.tuple #[.pointer none, er 1]))) :=
  (table_New max w).mono fun e w' h2 => by
    obtain ⟨v, L, rfl, hm, h3⟩ := h2
    refine ⟨v, L, rfl, hm, ?_⟩
    rcases h3 with ⟨_, rfl, rfl⟩ | ⟨hx, _⟩
    · exact ⟨rfl, rfl⟩
    · exact absurd hx h
theorem tnew_ok {max : Int} (h : 1 ≤ max ∧ max ≤ 30) (w : World) : Calls Tryz.prog 4 #[.int .i64 max] w (Ret w [] (fun v L => ∃ tb r : Nat, v = .tuple #[.pointer (some ⟨tb, 0, none⟩), .nilIface] ∧ L = [tbC max 0 tb r 0 []])) :=
  (table_New max w).mono fun e w' h2 => by
    obtain ⟨v, L, rfl, hm, h3⟩ := h2
    refine ⟨v, L, rfl, hm, ?_⟩
    rcases h3 with ⟨hx, _⟩ | ⟨_, h3⟩
    · exact absurd h hx
    · exact h3
theorem same_ErT (k : Int) (w : World) (hg : Laid w) : Calls Tryz.prog 5 #[er k, .int .i64 k] w (Ret w [] (isV (.bool true))) := by
  have := same_Error k k w hg
  rwa [decide_eq_true rfl] at this
theorem same_Er0 (w : World) (hg : Laid w) : Calls Tryz.prog 5 #[.nilIface, .int .i64 0] w (Ret w [] (isV (.bool true))) := by
  have := same_Error_nil 0 w hg
  rwa [decide_eq_true rfl] at this
end Go.Proofs.YtghnjmjdaggopaaGreatDoor
