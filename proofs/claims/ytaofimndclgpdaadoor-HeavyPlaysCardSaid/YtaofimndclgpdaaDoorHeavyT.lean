/- The document's heavy: at, Count, take. -/
import Derived.Test.YtaofimndclgpdaaDoorHeavyR
import Derived.Test.YtaofimndclgpdaaDoorSxTx
set_option linter.unusedSimpArgs false
set_option linter.unusedVariables false
set_option maxRecDepth 100000
namespace Go.Port
open Go.RowKit
/-- The document's heavy as one piece: itself and its row. -/
def rhC (T : TypeId) (N less all : Int) (xb : Nat) (A : Option Addr) (m cap : Nat) (c : Ch) : Ch :=
  (xb, .cells [.int .i64 N, .int .i64 less, .int .i64 all, .slice A m cap].toArray T (0, 0)) :: c
theorem rhC_box {T : TypeId} {N less all : Int} {xb : Nat} {A : Option Addr} {m cap : Nat} {c : Ch} {w : World} (h : Has w (rhC T N less all xb A m cap c)) : w.heap[xb]? = some (.cells [.int .i64 N, .int .i64 less, .int .i64 all, .slice A m cap].toArray T (0, 0)) := h _ (List.Mem.head _)
theorem rhC_row {T : TypeId} {N less all : Int} {xb : Nat} {A : Option Addr} {m cap : Nat} {c : Ch} {w : World} (h : Has w (rhC T N less all xb A m cap c)) : Has w c := fun e he => h e (List.Mem.tail _ he)
theorem own_formR {E sz : Nat} {A : Option Addr} {m n cap : Nat} {xs : List Value} {c : Ch} (h : OwnS E sz (.slice A m cap) n xs c) (hn : 0 < n) : ∃ b ext, A = some ⟨b, 0, none⟩ ∧ c = [(b, .cells (xs ++ ext).toArray E (0, 0))] ∧ m = n ∧ n ≤ cap ∧ cap ≤ maxLen ∧ (xs ++ ext).length = cap * sz := by
  rcases h.2 with ⟨_, h0, _⟩ | ⟨b, cap', ext, hv, h1, h2, h3, hc⟩
  · omega
  · simp only [Value.slice.injEq] at hv
    obtain ⟨rfl, rfl, rfl⟩ := hv
    exact ⟨b, ext, rfl, hc, rfl, h1, h2, h3⟩
end Go.Port
namespace Go.Proofs.YtaofimndclgpdaaDoor
open Go.RowKit Go.Port
attribute [local irreducible] Calls
set_option maxHeartbeats 8000000 in
theorem ref_at {N less all : Int} {xb m cap : Nat} {A : Option Addr} {c : Ch} {l : List (Int × Int)} (k : Int) {w : World} (h : Has w (rhC 32 N less all xb A m cap c)) (ho : OwnS 37 3 (.slice A m cap) m (rowsG encX l) c) (hm0 : m = l.length) (hmb : m ≤ 100) :
    Calls Tryd.prog 21 #[.pointer (some ⟨xb, 0, none⟩), .int .i64 k] w (Ret w [] (isV (.int .i64 (atI (findH l k))))) := by
  have h0 := rhC_box h
  obtain ⟨b1, o1, hA1⟩ := (ho.sees (rhC_row h)).1.base
  refine cx_enter (args := [.pointer (some ⟨xb, 0, none⟩), .int .i64 k]) (F := [(0, .pointer (some ⟨xb, 0, none⟩)), (1, .int .i64 k)]) _ [] Tryd.func21 rfl Tryd.ntmps21 (by simp) rfl (Mem.refl _) (fun g => ?_)
  repeat' (first | ((with_reducible refine at_op ?_); ((with_reducible refine at_assign ?_); refine sx_assign _ vf ?_)) | refine sx_nil ?_ | ((with_reducible refine at_code ?_); first | refine cx_seq ?_ | refine cx_region ?_ | refine cx_block ?_) | ((with_reducible refine at_exit ?_); refine qx_then ?_))
  refine cx_loop (fun mm fr L => ∃ i : Nat, FF fr [(0, .pointer (some ⟨xb, 0, none⟩)), (1, .int .i64 k), (5, .int .i64 i)] ∧ L = [] ∧ mm + i = m ∧ ∀ j, j < i → ∀ y, l[j]? = some y → y.1 ≠ k) m ?_ ?_
  · exact ⟨0, ffr, rfl, rfl, fun _ h => by omega⟩
  rintro mm fr L ⟨i, hF, rfl, hmm, hno⟩ K hK
  refine cx_use hF fun g => ?_
  clear hF
  by_cases hin : i < m
  rotate_left
  · clear hK
    repeat' (first | ((with_reducible refine at_load ?_); refine sx_loadB rfl h0 rfl ?_) | ((with_reducible refine at_op ?_); first | ((with_reducible refine at_move ?_); refine sx_move _ vf ?_) | ((with_reducible refine at_bin ?_); refine sx_lss rfl rfl ?_) | ((with_reducible refine at_assign ?_); refine sx_assign _ vf ?_) | refine sx_nilCheck rfl ?_ | refine sx_fieldAddr rfl ?_ | refine sx_len rfl ?_) | refine sx_nil ?_ | ((with_reducible refine at_code ?_); first | refine cx_seq ?_ | refine cx_region ?_ | refine cx_ret ?_ | refine cx_exit ?_ | (refine cx_cond rfl (fun h => ?_) (fun h => ?_) <;> (try simp only [decide_eq_true_eq, decide_eq_false_iff_not, Bool.and_eq_true, Bool.or_eq_true, Bool.and_eq_false_iff, Bool.or_eq_false_iff, Bool.not_eq_true', Bool.not_eq_false', Bool.not_true, Bool.not_false, Bool.true_or, Bool.or_true, Bool.false_or, Bool.or_false, Bool.and_true, Bool.true_and, Bool.false_and, Bool.and_false, reduceCtorEq, Classical.not_not, beq_self_eq_true, bne_self_eq_false, not_true_eq_false, not_false_eq_true, or_false, false_or, or_true, true_or, and_true, true_and, and_false, false_and, or_self, and_self] at h) <;> (try (exfalso; omega)))) | ((with_reducible refine at_exit ?_); first | refine qx_then ?_ | refine qx_in_here ?_ | refine qx_then_exit ?_))
    all_goals try (exfalso; omega)
    rw [find_miss (fun j hj => hno j (by omega))]
    exact qx_ret1 (v := .int .i64 (-1)) [] rfl rfl ⟨rfl, rfl⟩ (fun w hm => hm.nil)
  obtain ⟨x, hx⟩ : ∃ x, l[i]? = some x := ⟨_, List.getElem?_eq_getElem (by omega)⟩
  obtain ⟨rfl, hlt, hcs⟩ := hA1 (by omega)
  have ha0 : w.cell? ⟨b1, o1 + (i : Int).toNat * 3, none⟩ = some (.int .i64 x.1) := by
    have h1 := hcs (i * 3 + 0) (.int .i64 x.1) (by rw [rowsG_at encX_len l i 0 x hx (by decide)]; rfl)
    rw [show o1 + (i : Int).toNat * 3 = o1 + (i * 3 + 0) by omega]
    exact h1
  clear hcs hA1
  by_cases hk : x.1 = k
  · repeat' (first | ((with_reducible refine at_load ?_); first | refine sx_loadB rfl h0 rfl ?_ | refine sx_loadM rfl (fun w' hm => (World.cell?_of_block (w := w) (hm.old b1 hlt (by simp))).trans ha0) ?_) | ((with_reducible refine at_op ?_); first | ((with_reducible refine at_move ?_); refine sx_move _ vf ?_) | ((with_reducible refine at_bin ?_); first | refine sx_lss rfl rfl ?_ | refine sx_eql rfl rfl ?_) | ((with_reducible refine at_assign ?_); refine sx_assign _ vf ?_) | refine sx_nilCheck rfl ?_ | refine sx_fieldAddr rfl ?_ | refine sx_index rfl rfl bnd ?_ | refine sx_len rfl ?_) | refine sx_nil ?_ | ((with_reducible refine at_code ?_); first | refine cx_seq ?_ | refine cx_region ?_ | refine cx_skip ?_ | refine cx_ret ?_ | refine cx_block ?_ | (refine cx_cond rfl (fun h => ?_) (fun h => ?_) <;> (try simp only [decide_eq_true_eq, decide_eq_false_iff_not, Bool.and_eq_true, Bool.or_eq_true, Bool.and_eq_false_iff, Bool.or_eq_false_iff, Bool.not_eq_true', Bool.not_eq_false', Bool.not_true, Bool.not_false, Bool.true_or, Bool.or_true, Bool.false_or, Bool.or_false, Bool.and_true, Bool.true_and, Bool.false_and, Bool.and_false, reduceCtorEq, Classical.not_not, beq_self_eq_true, bne_self_eq_false, not_true_eq_false, not_false_eq_true, or_false, false_or, or_true, true_or, and_true, true_and, and_false, false_and, or_self, and_self] at h) <;> (try (exfalso; omega)))) | ((with_reducible refine at_exit ?_); first | refine qx_then ?_ | refine qx_in_ret ?_ | refine qx_then_ret ?_))
    all_goals try (exfalso; omega)
    rw [find_hit hno hx hk]
    exact qx_ret1 (v := .int .i64 i) [] rfl rfl ⟨rfl, rfl⟩ (fun w hm => hm.nil)
  · repeat' (first | ((with_reducible refine at_load ?_); first | refine sx_loadB rfl h0 rfl ?_ | refine sx_loadM rfl (fun w' hm => (World.cell?_of_block (w := w) (hm.old b1 hlt (by simp))).trans ha0) ?_) | ((with_reducible refine at_op ?_); first | ((with_reducible refine at_move ?_); refine sx_move _ vf ?_) | ((with_reducible refine at_bin ?_); first | refine sx_lss rfl rfl ?_ | refine sx_eql rfl rfl ?_ | refine sx_add rfl rfl bnd ?_) | ((with_reducible refine at_assign ?_); refine sx_assign _ vf ?_) | refine sx_nilCheck rfl ?_ | refine sx_fieldAddr rfl ?_ | refine sx_index rfl rfl bnd ?_ | refine sx_len rfl ?_) | refine sx_nil ?_ | ((with_reducible refine at_code ?_); first | refine cx_seq ?_ | refine cx_region ?_ | refine cx_skip ?_ | refine cx_block ?_ | (refine cx_cond rfl (fun h => ?_) (fun h => ?_) <;> (try simp only [decide_eq_true_eq, decide_eq_false_iff_not, Bool.and_eq_true, Bool.or_eq_true, Bool.and_eq_false_iff, Bool.or_eq_false_iff, Bool.not_eq_true', Bool.not_eq_false', Bool.not_true, Bool.not_false, Bool.true_or, Bool.or_true, Bool.false_or, Bool.or_false, Bool.and_true, Bool.true_and, Bool.false_and, Bool.and_false, reduceCtorEq, Classical.not_not, beq_self_eq_true, bne_self_eq_false, not_true_eq_false, not_false_eq_true, or_false, false_or, or_true, true_or, and_true, true_and, and_false, false_and, or_self, and_self] at h) <;> (try (exfalso; omega)))) | ((with_reducible refine at_exit ?_); first | refine qx_then ?_ | refine qx_in_normal ?_))
    all_goals try (exfalso; omega)
    refine qx_mem (L' := []) ?_ (fun w hm => hm)
    refine hK (mm - 1) _ _ _ (by omega) ⟨i + 1, ffr, rfl, by omega, fun j hj y hy => ?_⟩
    by_cases hji : j = i
    · subst hji
      rw [hx] at hy
      rw [← Option.some.inj hy]
      exact hk
    · exact hno j (by omega) y hy
set_option maxHeartbeats 8000000 in
theorem ref_Count {N less all : Int} {xb m cap : Nat} {A : Option Addr} {c : Ch} {l : List (Int × Int)} (k : Int) {w : World} (h : Has w (rhC 32 N less all xb A m cap c)) (ho : OwnS 37 3 (.slice A m cap) m (rowsG encX l) c) (hm0 : m = l.length) (hmb : m ≤ 100) :
    Calls Tryd.prog 9 #[.pointer (some ⟨xb, 0, none⟩), .int .i64 k] w (Ret w [] (isV (.agg #[.int .i64 k, .int .i64 (lkH l k), .int .i64 less]))) := by
  have h0 := rhC_box h
  obtain ⟨b1, o1, hA1⟩ := (ho.sees (rhC_row h)).1.base
  refine cx_enter (args := [.pointer (some ⟨xb, 0, none⟩), .int .i64 k]) (F := [(0, .pointer (some ⟨xb, 0, none⟩)), (1, .int .i64 k)]) _ [] Tryd.func9 rfl Tryd.ntmps9 (by simp) rfl (Mem.refl _) (fun g => ?_)
  have hat := fun (w' : World) (hh : Has w' (rhC 32 N less all xb A m cap c)) => ref_at k hh ho hm0 hmb
  have hH : ∀ {w' : World} {L : List Ch}, Mem w w' [] L → Has w' (rhC 32 N less all xb A m cap c) := fun hm e he => hm.old0 (h e he)
  cases hf : findH l k with
  | none =>
    rw [hf] at hat
    rw [(find_none hf).2.1]
    have hat' : ∀ w', Has w' (rhC 32 N less all xb A m cap c) → Calls Tryd.prog 21 #[.pointer (some ⟨xb, 0, none⟩), .int .i64 k] w' (Ret w' [] (isV (.int .i64 (-1)))) := hat
    repeat' (first | ((with_reducible refine at_build ?_); refine sx_build [.int .i64 k, .int .i64 0, .int .i64 less] rfl ?_) | ((with_reducible refine at_call 21 ?_); refine sx_callv (fun w hm => hat' _ (hH hm)) ?_ rfl) | ((with_reducible refine at_load ?_); refine sx_loadB rfl h0 rfl ?_) | ((with_reducible refine at_op ?_); first | ((with_reducible refine at_move ?_); refine sx_move _ vf ?_) | ((with_reducible refine at_bin ?_); refine sx_geq rfl rfl ?_) | ((with_reducible refine at_assign ?_); refine sx_assign _ vf ?_) | ((with_reducible refine at_load ?_); refine sx_loadWE rfl pc gl ?_) | ((with_reducible refine at_stores ?_); first | refine sx_stval _ vf ?_ | refine sx_storeW rfl rfl rfl rfl ?_ | (refine sx_rot rot1 ?_; refine sx_storeW rfl rfl rfl rfl ?_)) | refine sx_nilCheck rfl ?_ | refine sx_fieldAddr rfl ?_ | (refine sx_alloc ?_; intro b)) | refine sx_nil ?_ | ((with_reducible refine at_code ?_); first | refine cx_seq ?_ | refine cx_region ?_ | refine cx_skip ?_ | refine cx_ret ?_ | refine cx_false rfl ?_) | ((with_reducible refine at_exit ?_); refine qx_then ?_))
    all_goals try (exfalso; omega)
    exact qx_retC1 0 [] rfl rfl rfl rfl ⟨rfl, rfl⟩ (fun w hm => hm.nil)
  | some i =>
    rw [hf] at hat
    have hat' : ∀ w', Has w' (rhC 32 N less all xb A m cap c) → Calls Tryd.prog 21 #[.pointer (some ⟨xb, 0, none⟩), .int .i64 k] w' (Ret w' [] (isV (.int .i64 (i : Int)))) := hat
    obtain ⟨x, hx, hxk, _, hlk, _⟩ := find_some hf
    have hil := (List.getElem?_eq_some_iff.1 hx).1
    obtain ⟨rfl, hlt, hcs⟩ := hA1 (by omega)
    rw [hlk]
    have ha1 : w.cell? ⟨b1, o1 + (i : Int).toNat * 3 + 1, none⟩ = some (.int .i64 x.2) := by
      have h1 := hcs (i * 3 + 1) (.int .i64 x.2) (by rw [rowsG_at encX_len l i 1 x hx (by decide)]; rfl)
      rw [show o1 + (i : Int).toNat * 3 + 1 = o1 + (i * 3 + 1) by omega]
      exact h1
    clear hcs hA1
    repeat' (first | ((with_reducible refine at_build ?_); refine sx_build [.int .i64 k, .int .i64 0, .int .i64 less] rfl ?_) | ((with_reducible refine at_call 21 ?_); refine sx_callv (fun w hm => hat' _ (hH hm)) ?_ rfl) | ((with_reducible refine at_load ?_); first | refine sx_loadB rfl h0 rfl ?_ | refine sx_loadM rfl (fun w' hm => (World.cell?_of_block (w := w) (hm.old b1 hlt (by simp))).trans ha1) ?_) | ((with_reducible refine at_op ?_); first | ((with_reducible refine at_move ?_); refine sx_move _ vf ?_) | ((with_reducible refine at_bin ?_); refine sx_geq rfl rfl ?_) | ((with_reducible refine at_assign ?_); refine sx_assign _ vf ?_) | ((with_reducible refine at_load ?_); refine sx_loadWE rfl pc gl ?_) | ((with_reducible refine at_stores ?_); first | refine sx_stval _ vf ?_ | (apply sx_store rfl rfl rfl rfl; (repeat (first | exact set_z rfl | apply set_succ))) | refine sx_storeW rfl rfl rfl rfl ?_ | (refine sx_rot rot1 ?_; refine sx_storeW rfl rfl rfl rfl ?_)) | refine sx_nilCheck rfl ?_ | refine sx_fieldAddr rfl ?_ | refine sx_index rfl rfl bnd ?_ | (refine sx_alloc ?_; intro b)) | refine sx_nil ?_ | ((with_reducible refine at_code ?_); first | refine cx_seq ?_ | refine cx_region ?_ | refine cx_ret ?_ | refine cx_true rfl ?_) | ((with_reducible refine at_exit ?_); refine qx_then ?_))
    all_goals try (exfalso; omega)
    exact qx_retC1 0 [] rfl rfl rfl rfl ⟨rfl, rfl⟩ (fun w hm => hm.nil)
set_option maxHeartbeats 8000000 in
theorem ref_take {N less all : Int} {xb m cap : Nat} {A : Option Addr} {c : Ch} {l : List (Int × Int)} (q : Int) {w : World} {D : List Nat} (ho : OwnS 37 3 (.slice A m cap) m (rowsG encX l) c) (hm0 : m = l.length) (hmb : m ≤ 100) (hb0 : ∀ e ∈ l, 0 ≤ e.2 ∧ e.2 ≤ 9007199254740992) (hq : 0 ≤ q ∧ q ≤ 9007199254740992) (hls : 0 ≤ less ∧ less ≤ 9007199254740992) (hD : D = (rhC 32 N less all xb A m cap c).map (·.1)) (hM0 : Mem w w D [rhC 32 N less all xb A m cap c]) :
    Calls Tryd.prog 22 #[.pointer (some ⟨xb, 0, none⟩), .int .i64 q] w (Ret w D (fun v L => v = .tuple #[] ∧ ∃ (A' : Option Addr) (cap' : Nat) (c' : Ch), L = [rhC 32 N (less + q) all xb A' (takH q l).length cap' c'] ∧ OwnS 37 3 (.slice A' (takH q l).length cap') (takH q l).length (rowsG encX (takH q l)) c')) := by
  refine cx_enter (args := [.pointer (some ⟨xb, 0, none⟩), .int .i64 q]) (F := [(0, .pointer (some ⟨xb, 0, none⟩)), (1, .int .i64 q)]) _ [rhC 32 N less all xb A m cap c] Tryd.func22 rfl Tryd.ntmps22 (by simp) rfl hM0 (fun g => ?_)
  clear hM0
  refine cx_mem (L' := [[(xb, .cells [.int .i64 N, .int .i64 less, .int .i64 all, .slice A m cap].toArray 32 (0, 0))], c]) ?_ (fun w hm => hm.perm (by simp [rhC]))
  obtain ⟨b1, hA1⟩ := ho.base'
  repeat' (first | ((with_reducible refine at_op ?_); ((with_reducible refine at_assign ?_); refine sx_assign _ vf ?_)) | refine sx_nil ?_ | ((with_reducible refine at_code ?_); first | refine cx_seq ?_ | refine cx_region ?_ | refine cx_block ?_) | ((with_reducible refine at_exit ?_); refine qx_then ?_))
  refine cx_mem (L' := [[(xb, .cells [.int .i64 N, .int .i64 less, .int .i64 all, .slice A m cap].toArray 32 (0, 0))], c, []]) ?_ (fun w hm => hm.perm (by simp))
  refine cx_loop (fun mm fr L => ∃ (i : Nat) (Ao : Option Addr) (co : Nat) (c1 : Ch), FF fr [(0, .pointer (some ⟨xb, 0, none⟩)), (1, .int .i64 q), (4, .slice Ao (takH q (l.take i)).length co), (5, .int .i64 i)] ∧ L = [[(xb, .cells [.int .i64 N, .int .i64 less, .int .i64 all, .slice A m cap].toArray 32 (0, 0))], c, c1] ∧ mm + i = m ∧ OwnS 37 3 (.slice Ao (takH q (l.take i)).length co) (takH q (l.take i)).length (rowsG encX (takH q (l.take i))) c1) m ?_ ?_
  · exact ⟨0, none, 0, [], ffr, rfl, rfl, OwnS.nil _ _⟩
  rintro mm fr L ⟨i, Ao, co, c1, hF, rfl, hmm, hoo⟩ K hK
  refine cx_use hF fun g => ?_
  clear hF
  by_cases hin : i < m
  rotate_left
  · clear hK
    have e1 : l.take i = l := List.take_of_length_le (by omega)
    rw [e1] at hoo ⊢
    repeat' (first | ((with_reducible refine at_op ?_); first | ((with_reducible refine at_move ?_); refine sx_move _ vf ?_) | ((with_reducible refine at_bin ?_); first | refine sx_lss rfl rfl ?_ | refine sx_add rfl rfl bnd ?_) | ((with_reducible refine at_load ?_); refine sx_loadE rfl pc gv ?_) | ((with_reducible refine at_stores ?_); first | refine sx_stval _ vf ?_ | (apply sx_store rfl rfl rfl rfl; (repeat (first | exact set_z rfl | apply set_succ)))) | refine sx_nilCheck rfl ?_ | refine sx_fieldAddr rfl ?_ | refine sx_len rfl ?_) | refine sx_nil ?_ | ((with_reducible refine at_code ?_); first | refine cx_seq ?_ | refine cx_region ?_ | refine cx_exit ?_ | (refine cx_cond rfl (fun h => ?_) (fun h => ?_) <;> (try simp only [decide_eq_true_eq, decide_eq_false_iff_not, Bool.and_eq_true, Bool.or_eq_true, Bool.and_eq_false_iff, Bool.or_eq_false_iff, Bool.not_eq_true', Bool.not_eq_false', Bool.not_true, Bool.not_false, Bool.true_or, Bool.or_true, Bool.false_or, Bool.or_false, Bool.and_true, Bool.true_and, Bool.false_and, Bool.and_false, reduceCtorEq, Classical.not_not, beq_self_eq_true, bne_self_eq_false, not_true_eq_false, not_false_eq_true, or_false, false_or, or_true, true_or, and_true, true_and, and_false, false_and, or_self, and_self] at h) <;> (try (exfalso; omega)))) | ((with_reducible refine at_exit ?_); first | refine qx_then ?_ | refine qx_in_here ?_ | refine qx_then_exit ?_))
    all_goals try (exfalso; omega)
    exact qx_end0 [rhC 32 N (less + q) all xb Ao (takH q l).length co c1] rfl ⟨rfl, Ao, co, c1, rfl, hoo⟩ (fun w hm => Mem.perm (L := [[(xb, .cells [.int .i64 N, .int .i64 (less + q), .int .i64 all, .slice Ao (takH q l).length co].toArray 32 (0, 0))], c1]) (by exact hm.picks [0, 1]) (by simp [rhC]))
  obtain ⟨x, hx⟩ : ∃ x, l[i]? = some x := ⟨_, List.getElem?_eq_getElem (by omega)⟩
  have hxb := hb0 x (List.mem_of_getElem? hx)
  have hv : ∀ j v, [Value.int .i64 x.1, .int .i64 x.2, .int .i64 0][j]? = some v → (rowsG encX l)[(i : Int).toNat * 3 + j]? = some v := fun j v hj => by
    rw [Int.toNat_natCast, rowsG_at encX_len l i j _ hx (List.getElem?_eq_some_iff.1 hj).1]
    exact hj
  have hpl : (takH q (l.take i)).length ≤ 100 := by
    have h1 := len_take (m := q) (l.take i)
    have h2 := List.length_take_le i l
    omega
  have ht1 : l.take (i + 1) = l.take i ++ [x] := by rw [List.take_add_one, hx]; rfl
  by_cases hp : 0 < x.2 - q
  · have ht2 : takH q (l.take (i + 1)) = takH q (l.take i) ++ [(x.1, x.2 - q)] := by
      rw [ht1, tak_app]
      show _ ++ (if x.2 - q ≤ 0 then _ else _) = _
      rw [if_neg (by omega)]
      rfl
    repeat' (first | ((with_reducible refine at_ixaddr ?_); refine sx_indexQ rfl (hA1 (by omega)) rfl (by omega) ?_) | ((with_reducible refine at_load ?_); refine sx_loadSA 1 ((i : Int).toNat * 3) [.int .i64 x.1, .int .i64 x.2, .int .i64 0] rfl ho (hA1 (by omega)) (by omega) (by omega) rfl rfl hv ?_) | ((with_reducible refine at_buildS ?_); (refine sx_buildS [.int .i64 x.1, .int .i64 (x.2 - q), .int .i64 0] rfl rfl rfl rfl rfl ?_; intro bl)) | ((with_reducible refine at_append ?_); refine sx_append1 (v := .slice _ _ _) rfl rfl rot3 hoo rfl bnd rfl (by omega) ?_; rintro _ cE hoE; obtain ⟨AE, cpE, rfl, hcpE⟩ := hoE.len) | ((with_reducible refine at_op ?_); first | ((with_reducible refine at_move ?_); refine sx_move _ vf ?_) | ((with_reducible refine at_bin ?_); first | refine sx_lss rfl rfl ?_ | refine sx_gtr rfl rfl ?_ | refine sx_add rfl rfl bnd ?_ | refine sx_sub rfl rfl bnd ?_) | ((with_reducible refine at_assign ?_); refine sx_assign _ vf ?_) | ((with_reducible refine at_load ?_); first | refine sx_loadE rfl pc gv ?_ | refine sx_loadWE rfl pc gl ?_) | ((with_reducible refine at_stores ?_); first | refine sx_stval _ vf ?_ | (apply sx_store rfl rfl rfl rfl; (repeat (first | exact set_z rfl | apply set_succ))) | refine sx_storeW rfl rfl rfl rfl ?_) | refine sx_nilCheck rfl ?_ | refine sx_fieldAddr rfl ?_ | refine sx_len rfl ?_ | (refine sx_alloc ?_; intro b)) | refine sx_nil ?_ | ((with_reducible refine at_code ?_); first | refine cx_seq ?_ | refine cx_region ?_ | refine cx_skip ?_ | refine cx_block ?_ | (refine cx_cond rfl (fun h => ?_) (fun h => ?_) <;> (try simp only [decide_eq_true_eq, decide_eq_false_iff_not, Bool.and_eq_true, Bool.or_eq_true, Bool.and_eq_false_iff, Bool.or_eq_false_iff, Bool.not_eq_true', Bool.not_eq_false', Bool.not_true, Bool.not_false, Bool.true_or, Bool.or_true, Bool.false_or, Bool.or_false, Bool.and_true, Bool.true_and, Bool.false_and, Bool.and_false, reduceCtorEq, Classical.not_not, beq_self_eq_true, bne_self_eq_false, not_true_eq_false, not_false_eq_true, or_false, false_or, or_true, true_or, and_true, true_and, and_false, false_and, or_self, and_self] at h) <;> (try (exfalso; omega)))) | ((with_reducible refine at_exit ?_); first | refine qx_then ?_ | refine qx_in_normal ?_))
    all_goals try (exfalso; omega)
    have e1 : (takH q (l.take i)).length + 1 = (takH q (l.take (i + 1))).length := by rw [ht2, List.length_append]; rfl
    have hoE' : OwnS 37 3 (.slice AE ((takH q (l.take i)).length + 1) cpE) ((takH q (l.take i)).length + 1) (rowsG encX (takH q (l.take (i + 1)))) cE := by
      rw [ht2, rowsG_app]
      exact hoE
    rw [e1] at hoE' ⊢
    refine qx_mem (L' := [[(xb, .cells [.int .i64 N, .int .i64 less, .int .i64 all, .slice A m cap].toArray 32 (0, 0))], c, cE]) ?_ (fun w hm => by exact hm.picks [2, 2, 0])
    exact hK (mm - 1) _ _ _ (by omega) ⟨i + 1, AE, cpE, cE, ffr, rfl, by omega, hoE'⟩
  · have ht2 : takH q (l.take (i + 1)) = takH q (l.take i) := by
      rw [ht1, tak_app]
      show _ ++ (if x.2 - q ≤ 0 then _ else _) = _
      rw [if_pos (by omega)]
      exact List.append_nil _
    repeat' (first | ((with_reducible refine at_ixaddr ?_); refine sx_indexQ rfl (hA1 (by omega)) rfl (by omega) ?_) | ((with_reducible refine at_load ?_); refine sx_loadSA 1 ((i : Int).toNat * 3) [.int .i64 x.1, .int .i64 x.2, .int .i64 0] rfl ho (hA1 (by omega)) (by omega) (by omega) rfl rfl hv ?_) | ((with_reducible refine at_op ?_); first | ((with_reducible refine at_move ?_); refine sx_move _ vf ?_) | ((with_reducible refine at_bin ?_); first | refine sx_lss rfl rfl ?_ | refine sx_gtr rfl rfl ?_ | refine sx_add rfl rfl bnd ?_ | refine sx_sub rfl rfl bnd ?_) | ((with_reducible refine at_assign ?_); refine sx_assign _ vf ?_) | ((with_reducible refine at_load ?_); refine sx_loadE rfl pc gv ?_) | ((with_reducible refine at_stores ?_); first | refine sx_stval _ vf ?_ | (apply sx_store rfl rfl rfl rfl; (repeat (first | exact set_z rfl | apply set_succ))) | refine sx_storeW rfl rfl rfl rfl ?_) | refine sx_nilCheck rfl ?_ | refine sx_fieldAddr rfl ?_ | refine sx_len rfl ?_ | (refine sx_alloc ?_; intro b)) | refine sx_nil ?_ | ((with_reducible refine at_code ?_); first | refine cx_seq ?_ | refine cx_region ?_ | refine cx_skip ?_ | refine cx_block ?_ | (refine cx_cond rfl (fun h => ?_) (fun h => ?_) <;> (try simp only [decide_eq_true_eq, decide_eq_false_iff_not, Bool.and_eq_true, Bool.or_eq_true, Bool.and_eq_false_iff, Bool.or_eq_false_iff, Bool.not_eq_true', Bool.not_eq_false', Bool.not_true, Bool.not_false, Bool.true_or, Bool.or_true, Bool.false_or, Bool.or_false, Bool.and_true, Bool.true_and, Bool.false_and, Bool.and_false, reduceCtorEq, Classical.not_not, beq_self_eq_true, bne_self_eq_false, not_true_eq_false, not_false_eq_true, or_false, false_or, or_true, true_or, and_true, true_and, and_false, false_and, or_self, and_self] at h) <;> (try (exfalso; omega)))) | ((with_reducible refine at_exit ?_); first | refine qx_then ?_ | refine qx_in_normal ?_))
    all_goals try (exfalso; omega)
    rw [← ht2] at hoo ⊢
    refine qx_mem (L' := [[(xb, .cells [.int .i64 N, .int .i64 less, .int .i64 all, .slice A m cap].toArray 32 (0, 0))], c, c1]) ?_ (fun w hm => by exact hm.picks [1, 1, 1])
    exact hK (mm - 1) _ _ _ (by omega) ⟨i + 1, Ao, co, c1, ffr, rfl, by omega, hoo⟩
end Go.Proofs.YtaofimndclgpdaaDoor
