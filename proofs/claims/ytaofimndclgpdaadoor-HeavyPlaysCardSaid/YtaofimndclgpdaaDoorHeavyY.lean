/- HeavyPlays: what both sides do, as the law asks. -/
import Derived.Test.YtaofimndclgpdaaDoorHeavyS
import Derived.Test.YtaofimndclgpdaaDoorHeavyV
import Derived.Test.YtaofimndclgpdaaDoorHeavyN
import Derived.Test.YtaofimndclgpdaaDoorHeavyP
import Derived.Test.YtaofimndclgpdaaDoorHeavyX
import Derived.Test.YtaofimndclgpdaaDoorErr
import Derived.Laws.StructEq
import Derived.KernelRfl
set_option linter.unusedSimpArgs false
set_option linter.unusedVariables false
set_option maxRecDepth 100000
namespace Go.Port
open Go.RowKit
theorem BdR.of {n : Nat} {C : Cn} {ck : Nat} {less all key mine : Int} (h : HvS n C ck less all key mine) : BdR (hl C) less all := by
  have h1 := h.sm
  have h2 := h.inv.pos
  have h3 : less * 1 ≤ less * (n + 1) := Int.mul_le_mul_of_nonneg_left (by omega) h2
  exact ⟨h.inv.ok, h2, by omega⟩
theorem hl_len (C : Cn) : (hl C).length = C.length := List.length_map _
end Go.Port
namespace Go.Proofs.YtaofimndclgpdaaDoor
open Go.RowKit Go.Port
attribute [local irreducible] Calls
theorem same_ErT (k : Int) (w : World) (hg : Laid w) : Calls Tryd.prog 5 #[er k, .int .i64 k] w (Ret w [] (isV (.bool true))) := by
  have := same_Error k k w hg
  rwa [decide_eq_true rfl] at this
theorem same_Er0 (w : World) (hg : Laid w) : Calls Tryd.prog 5 #[.nilIface, .int .i64 0] w (Ret w [] (isV (.bool true))) := by
  have := same_Error_nil 0 w hg
  rwa [decide_eq_true rfl] at this
/-- What is wrong with an Add. -/
def addE (many : Int) : Int := if many < 1 ∨ 1000000 < many then 1 else 4
def GoodA (many all : Int) : Prop := (1 ≤ many ∧ many ≤ 1000000) ∧ all + many ≤ 1099511627776
theorem addx_ok {n : Nat} {less all key mine : Int} (k many : Int) {hb r ck : Nat} {C : Cn} {w : World} {D : List Nat} (hS : HvS n C ck less all key mine) (h1 : GoodA many all) (hD : D = (hvC n less all hb r ck C).map (·.1)) (hM0 : Mem w w D [hvC n less all hb r ck C]) :
    Calls Tryd.prog 6 #[.pointer (some ⟨hb, 0, none⟩), .int .i64 k, .int .i64 many] w (Ret w D (fun v L => v = .nilIface ∧ ∃ less' C' ck', L = [hvC n less' (all + many) hb r ck' C'] ∧ AddS n k many (hl C) less (hl C') less' ∧ HvS n C' ck' less' (all + many) key (if k = key then mine + many else mine))) :=
  (heavy_AddX k many hS hD hM0).mono fun e w' h3 => by
    obtain ⟨v, L, rfl, hm, h3⟩ := h3
    refine ⟨v, L, rfl, hm, ?_⟩
    obtain ⟨g1, g2⟩ := h1
    rcases h3 with ⟨hx, _⟩ | ⟨_, hx, _⟩ | ⟨_, _, h3⟩
    · omega
    · omega
    · exact h3
theorem addx_no {n : Nat} {less all key mine : Int} (k many : Int) {hb r ck : Nat} {C : Cn} {w : World} {D : List Nat} (hS : HvS n C ck less all key mine) (h1 : ¬ GoodA many all) (hD : D = (hvC n less all hb r ck C).map (·.1)) (hM0 : Mem w w D [hvC n less all hb r ck C]) :
    Calls Tryd.prog 6 #[.pointer (some ⟨hb, 0, none⟩), .int .i64 k, .int .i64 many] w (Ret w D (fun v L => v = er (addE many) ∧ L = [hvC n less all hb r ck C])) :=
  (heavy_AddX k many hS hD hM0).mono fun e w' h3 => by
    obtain ⟨v, L, rfl, hm, h3⟩ := h3
    refine ⟨v, L, rfl, hm, ?_⟩
    unfold addE
    rcases h3 with ⟨hx, rfl, rfl⟩ | ⟨hx, _, rfl, rfl⟩ | ⟨hx, hx2, _⟩
    · rw [if_pos hx]
      exact ⟨rfl, rfl⟩
    · rw [if_neg (by omega)]
      exact ⟨rfl, rfl⟩
    · exact absurd ⟨hx, hx2⟩ h1
theorem radd_ok {n : Nat} {less all : Int} {xb cap : Nat} {A : Option Addr} {c : Ch} {l : List (Int × Int)} (k many : Int) {w : World} {D : List Nat} (ho : OwnS 37 3 (.slice A l.length cap) l.length (rowsG encX l) c) (hn : 1 ≤ n ∧ n ≤ 20) (hln : l.length ≤ n) (hB : BdR l less all) (hall : 0 ≤ all ∧ all ≤ 1099511627776) (h1 : GoodA many all) (hD : D = (rhC 32 n less all xb A l.length cap c).map (·.1)) (hM0 : Mem w w D [rhC 32 n less all xb A l.length cap c]) :
    Calls Tryd.prog 7 #[.pointer (some ⟨xb, 0, none⟩), .int .i64 k, .int .i64 many] w (Ret w D (fun v L => v = .int .i64 0 ∧ ∃ (less' : Int) (l' : List (Int × Int)) (A' : Option Addr) (cap' : Nat) (c' : Ch), L = [rhC 32 n less' (all + many) xb A' l'.length cap' c'] ∧ OwnS 37 3 (.slice A' l'.length cap') l'.length (rowsG encX l') c' ∧ AddS n k many l less l' less')) :=
  (ref_Add k many ho hn hln hB hall hD hM0).mono fun e w' h3 => by
    obtain ⟨v, L, rfl, hm, h3⟩ := h3
    refine ⟨v, L, rfl, hm, ?_⟩
    obtain ⟨g1, g2⟩ := h1
    rcases h3 with ⟨hx, _⟩ | ⟨_, hx, _⟩ | ⟨_, _, rfl, less', l', A', cap', c', h4, h5, _, _, h6⟩
    · omega
    · omega
    · exact ⟨rfl, less', l', A', cap', c', h4, h5, h6⟩
theorem radd_no {n : Nat} {less all : Int} {xb cap : Nat} {A : Option Addr} {c : Ch} {l : List (Int × Int)} (k many : Int) {w : World} {D : List Nat} (ho : OwnS 37 3 (.slice A l.length cap) l.length (rowsG encX l) c) (hn : 1 ≤ n ∧ n ≤ 20) (hln : l.length ≤ n) (hB : BdR l less all) (hall : 0 ≤ all ∧ all ≤ 1099511627776) (h1 : ¬ GoodA many all) (hD : D = (rhC 32 n less all xb A l.length cap c).map (·.1)) (hM0 : Mem w w D [rhC 32 n less all xb A l.length cap c]) :
    Calls Tryd.prog 7 #[.pointer (some ⟨xb, 0, none⟩), .int .i64 k, .int .i64 many] w (Ret w D (fun v L => v = .int .i64 (addE many) ∧ L = [rhC 32 n less all xb A l.length cap c])) :=
  (ref_Add k many ho hn hln hB hall hD hM0).mono fun e w' h3 => by
    obtain ⟨v, L, rfl, hm, h3⟩ := h3
    refine ⟨v, L, rfl, hm, ?_⟩
    unfold addE
    rcases h3 with ⟨hx, rfl, rfl⟩ | ⟨hx, _, rfl, rfl⟩ | ⟨hx, hx2, _⟩
    · rw [if_pos hx]
      exact ⟨rfl, rfl⟩
    · rw [if_neg (by omega)]
      exact ⟨rfl, rfl⟩
    · exact absurd ⟨hx, hx2⟩ h1
theorem top_20 {n less all : Int} {pa ra ck : Nat} {C : Cn} {w : World} (hC : CnOk C ck) (hok : OkH (hl C)) (hlen : C.length ≤ 20) (h : Has w (hvC n less all pa ra ck C)) :
    Calls Tryd.prog 12 #[.pointer (some ⟨pa, 0, none⟩), .int .i64 20] w (Ret w [] (fun v L => ∃ (d : List Ct) (A : Option Addr) (cap : Nat) (c : Ch), TopL less (hl C) d ∧ v = .tuple #[.slice A d.length cap, .nilIface] ∧ L = [c] ∧ OwnS 37 3 (.slice A d.length cap) d.length (rowsG encC d) c)) :=
  (heavy_Top 20 hC hok hlen h).mono fun e w' h2 => by
    obtain ⟨v, L, rfl, hm, h3⟩ := h2
    rcases h3 with ⟨hx, _⟩ | ⟨_, d, A, cap, c, hT, rfl, rfl, ho⟩
    · omega
    · have e1 : d.length = C.length := by rw [hT.1.length_eq]; exact List.length_map _
      refine ⟨_, [c], rfl, hm, d, A, cap, c, ⟨?_, hT.2⟩, ?_, rfl, ho⟩
      · have h4 := hT.1
        unfold hl
        rw [List.map_map]
        exact h4
      · rw [show (min (20 : Int) d.length).toNat = d.length by omega]
theorem eq_ct (a b c a' b' c' : Int) (w : World) : (Op.equalIn 10000 37 (.agg #[.int .i64 a, .int .i64 b, .int .i64 c]) (.agg #[.int .i64 a', .int .i64 b', .int .i64 c'])).run Tryd.prog w = .ok (decide (a = a' ∧ b = b' ∧ c = c')) w := by
  have u3 := Tryd.underlying3
  have a3 := Tryd.isAgg3
  have z3 := Tryd.sizeOf3
  have hS : Tryd.prog.underlying 37 = some (.struct (Tryd.prog.fieldsOf 37)) := by kernel_rfl
  rw [show (10000 : Nat) = 9999 + 1 from rfl, run_equalIn_agg w 9999 37 _ _ hS (by kernel_rfl)]
  simp only [Program.fieldsOf, Tryd.underlying37]
  go_simp
  by_cases h1 : a = a' <;> by_cases h2 : b = b' <;> by_cases h3 : c = c' <;> simp [h1, h2, h3]
section
variable {w0 : World} {D : List Nat} {n q : Nat} {ops : Array Oper} {Q : Exit → Act → World → Prop} {g : Nat → Value} {F : List (Nat × Value)} {L : List Ch}
variable {rest : List Oper} {ty : TypeId} {pos : String} {af : Array Edge} {d : Nat} {gd : Option (Nat × Bool)}
/-- A count and itself. -/
theorem sx_neqCt {x y : Operand} {a b c : Int} {t2 : TypeId} (hx : evn n (get g F) x = .agg #[.int .i64 a, .int .i64 b, .int .i64 c]) (hy : evn n (get g F) y = .agg #[.int .i64 a, .int .i64 b, .int .i64 c])
    (h : SX Tryd.prog w0 D n q ops Q rest g ((d, .bool false) :: F) L) :
    SX Tryd.prog w0 D n q ops Q ({ dst := some d, op := .binOp .neq 37 x y t2, type := ty, pos := pos, after := af, guard := none } :: rest) g F L :=
  sx_run _ rfl rfl (fun w _ => by
    have h1 := run_eqGuard_agg (P := Tryd.prog) w .neq 37 x y #[.int .i64 a, .int .i64 b, .int .i64 c] #[.int .i64 a, .int .i64 b, .int .i64 c] (by kernel_rfl)
    simp only [execOp, hx, hy, Sem.run_bind, h1, Result.andThen_ok, run_neq_struct, eq_ct]
    simp) h
end
set_option maxHeartbeats 8000000 in
theorem plays_loop {cp1 cp2 : Nat} {A1 A2 : Option Addr} {c1 c2 : Ch} {d : List Ct} {w : World} (g : Nat → Value) (ho1 : OwnS 37 3 (.slice A1 d.length cp1) d.length (rowsG encC d) c1) (ho2 : OwnS 37 3 (.slice A2 d.length cp2) d.length (rowsG encC d) c2) (hd20 : d.length ≤ 20) :
    CX Tryd.prog w [] 203 (bodyPost Tryd.prog Tryd.f3 (Ret w [] (isV (.bool true)))) (tailOf 14 (Tryd.f3.body.getD .skip)) g [(20, .slice A1 d.length cp1), (21, .slice A2 d.length cp2)] [c1, c2] := by
  conv => arg 6; whnf
  obtain ⟨b1, hA1⟩ := ho1.base'
  obtain ⟨b2, hA2⟩ := ho2.base'
  repeat' (first | ((with_reducible refine at_op ?_); ((with_reducible refine at_assign ?_); refine sx_assign _ vf ?_)) | refine sx_nil ?_ | ((with_reducible refine at_code ?_); first | refine cx_seq ?_ | refine cx_region ?_ | refine cx_block ?_) | ((with_reducible refine at_exit ?_); refine qx_then ?_))
  refine cx_loop (fun mm fr L => ∃ i : Nat, FF fr [(20, .slice A1 d.length cp1), (21, .slice A2 d.length cp2), (22, .int .i64 i)] ∧ L = [c1, c2] ∧ mm + i = d.length) d.length ?_ ?_
  · exact ⟨0, ffr, rfl, rfl⟩
  rintro mm fr L ⟨i, hF, rfl, hmm⟩ K hK
  refine cx_use hF fun g => ?_
  clear hF
  by_cases hin : i < d.length
  rotate_left
  · clear hK
    repeat' (first | ((with_reducible refine at_op ?_); first | ((with_reducible refine at_move ?_); refine sx_move _ vf ?_) | ((with_reducible refine at_bin ?_); refine sx_lss rfl rfl ?_) | ((with_reducible refine at_assign ?_); refine sx_assign _ vf ?_) | refine sx_len rfl ?_) | refine sx_nil ?_ | ((with_reducible refine at_code ?_); first | refine cx_seq ?_ | refine cx_region ?_ | refine cx_ret ?_ | refine cx_exit ?_ | (refine cx_cond rfl (fun h => ?_) (fun h => ?_) <;> (try simp only [decide_eq_true_eq, decide_eq_false_iff_not, Bool.and_eq_true, Bool.or_eq_true, Bool.and_eq_false_iff, Bool.or_eq_false_iff, Bool.not_eq_true', Bool.not_eq_false', Bool.not_true, Bool.not_false, Bool.true_or, Bool.or_true, Bool.false_or, Bool.or_false, Bool.and_true, Bool.true_and, Bool.false_and, Bool.and_false, reduceCtorEq, Classical.not_not, beq_self_eq_true, bne_self_eq_false, not_true_eq_false, not_false_eq_true, or_false, false_or, or_true, true_or, and_true, true_and, and_false, false_and, or_self, and_self] at h) <;> (try (exfalso; omega)))) | ((with_reducible refine at_exit ?_); first | refine qx_then ?_ | refine qx_in_here ?_ | refine qx_then_exit ?_))
    all_goals try (exfalso; omega)
    all_goals exact qx_ret1 (v := .bool _) [] rfl rfl ⟨rfl, rfl⟩ (fun w hm => hm.nil)
  have h0d : 0 < d.length := by omega
  obtain ⟨x, hx⟩ : ∃ x, d[i]? = some x := ⟨_, List.getElem?_eq_getElem hin⟩
  obtain ⟨a, k, ls⟩ := x
  have hv : ∀ j v, [Value.int .i64 a, .int .i64 k, .int .i64 ls][j]? = some v → (rowsG encC d)[(i : Int).toNat * 3 + j]? = some v := fun j v hj => by
    rw [Int.toNat_natCast, rowsG_at encC_len d i j _ hx (List.getElem?_eq_some_iff.1 hj).1]
    exact hj
  repeat' (first | ((with_reducible refine at_reg 33 ?_); refine cx_held2 dk ?_) | ((with_reducible refine at_held ?_); first | (refine ah_not 0 rfl ?_; refine ah_isp 0 rfl ?_; refine ah_at 0 dk (fun hT => ?_); first | (refine ah_pure 0 (o := ⟨_, _, _, _, _, _⟩) hT rfl rfl rfl rfl rfl ?_; apply Exists.intro; refine And.intro ?_ ?_) | refine ah_nil 0 hT rfl rfl ?_ | refine ah_skip 0 (o := ⟨_, _, _, _, _, _⟩) hT rfl rfl rfl rfl rfl rfl ras ?_ | (refine ah_pureW 0 (o := ⟨_, _, _, _, _, _⟩) hT rfl rfl rfl rfl rfl rfl rfl rfl ras ?_; apply Exists.intro; refine And.intro ?_ ?_)) | (refine ah_not 1 rfl ?_; refine ah_isp 1 rfl ?_; refine ah_at 1 dk (fun hT => ?_); first | (refine ah_pure 1 (o := ⟨_, _, _, _, _, _⟩) hT rfl rfl rfl rfl rfl ?_; apply Exists.intro; refine And.intro ?_ ?_) | refine ah_nil 1 hT rfl rfl ?_ | refine ah_skip 1 (o := ⟨_, _, _, _, _, _⟩) hT rfl rfl rfl rfl rfl rfl ras ?_ | (refine ah_pureW 1 (o := ⟨_, _, _, _, _, _⟩) hT rfl rfl rfl rfl rfl rfl rfl rfl ras ?_; apply Exists.intro; refine And.intro ?_ ?_)) | (refine ah_not 2 rfl ?_; refine ah_isp 2 rfl ?_; refine ah_at 2 dk (fun hT => ?_); first | (refine ah_pure 2 (o := ⟨_, _, _, _, _, _⟩) hT rfl rfl rfl rfl rfl ?_; apply Exists.intro; refine And.intro ?_ ?_) | refine ah_nil 2 hT rfl rfl ?_ | refine ah_skip 2 (o := ⟨_, _, _, _, _, _⟩) hT rfl rfl rfl rfl rfl rfl ras ?_ | (refine ah_pureW 2 (o := ⟨_, _, _, _, _, _⟩) hT rfl rfl rfl rfl rfl rfl rfl rfl ras ?_; apply Exists.intro; refine And.intro ?_ ?_)) | (refine ah_not 3 rfl ?_; refine ah_isp 3 rfl ?_; refine ah_at 3 dk (fun hT => ?_); first | (refine ah_pure 3 (o := ⟨_, _, _, _, _, _⟩) hT rfl rfl rfl rfl rfl ?_; apply Exists.intro; refine And.intro ?_ ?_) | refine ah_nil 3 hT rfl rfl ?_ | refine ah_skip 3 (o := ⟨_, _, _, _, _, _⟩) hT rfl rfl rfl rfl rfl rfl ras ?_ | (refine ah_pureW 3 (o := ⟨_, _, _, _, _, _⟩) hT rfl rfl rfl rfl rfl rfl rfl rfl ras ?_; apply Exists.intro; refine And.intro ?_ ?_)) | (refine ah_not 4 rfl ?_; refine ah_isp 4 rfl ?_; refine ah_at 4 dk (fun hT => ?_); first | (refine ah_pure 4 (o := ⟨_, _, _, _, _, _⟩) hT rfl rfl rfl rfl rfl ?_; apply Exists.intro; refine And.intro ?_ ?_) | refine ah_nil 4 hT rfl rfl ?_ | refine ah_skip 4 (o := ⟨_, _, _, _, _, _⟩) hT rfl rfl rfl rfl rfl rfl ras ?_ | (refine ah_pureW 4 (o := ⟨_, _, _, _, _, _⟩) hT rfl rfl rfl rfl rfl rfl rfl rfl ras ?_; apply Exists.intro; refine And.intro ?_ ?_)) | (refine ah_not 5 rfl ?_; refine ah_isp 5 rfl ?_; refine ah_at 5 dk (fun hT => ?_); first | (refine ah_pure 5 (o := ⟨_, _, _, _, _, _⟩) hT rfl rfl rfl rfl rfl ?_; apply Exists.intro; refine And.intro ?_ ?_) | refine ah_nil 5 hT rfl rfl ?_ | refine ah_skip 5 (o := ⟨_, _, _, _, _, _⟩) hT rfl rfl rfl rfl rfl rfl ras ?_ | (refine ah_pureW 5 (o := ⟨_, _, _, _, _, _⟩) hT rfl rfl rfl rfl rfl rfl rfl rfl ras ?_; apply Exists.intro; refine And.intro ?_ ?_)) | (refine ah_not 6 rfl ?_; refine ah_isp 6 rfl ?_; refine ah_at 6 dk (fun hT => ?_); first | (refine ah_pure 6 (o := ⟨_, _, _, _, _, _⟩) hT rfl rfl rfl rfl rfl ?_; apply Exists.intro; refine And.intro ?_ ?_) | refine ah_nil 6 hT rfl rfl ?_ | refine ah_skip 6 (o := ⟨_, _, _, _, _, _⟩) hT rfl rfl rfl rfl rfl rfl ras ?_ | (refine ah_pureW 6 (o := ⟨_, _, _, _, _, _⟩) hT rfl rfl rfl rfl rfl rfl rfl rfl ras ?_; apply Exists.intro; refine And.intro ?_ ?_)) | (refine ah_not 7 rfl ?_; refine ah_isp 7 rfl ?_; refine ah_at 7 dk (fun hT => ?_); first | (refine ah_pure 7 (o := ⟨_, _, _, _, _, _⟩) hT rfl rfl rfl rfl rfl ?_; apply Exists.intro; refine And.intro ?_ ?_) | refine ah_nil 7 hT rfl rfl ?_ | refine ah_skip 7 (o := ⟨_, _, _, _, _, _⟩) hT rfl rfl rfl rfl rfl rfl ras ?_ | (refine ah_pureW 7 (o := ⟨_, _, _, _, _, _⟩) hT rfl rfl rfl rfl rfl rfl rfl rfl ras ?_; apply Exists.intro; refine And.intro ?_ ?_)) | (refine ah_not 8 rfl ?_; refine ah_isp 8 rfl ?_; refine ah_at 8 dk (fun hT => ?_); first | (refine ah_pure 8 (o := ⟨_, _, _, _, _, _⟩) hT rfl rfl rfl rfl rfl ?_; apply Exists.intro; refine And.intro ?_ ?_) | refine ah_nil 8 hT rfl rfl ?_ | refine ah_skip 8 (o := ⟨_, _, _, _, _, _⟩) hT rfl rfl rfl rfl rfl rfl ras ?_ | (refine ah_pureW 8 (o := ⟨_, _, _, _, _, _⟩) hT rfl rfl rfl rfl rfl rfl rfl rfl ras ?_; apply Exists.intro; refine And.intro ?_ ?_)) | refine ah_over2 dk ?_) | ((with_reducible refine at_ixaddr ?_); first | refine sx_indexQ rfl (hA1 h0d) rfl (by omega) ?_ | refine sx_indexQ rfl (hA2 h0d) rfl (by omega) ?_) | ((with_reducible refine at_load ?_); first | refine sx_loadSA 0 ((i : Int).toNat * 3) [.int .i64 a, .int .i64 k, .int .i64 ls] rfl ho1 (hA1 h0d) (by omega) h0d rfl rfl hv ?_ | refine sx_loadSA 1 ((i : Int).toNat * 3) [.int .i64 a, .int .i64 k, .int .i64 ls] rfl ho2 (hA2 h0d) (by omega) h0d rfl rfl hv ?_) | refine sx_neqCt rfl rfl ?_ | ((with_reducible refine at_op ?_); first | ((with_reducible refine at_move ?_); refine sx_move _ vf ?_) | ((with_reducible refine at_bin ?_); first | refine sx_lss rfl rfl ?_ | refine sx_add rfl rfl bnd ?_) | ((with_reducible refine at_assign ?_); refine sx_assign _ vf ?_) | refine sx_len rfl ?_) | refine sx_nil ?_ | ((with_reducible refine at_code ?_); first | refine cx_seq ?_ | refine cx_region ?_ | refine cx_skip ?_ | refine cx_block ?_ | refine cx_false rfl ?_ | (refine cx_cond rfl (fun h => ?_) (fun h => ?_) <;> (try simp only [decide_eq_true_eq, decide_eq_false_iff_not, Bool.and_eq_true, Bool.or_eq_true, Bool.and_eq_false_iff, Bool.or_eq_false_iff, Bool.not_eq_true', Bool.not_eq_false', Bool.not_true, Bool.not_false, Bool.true_or, Bool.or_true, Bool.false_or, Bool.or_false, Bool.and_true, Bool.true_and, Bool.false_and, Bool.and_false, reduceCtorEq, Classical.not_not, beq_self_eq_true, bne_self_eq_false, not_true_eq_false, not_false_eq_true, or_false, false_or, or_true, true_or, and_true, true_and, and_false, false_and, or_self, and_self] at h) <;> (try (exfalso; omega)))) | ((with_reducible refine at_exit ?_); first | refine qx_then ?_ | exact qx_isF | refine qx_in_normal ?_))
  all_goals try (exfalso; omega)
  all_goals
    refine qx_mem (L' := [c1, c2]) ?_ (fun w hm => hm)
    exact hK (mm - 1) _ _ _ (by omega) ⟨i + 1, ffr, rfl, by omega⟩
set_option maxHeartbeats 8000000 in
/-- What is asked at the end. -/
theorem plays_end {n : Nat} {less all key : Int} {pa ra ck xb cap : Nat} {C : Cn} {A : Option Addr} {c : Ch} {l : List (Int × Int)} {w : World} (g : Nat → Value) (hC : CnOk C ck) (hok : OkH (hl C)) (hlen : C.length ≤ 20) (hp : (hl C).Perm l) (ho : OwnS 37 3 (.slice A l.length cap) l.length (rowsG encX l) c) :
    CX Tryd.prog w [] 203 (bodyPost Tryd.prog Tryd.f3 (Ret w [] (isV (.bool true)))) (tailOf 11 (Tryd.f3.body.getD .skip)) g [(4, .int .i64 key), (11, .pointer (some ⟨pa, 0, none⟩)), (15, .pointer (some ⟨xb, 0, none⟩))] [hvC n less all pa ra ck C, rhC 32 n less all xb A l.length cap c] := by
  conv => arg 6; whnf
  have hok2 := OkH.perm hp hok
  have hll : l.length ≤ 20 := by rw [← hp.length_eq, hl_len]; exact hlen
  have hlk := lk_perm hp hok key
  repeat' (first | (with_reducible refine stop_rs 28 ?_) | ((with_reducible refine at_call 12 ?_); refine sx_call0 (fun w hm => top_20 hC hok hlen (hm.at 0 rfl)) ?_; rintro _ _ ⟨d, A1, cp1, c1, hT1, rfl, rfl, ho1⟩; have hdl := hT1.1.length_eq; refine sx_app1 ?_) | ((with_reducible refine at_call 13 ?_); refine sx_call0 (fun w hm => ref_Top (hm.at 2 rfl) ho (by omega) hok2) ?_; rintro _ _ ⟨d2, A2, cp2, c2, hT2, rfl, rfl, ho2⟩; have e0 := TopL.one hp hT1 hT2; subst e0; refine sx_app1 ?_) | ((with_reducible refine at_op ?_); first | ((with_reducible refine at_move ?_); refine sx_move _ vf ?_) | ((with_reducible refine at_assign ?_); refine sx_assign _ vf ?_) | refine sx_extract rfl rfl ?_) | refine sx_nil ?_ | ((with_reducible refine at_code ?_); first | refine cx_seq ?_ | refine cx_region ?_) | ((with_reducible refine at_exit ?_); refine qx_then ?_))
  all_goals try (exfalso; omega)
  refine halt_go ?_
  have hd20 : d.length ≤ 20 := by rw [hdl, List.length_map, hl_len]; exact hlen
  have hXb : ∀ {w' : World}, Has w' (rhC 32 n less all xb A l.length cap c) → w'.cell? ⟨xb, 0 + 2, none⟩ = some (.int .i64 all) := fun hh => cell_of_cells (cs := [.int .i64 n, .int .i64 less, .int .i64 all, .slice A l.length cap]) (k := 2) (rhC_box hh) rfl
  have hz1 : decide (¬ ((d.length : Int) = d.length)) = false := by simp
  have hz2 : decide (¬ (all = all)) = false := by simp
  refine cx_mem (L' := [hvC n less all pa ra ck C, rhC 32 n less all xb A l.length cap c, c1, c2]) ?_ (fun w hm => by exact hm.picks [2, 2, 1, 0])
  repeat' (first | (with_reducible refine stop_rss 30 ?_) | ((with_reducible refine at_reg 28 ?_); refine cx_held2 dk ?_) | ((with_reducible refine at_held ?_); (refine ah_not 22 rfl ?_; refine ah_at 22 dk (fun hT => ?_); refine ah_nilW 22 hT rfl rfl rfl rfl ras rfl ?_)) | ((with_reducible refine at_held ?_); first | (refine ah_not 0 rfl ?_; refine ah_isp 0 rfl ?_; refine ah_at 0 dk (fun hT => ?_); first | (refine ah_pure 0 (o := ⟨_, _, _, _, _, _⟩) hT rfl rfl rfl rfl rfl ?_; apply Exists.intro; refine And.intro ?_ ?_) | refine ah_nil 0 hT rfl rfl ?_ | refine ah_skip 0 (o := ⟨_, _, _, _, _, _⟩) hT rfl rfl rfl rfl rfl rfl ras ?_ | (refine ah_pureW 0 (o := ⟨_, _, _, _, _, _⟩) hT rfl rfl rfl rfl rfl rfl rfl rfl ras ?_; apply Exists.intro; refine And.intro ?_ ?_)) | (refine ah_not 1 rfl ?_; refine ah_isp 1 rfl ?_; refine ah_at 1 dk (fun hT => ?_); first | (refine ah_pure 1 (o := ⟨_, _, _, _, _, _⟩) hT rfl rfl rfl rfl rfl ?_; apply Exists.intro; refine And.intro ?_ ?_) | refine ah_nil 1 hT rfl rfl ?_ | refine ah_skip 1 (o := ⟨_, _, _, _, _, _⟩) hT rfl rfl rfl rfl rfl rfl ras ?_ | (refine ah_pureW 1 (o := ⟨_, _, _, _, _, _⟩) hT rfl rfl rfl rfl rfl rfl rfl rfl ras ?_; apply Exists.intro; refine And.intro ?_ ?_)) | (refine ah_not 2 rfl ?_; refine ah_isp 2 rfl ?_; refine ah_at 2 dk (fun hT => ?_); first | (refine ah_pure 2 (o := ⟨_, _, _, _, _, _⟩) hT rfl rfl rfl rfl rfl ?_; apply Exists.intro; refine And.intro ?_ ?_) | refine ah_nil 2 hT rfl rfl ?_ | refine ah_skip 2 (o := ⟨_, _, _, _, _, _⟩) hT rfl rfl rfl rfl rfl rfl ras ?_ | (refine ah_pureW 2 (o := ⟨_, _, _, _, _, _⟩) hT rfl rfl rfl rfl rfl rfl rfl rfl ras ?_; apply Exists.intro; refine And.intro ?_ ?_)) | (refine ah_not 3 rfl ?_; refine ah_isp 3 rfl ?_; refine ah_at 3 dk (fun hT => ?_); first | (refine ah_pure 3 (o := ⟨_, _, _, _, _, _⟩) hT rfl rfl rfl rfl rfl ?_; apply Exists.intro; refine And.intro ?_ ?_) | refine ah_nil 3 hT rfl rfl ?_ | refine ah_skip 3 (o := ⟨_, _, _, _, _, _⟩) hT rfl rfl rfl rfl rfl rfl ras ?_ | (refine ah_pureW 3 (o := ⟨_, _, _, _, _, _⟩) hT rfl rfl rfl rfl rfl rfl rfl rfl ras ?_; apply Exists.intro; refine And.intro ?_ ?_)) | (refine ah_not 5 rfl ?_; refine ah_isp 5 rfl ?_; refine ah_at 5 dk (fun hT => ?_); first | (refine ah_pure 5 (o := ⟨_, _, _, _, _, _⟩) hT rfl rfl rfl rfl rfl ?_; apply Exists.intro; refine And.intro ?_ ?_) | refine ah_nil 5 hT rfl rfl ?_ | refine ah_skip 5 (o := ⟨_, _, _, _, _, _⟩) hT rfl rfl rfl rfl rfl rfl ras ?_ | (refine ah_pureW 5 (o := ⟨_, _, _, _, _, _⟩) hT rfl rfl rfl rfl rfl rfl rfl rfl ras ?_; apply Exists.intro; refine And.intro ?_ ?_)) | (refine ah_not 7 rfl ?_; refine ah_isp 7 rfl ?_; refine ah_at 7 dk (fun hT => ?_); first | (refine ah_pure 7 (o := ⟨_, _, _, _, _, _⟩) hT rfl rfl rfl rfl rfl ?_; apply Exists.intro; refine And.intro ?_ ?_) | refine ah_nil 7 hT rfl rfl ?_ | refine ah_skip 7 (o := ⟨_, _, _, _, _, _⟩) hT rfl rfl rfl rfl rfl rfl ras ?_ | (refine ah_pureW 7 (o := ⟨_, _, _, _, _, _⟩) hT rfl rfl rfl rfl rfl rfl rfl rfl ras ?_; apply Exists.intro; refine And.intro ?_ ?_)) | (refine ah_not 8 rfl ?_; refine ah_isp 8 rfl ?_; refine ah_at 8 dk (fun hT => ?_); first | (refine ah_pure 8 (o := ⟨_, _, _, _, _, _⟩) hT rfl rfl rfl rfl rfl ?_; apply Exists.intro; refine And.intro ?_ ?_) | refine ah_nil 8 hT rfl rfl ?_ | refine ah_skip 8 (o := ⟨_, _, _, _, _, _⟩) hT rfl rfl rfl rfl rfl rfl ras ?_ | (refine ah_pureW 8 (o := ⟨_, _, _, _, _, _⟩) hT rfl rfl rfl rfl rfl rfl rfl rfl ras ?_; apply Exists.intro; refine And.intro ?_ ?_)) | (refine ah_not 9 rfl ?_; refine ah_isp 9 rfl ?_; refine ah_at 9 dk (fun hT => ?_); first | (refine ah_pure 9 (o := ⟨_, _, _, _, _, _⟩) hT rfl rfl rfl rfl rfl ?_; apply Exists.intro; refine And.intro ?_ ?_) | refine ah_nil 9 hT rfl rfl ?_ | refine ah_skip 9 (o := ⟨_, _, _, _, _, _⟩) hT rfl rfl rfl rfl rfl rfl ras ?_ | (refine ah_pureW 9 (o := ⟨_, _, _, _, _, _⟩) hT rfl rfl rfl rfl rfl rfl rfl rfl ras ?_; apply Exists.intro; refine And.intro ?_ ?_)) | (refine ah_not 10 rfl ?_; refine ah_isp 10 rfl ?_; refine ah_at 10 dk (fun hT => ?_); first | (refine ah_pure 10 (o := ⟨_, _, _, _, _, _⟩) hT rfl rfl rfl rfl rfl ?_; apply Exists.intro; refine And.intro ?_ ?_) | refine ah_nil 10 hT rfl rfl ?_ | refine ah_skip 10 (o := ⟨_, _, _, _, _, _⟩) hT rfl rfl rfl rfl rfl rfl ras ?_ | (refine ah_pureW 10 (o := ⟨_, _, _, _, _, _⟩) hT rfl rfl rfl rfl rfl rfl rfl rfl ras ?_; apply Exists.intro; refine And.intro ?_ ?_)) | (refine ah_not 11 rfl ?_; refine ah_isp 11 rfl ?_; refine ah_at 11 dk (fun hT => ?_); first | (refine ah_pure 11 (o := ⟨_, _, _, _, _, _⟩) hT rfl rfl rfl rfl rfl ?_; apply Exists.intro; refine And.intro ?_ ?_) | refine ah_nil 11 hT rfl rfl ?_ | refine ah_skip 11 (o := ⟨_, _, _, _, _, _⟩) hT rfl rfl rfl rfl rfl rfl ras ?_ | (refine ah_pureW 11 (o := ⟨_, _, _, _, _, _⟩) hT rfl rfl rfl rfl rfl rfl rfl rfl ras ?_; apply Exists.intro; refine And.intro ?_ ?_)) | (refine ah_not 13 rfl ?_; refine ah_isp 13 rfl ?_; refine ah_at 13 dk (fun hT => ?_); first | (refine ah_pure 13 (o := ⟨_, _, _, _, _, _⟩) hT rfl rfl rfl rfl rfl ?_; apply Exists.intro; refine And.intro ?_ ?_) | refine ah_nil 13 hT rfl rfl ?_ | refine ah_skip 13 (o := ⟨_, _, _, _, _, _⟩) hT rfl rfl rfl rfl rfl rfl ras ?_ | (refine ah_pureW 13 (o := ⟨_, _, _, _, _, _⟩) hT rfl rfl rfl rfl rfl rfl rfl rfl ras ?_; apply Exists.intro; refine And.intro ?_ ?_)) | (refine ah_not 14 rfl ?_; refine ah_isp 14 rfl ?_; refine ah_at 14 dk (fun hT => ?_); first | (refine ah_pure 14 (o := ⟨_, _, _, _, _, _⟩) hT rfl rfl rfl rfl rfl ?_; apply Exists.intro; refine And.intro ?_ ?_) | refine ah_nil 14 hT rfl rfl ?_ | refine ah_skip 14 (o := ⟨_, _, _, _, _, _⟩) hT rfl rfl rfl rfl rfl rfl ras ?_ | (refine ah_pureW 14 (o := ⟨_, _, _, _, _, _⟩) hT rfl rfl rfl rfl rfl rfl rfl rfl ras ?_; apply Exists.intro; refine And.intro ?_ ?_)) | (refine ah_not 16 rfl ?_; refine ah_isp 16 rfl ?_; refine ah_at 16 dk (fun hT => ?_); first | (refine ah_pure 16 (o := ⟨_, _, _, _, _, _⟩) hT rfl rfl rfl rfl rfl ?_; apply Exists.intro; refine And.intro ?_ ?_) | refine ah_nil 16 hT rfl rfl ?_ | refine ah_skip 16 (o := ⟨_, _, _, _, _, _⟩) hT rfl rfl rfl rfl rfl rfl ras ?_ | (refine ah_pureW 16 (o := ⟨_, _, _, _, _, _⟩) hT rfl rfl rfl rfl rfl rfl rfl rfl ras ?_; apply Exists.intro; refine And.intro ?_ ?_)) | (refine ah_not 17 rfl ?_; refine ah_isp 17 rfl ?_; refine ah_at 17 dk (fun hT => ?_); first | (refine ah_pure 17 (o := ⟨_, _, _, _, _, _⟩) hT rfl rfl rfl rfl rfl ?_; apply Exists.intro; refine And.intro ?_ ?_) | refine ah_nil 17 hT rfl rfl ?_ | refine ah_skip 17 (o := ⟨_, _, _, _, _, _⟩) hT rfl rfl rfl rfl rfl rfl ras ?_ | (refine ah_pureW 17 (o := ⟨_, _, _, _, _, _⟩) hT rfl rfl rfl rfl rfl rfl rfl rfl ras ?_; apply Exists.intro; refine And.intro ?_ ?_)) | (refine ah_not 18 rfl ?_; refine ah_isp 18 rfl ?_; refine ah_at 18 dk (fun hT => ?_); first | (refine ah_pure 18 (o := ⟨_, _, _, _, _, _⟩) hT rfl rfl rfl rfl rfl ?_; apply Exists.intro; refine And.intro ?_ ?_) | refine ah_nil 18 hT rfl rfl ?_ | refine ah_skip 18 (o := ⟨_, _, _, _, _, _⟩) hT rfl rfl rfl rfl rfl rfl ras ?_ | (refine ah_pureW 18 (o := ⟨_, _, _, _, _, _⟩) hT rfl rfl rfl rfl rfl rfl rfl rfl ras ?_; apply Exists.intro; refine And.intro ?_ ?_)) | (refine ah_not 19 rfl ?_; refine ah_isp 19 rfl ?_; refine ah_at 19 dk (fun hT => ?_); first | (refine ah_pure 19 (o := ⟨_, _, _, _, _, _⟩) hT rfl rfl rfl rfl rfl ?_; apply Exists.intro; refine And.intro ?_ ?_) | refine ah_nil 19 hT rfl rfl ?_ | refine ah_skip 19 (o := ⟨_, _, _, _, _, _⟩) hT rfl rfl rfl rfl rfl rfl ras ?_ | (refine ah_pureW 19 (o := ⟨_, _, _, _, _, _⟩) hT rfl rfl rfl rfl rfl rfl rfl rfl ras ?_; apply Exists.intro; refine And.intro ?_ ?_)) | (refine ah_not 21 rfl ?_; refine ah_isp 21 rfl ?_; refine ah_at 21 dk (fun hT => ?_); first | (refine ah_pure 21 (o := ⟨_, _, _, _, _, _⟩) hT rfl rfl rfl rfl rfl ?_; apply Exists.intro; refine And.intro ?_ ?_) | refine ah_nil 21 hT rfl rfl ?_ | refine ah_skip 21 (o := ⟨_, _, _, _, _, _⟩) hT rfl rfl rfl rfl rfl rfl ras ?_ | (refine ah_pureW 21 (o := ⟨_, _, _, _, _, _⟩) hT rfl rfl rfl rfl rfl rfl rfl rfl ras ?_; apply Exists.intro; refine And.intro ?_ ?_)) | (refine ah_not 23 rfl ?_; refine ah_isp 23 rfl ?_; refine ah_at 23 dk (fun hT => ?_); first | (refine ah_pure 23 (o := ⟨_, _, _, _, _, _⟩) hT rfl rfl rfl rfl rfl ?_; apply Exists.intro; refine And.intro ?_ ?_) | refine ah_nil 23 hT rfl rfl ?_ | refine ah_skip 23 (o := ⟨_, _, _, _, _, _⟩) hT rfl rfl rfl rfl rfl rfl ras ?_ | (refine ah_pureW 23 (o := ⟨_, _, _, _, _, _⟩) hT rfl rfl rfl rfl rfl rfl rfl rfl ras ?_; apply Exists.intro; refine And.intro ?_ ?_)) | (refine ah_not 24 rfl ?_; refine ah_isp 24 rfl ?_; refine ah_at 24 dk (fun hT => ?_); first | (refine ah_pure 24 (o := ⟨_, _, _, _, _, _⟩) hT rfl rfl rfl rfl rfl ?_; apply Exists.intro; refine And.intro ?_ ?_) | refine ah_nil 24 hT rfl rfl ?_ | refine ah_skip 24 (o := ⟨_, _, _, _, _, _⟩) hT rfl rfl rfl rfl rfl rfl ras ?_ | (refine ah_pureW 24 (o := ⟨_, _, _, _, _, _⟩) hT rfl rfl rfl rfl rfl rfl rfl rfl ras ?_; apply Exists.intro; refine And.intro ?_ ?_)) | (refine ah_not 25 rfl ?_; refine ah_isp 25 rfl ?_; refine ah_at 25 dk (fun hT => ?_); first | (refine ah_pure 25 (o := ⟨_, _, _, _, _, _⟩) hT rfl rfl rfl rfl rfl ?_; apply Exists.intro; refine And.intro ?_ ?_) | refine ah_nil 25 hT rfl rfl ?_ | refine ah_skip 25 (o := ⟨_, _, _, _, _, _⟩) hT rfl rfl rfl rfl rfl rfl ras ?_ | (refine ah_pureW 25 (o := ⟨_, _, _, _, _, _⟩) hT rfl rfl rfl rfl rfl rfl rfl rfl ras ?_; apply Exists.intro; refine And.intro ?_ ?_)) | (refine ah_not 26 rfl ?_; refine ah_isp 26 rfl ?_; refine ah_at 26 dk (fun hT => ?_); first | (refine ah_pure 26 (o := ⟨_, _, _, _, _, _⟩) hT rfl rfl rfl rfl rfl ?_; apply Exists.intro; refine And.intro ?_ ?_) | refine ah_nil 26 hT rfl rfl ?_ | refine ah_skip 26 (o := ⟨_, _, _, _, _, _⟩) hT rfl rfl rfl rfl rfl rfl ras ?_ | (refine ah_pureW 26 (o := ⟨_, _, _, _, _, _⟩) hT rfl rfl rfl rfl rfl rfl rfl rfl ras ?_; apply Exists.intro; refine And.intro ?_ ?_)) | (refine ah_not 4 rfl ?_; refine ah_not 6 rfl ?_; refine ah_both 4 6 (o := ⟨_, _, _, _, _, _⟩) (o' := ⟨_, _, _, _, _, _⟩) dk rfl rfl ?_ ?_) | (refine ah_not 4 rfl ?_; refine ah_lone 4 (o := ⟨_, _, _, _, _, _⟩) dk rfl ?_) | (refine ah_not 6 rfl ?_; refine ah_lone 6 (o := ⟨_, _, _, _, _, _⟩) dk rfl ?_) | (refine ah_not 12 rfl ?_; refine ah_lone 12 (o := ⟨_, _, _, _, _, _⟩) dk rfl ?_) | (refine ah_not 15 rfl ?_; refine ah_lone 15 (o := ⟨_, _, _, _, _, _⟩) dk rfl ?_) | (refine ah_not 20 rfl ?_; refine ah_lone 20 (o := ⟨_, _, _, _, _, _⟩) dk rfl ?_) | refine ah_over2 dk ?_) | refine sx_neqCt rfl rfl ?_ | ((with_reducible refine at_load ?_); refine sx_loadM rfl (fun w hm => hXb (hm.at 1 rfl)) ?_) | ((with_reducible refine at_call 8 ?_); refine sx_callv (fun w hm => hlk ▸ heavy_Count key (hm.at 0 rfl)) ?_ rfl) | ((with_reducible refine at_call 9 ?_); refine sx_callv (fun w hm => ref_Count key (hm.at 1 rfl) ho rfl (by omega)) ?_ rfl) | ((with_reducible refine at_call 14 ?_); refine sx_callv (fun w hm => heavy_All (hm.at 0 rfl)) ?_ rfl) | ((with_reducible refine at_exit ?_); refine qx_held (fun w hm => hm) ?_) | ((with_reducible refine at_op ?_); first | ((with_reducible refine at_guard ?_); refine sx_want rfl rfl rfl ras ?_) | ((with_reducible refine at_move ?_); refine sx_move _ vf ?_) | ((with_reducible refine at_bin ?_); first | refine sx_neq rfl rfl ?_ | refine sx_errn_ne rfl ?_) | refine sx_fieldAddr rfl ?_ | ((with_reducible refine at_pick ?_); refine sx_pickF (.bool _) rfl dec rfl ?_) | refine sx_len rfl ?_) | refine sx_nil ?_ | ((with_reducible refine at_code ?_); first | refine cx_seq ?_ | refine cx_skip ?_ | (refine cx_cond rfl (fun h => ?_) (fun h => ?_) <;> (try simp only [decide_eq_true_eq, decide_eq_false_iff_not, Bool.and_eq_true, Bool.or_eq_true, Bool.and_eq_false_iff, Bool.or_eq_false_iff, Bool.not_eq_true', Bool.not_eq_false', Bool.not_true, Bool.not_false, Bool.true_or, Bool.or_true, Bool.false_or, Bool.or_false, Bool.and_true, Bool.true_and, Bool.false_and, Bool.and_false, reduceCtorEq, Classical.not_not, beq_self_eq_true, bne_self_eq_false, not_true_eq_false, not_false_eq_true, or_false, false_or, or_true, true_or, and_true, true_and, and_false, false_and, or_self, and_self] at h) <;> (try (exfalso; omega)))) | ((with_reducible refine at_exit ?_); first | refine qx_then ?_ | exact qx_isF))
  all_goals try (exfalso; omega)
  all_goals
    refine halt_go ?_
    exact cx_mem (cx_fold (cx_use ffr fun g => plays_loop g ho1 ho2 hd20)) (fun w hm => by exact hm.picks [2, 2])
end Go.Proofs.YtaofimndclgpdaaDoor
