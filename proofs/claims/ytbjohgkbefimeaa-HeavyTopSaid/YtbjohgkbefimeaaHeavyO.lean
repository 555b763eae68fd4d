/- HeavyTop: the walk. -/
import Derived.Test.YtbjohgkbefimeaaHeavyN
import Derived.Test.YtbjohgkbefimeaaHeavyP
import Derived.Laws.StructEq
import Derived.KernelRfl
set_option linter.unusedSimpArgs false
set_option linter.unusedVariables false
namespace Go.Proofs.Ytbjohgkbefimeaa
open Go.RowKit Go.Port Go.Proofs
theorem eq_ct (a b c a' b' c' : Int) (w : World) : (Op.equalIn 10000 30 (.agg #[.int .i64 a, .int .i64 b, .int .i64 c]) (.agg #[.int .i64 a', .int .i64 b', .int .i64 c'])).run Try.prog w = .ok (decide (a = a' ∧ b = b' ∧ c = c')) w := by
  have u3 := Try.underlying3
  have a3 := Try.isAgg3
  have z3 := Try.sizeOf3
  have hS : Try.prog.underlying 30 = some (.struct (Try.prog.fieldsOf 30)) := by kernel_rfl
  rw [show (10000 : Nat) = 9999 + 1 from rfl, run_equalIn_agg w 9999 30 _ _ hS (by kernel_rfl)]
  simp only [Program.fieldsOf, Try.underlying30]
  go_simp
  by_cases h1 : a = a' <;> by_cases h2 : b = b' <;> by_cases h3 : c = c' <;> simp [h1, h2, h3]
section
variable {w0 : World} {D : List Nat} {n q : Nat} {ops : Array Oper} {Q : Exit → Act → World → Prop} {g : Nat → Value} {F : List (Nat × Value)} {L : List Ch}
variable {rest : List Oper} {ty : TypeId} {pos : String} {af : Array Edge} {d : Nat}
/-- A count and itself. -/
theorem sx_neqCt {x y : Operand} {a b c : Int} {t2 : TypeId} (hx : evn n (get g F) x = .agg #[.int .i64 a, .int .i64 b, .int .i64 c]) (hy : evn n (get g F) y = .agg #[.int .i64 a, .int .i64 b, .int .i64 c])
    (h : SX Try.prog w0 D n q ops Q rest g ((d, .bool false) :: F) L) :
    SX Try.prog w0 D n q ops Q ({ dst := some d, op := .binOp .neq 30 x y t2, type := ty, pos := pos, after := af, guard := none } :: rest) g F L :=
  sx_run _ rfl rfl (fun w _ => by
    have h1 := run_eqGuard_agg (P := Try.prog) w .neq 30 x y #[.int .i64 a, .int .i64 b, .int .i64 c] #[.int .i64 a, .int .i64 b, .int .i64 c] (by kernel_rfl)
    simp only [execOp, hx, hy, Sem.run_bind, h1, Result.andThen_ok, run_neq_struct, eq_ct]
    simp) h
end
attribute [local irreducible] Calls
/-- Sorted in one way alone. -/
theorem top_one {less : Int} {C : Cn} {d d' : List Ct} (h : TopOf less C d) (h' : TopOf less C d') : d = d' := by
  refine List.Perm.eq_of_pairwise (le := fun x y => ltOf cfC y x = false) (fun a b ha hb h1 h2 => ?_) h.2 h'.2 (h.1.trans h'.1.symm)
  simp only [ltOf, decide_eq_false_iff_not, cfC_neg] at h1 h2
  have e1 : ∀ x ∈ cts less C, x.2.2 = less := fun x hx => by
    obtain ⟨y, _, rfl⟩ := List.mem_map.1 hx
    rfl
  have e2 := e1 a (h.1.mem_iff.1 ha)
  have e3 := e1 b (h'.1.mem_iff.1 hb)
  obtain ⟨a1, a2, a3⟩ := a
  obtain ⟨b1, b2, b3⟩ := b
  dsimp only at *
  rw [show a1 = b1 by omega, show a2 = b2 by omega, show a3 = b3 by omega]
theorem top_mem {n : Nat} {less all key mine : Int} {C : Cn} {ck : Nat} {d : List Ct} (hS : HvS n C ck less all key mine) (h : TopOf less C d) {x : Ct} (hx : x ∈ d) : 1 ≤ x.2.1 ∧ lkH (hl C) x.1 = x.2.1 ∧ x.2.2 = less := by
  obtain ⟨y, hy, rfl⟩ := List.mem_map.1 (h.1.mem_iff.1 hx)
  have hm : (y.1, y.2.1) ∈ hl C := List.mem_map_of_mem (f := fun e : Int × Int × Nat => (e.1, e.2.1)) hy
  exact ⟨hS.inv.ok.2 _ hm, lk_in hS.inv.ok hm, rfl⟩
theorem top_step {less : Int} {C : Cn} {ck : Nat} {d : List Ct} (hC : CnOk C ck) (h : TopOf less C d) {i : Nat} {x y : Ct} (hx : d[i]? = some x) (hy : d[i + 1]? = some y) : y.2.1 ≤ x.2.1 ∧ (x.2.1 = y.2.1 → x.1 < y.1) := by
  obtain ⟨h1, rfl⟩ := List.getElem?_eq_some_iff.1 hx
  obtain ⟨h2, rfl⟩ := List.getElem?_eq_some_iff.1 hy
  have h3 := (List.pairwise_iff_getElem.1 h.2) i (i + 1) h1 h2 (by omega)
  simp only [ltOf, decide_eq_false_iff_not, cfC_neg] at h3
  have hn : (d.map (·.1)).Nodup := by
    rw [(h.1.map (·.1)).nodup_iff]
    unfold cts
    rw [List.map_map]
    exact hC.keys
  have h4 : d[i].1 ≠ d[i + 1].1 := fun e => by
    have h5 := (List.getElem?_inj (l := d.map (·.1)) (i := i) (j := i + 1) (by rw [List.length_map]; exact h1) hn).1 (by rw [List.getElem?_map, List.getElem?_map, hx, hy]; exact congrArg some e)
    omega
  omega
end Go.Proofs.Ytbjohgkbefimeaa
