/- diff: contracts of Diff and Common in other words; rules that are told. -/
import Derived.Test.YtakogejljocegaaDiffD
set_option linter.unusedSimpArgs false
set_option linter.unusedVariables false
namespace Go.Port
open Go.RowKit
theorem diff_mem {α : Type} [DecidableEq α] : ∀ (a b : List α) (n : Nat) (x : Ed α), x ∈ diffL a b n → x.2.2 ∈ a ∨ x.2.2 ∈ b
  | [], [], n, x, h => by rw [diffL] at h; cases h
  | [], y :: b, n, x, h => by
    rw [diffL] at h
    rcases List.mem_cons.1 h with rfl | h
    · exact .inr (List.Mem.head _)
    · rcases diff_mem [] b (n + 1) x h with h | h
      · cases h
      · exact .inr (List.Mem.tail _ h)
  | z :: a, [], n, x, h => by
    rw [diffL] at h
    rcases List.mem_cons.1 h with rfl | h
    · exact .inl (List.Mem.head _)
    · rcases diff_mem a [] n x h with h | h
      · exact .inl (List.Mem.tail _ h)
      · cases h
  | z :: a, y :: b, n, x, h => by
    rw [diffL] at h
    split at h
    · rcases diff_mem a b (n + 1) x h with h | h
      · exact .inl (List.Mem.tail _ h)
      · exact .inr (List.Mem.tail _ h)
    · split at h
      · rcases List.mem_cons.1 h with rfl | h
        · exact .inl (List.Mem.head _)
        · rcases diff_mem a (y :: b) n x h with h | h
          · exact .inl (List.Mem.tail _ h)
          · exact .inr h
      · rcases List.mem_cons.1 h with rfl | h
        · exact .inr (List.Mem.head _)
        · rcases diff_mem (z :: a) b (n + 1) x h with h | h
          · exact .inl h
          · exact .inr (List.Mem.tail _ h)
termination_by a b => a.length + b.length
theorem eds_bd {a b : List Ru} {es : List Eu} (he1 : rcE a = 0) (he2 : rcE b = 0) (h : es.map Eu.con = (diffL (a.map Ru.con) (b.map Ru.con) 0).map Ed.int) : ∀ e ∈ es, e.r.lf.length ≤ 10 ∧ e.r.lt.length ≤ 10 := fun e he => by
  have h1 : e.con ∈ es.map Eu.con := List.mem_map_of_mem he
  rw [h] at h1
  obtain ⟨x, hx, hxe⟩ := List.mem_map.1 h1
  have h2 : x.2.2 = e.r.con := congrArg (fun c : Ec => c.2.2) hxe
  have h3 : ∀ l : List Ru, rcE l = 0 → x.2.2 ∈ l.map Ru.con → e.r.lf.length ≤ 10 ∧ e.r.lt.length ≤ 10 := fun l hl hm => by
    obtain ⟨r, hr, hc⟩ := List.mem_map.1 hm
    rw [h2] at hc
    have h4 : r.lf = e.r.lf := congrArg Rc.lf hc
    have h5 : r.lt = e.r.lt := congrArg Rc.lt hc
    rw [← h4, ← h5]
    exact (rc_bd hl).2 r hr
  rcases diff_mem _ _ _ x hx with h | h
  · exact h3 a he1 h
  · exact h3 b he2 h
end Go.Port
namespace Go.Proofs.Ytakogejljocegaa
open Go.RowKit Go.Port
attribute [local irreducible] Calls
section
variable {A1 A2 : Option Addr} {n1 n2 c1 c2 : Nat} {a b : List Ru} {w : World}
theorem diff_DiffBad (h1 : IsSl w 11 A1 n1 c1 (a.flatMap Ru.row)) (h2 : IsSl w 11 A2 n2 c2 (b.flatMap Ru.row)) (hn1 : n1 = a.length) (hn2 : n2 = b.length) (ho1 : ∀ r ∈ a, r.ok w) (ho2 : ∀ r ∈ b, r.ok w) (hE : ¬ (if ¬ rcE a = 0 then rcE a else rcE b) = 0) :
    Calls Try.prog 4 #[.slice A1 n1 c1, .slice A2 n2 c2] w (Ret w [] (isV (.tuple #[.slice none 0 0, er (if ¬ rcE a = 0 then rcE a else rcE b)]))) :=
  (diff_Diff h1 h2 hn1 hn2 ho1 ho2).mono fun e w' hR => hR.mono fun v L h => by
    rcases h with ⟨_, hv, hL⟩ | ⟨⟨he1, he2⟩, _⟩
    · exact ⟨hv, hL⟩
    · exact absurd (by rw [if_neg (fun h => h he1)]; exact he2) hE
theorem diff_DiffOk (h1 : IsSl w 11 A1 n1 c1 (a.flatMap Ru.row)) (h2 : IsSl w 11 A2 n2 c2 (b.flatMap Ru.row)) (hn1 : n1 = a.length) (hn2 : n2 = b.length) (ho1 : ∀ r ∈ a, r.ok w) (ho2 : ∀ r ∈ b, r.ok w) (he1 : rcE a = 0) (he2 : rcE b = 0) :
    Calls Try.prog 4 #[.slice A1 n1 c1, .slice A2 n2 c2] w (Ret w [] (fun v L => ∃ A m cap c, ∃ es : List Eu, v = .tuple #[.slice A m cap, .nilIface] ∧ L = [c] ∧ m = es.length ∧ es.map Eu.con = (diffL (a.map Ru.con) (b.map Ru.con) 0).map Ed.int ∧ (∀ e ∈ es, e.r.lf.length ≤ 10 ∧ e.r.lt.length ≤ 10) ∧ ∀ w', Has w' c → IsSl w' 13 A m cap (es.flatMap Eu.row) ∧ ∀ e ∈ es, e.r.ok w')) :=
  (diff_Diff h1 h2 hn1 hn2 ho1 ho2).mono fun e w' hR => hR.mono fun v L h => by
    rcases h with ⟨hE, _⟩ | ⟨_, A, m, cap, c, es, hv, hL, hm, hes, hw⟩
    · exact absurd (by rw [if_neg (fun h => h he1)]; exact he2) hE
    · exact ⟨A, m, cap, c, es, by rw [hv, er, errV_zero], hL, hm, hes, eds_bd he1 he2 hes, hw⟩
theorem diff_CommonOk (h1 : IsSl w 11 A1 n1 c1 (a.flatMap Ru.row)) (h2 : IsSl w 11 A2 n2 c2 (b.flatMap Ru.row)) (hn1 : n1 = a.length) (hn2 : n2 = b.length) (ho1 : ∀ r ∈ a, r.ok w) (ho2 : ∀ r ∈ b, r.ok w) (he1 : rcE a = 0) (he2 : rcE b = 0) {k : Nat} (hk : lcs (a.map Ru.con) (b.map Ru.con) = k) :
    Calls Try.prog 7 #[.slice A1 n1 c1, .slice A2 n2 c2] w (Ret w [] (isV (.tuple #[.int .i64 (k : Int), .nilIface]))) := by
  have h := diff_Common h1 h2 hn1 hn2 ho1 ho2 he1 he2
  rw [hk, er, errV_zero] at h
  exact h
end
end Go.Proofs.Ytakogejljocegaa
