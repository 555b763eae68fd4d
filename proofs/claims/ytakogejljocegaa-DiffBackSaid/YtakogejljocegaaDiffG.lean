/- diff: Apply's contract in other words. -/
import Derived.Test.YtakogejljocegaaDiffM
import Derived.Test.YtakogejljocegaaDiffE
import Derived.Test.YtakogejljocegaaDiffF
set_option linter.unusedSimpArgs false
set_option linter.unusedVariables false
namespace Go.Port
open Go.RowKit
theorem eu_oneB (e : Eu) : ∀ u ∈ e.row, u.oneCell' = true := by
  intro u hu
  rcases List.mem_cons.1 hu with rfl | hu
  · rfl
  · rcases List.mem_cons.1 hu with rfl | hu
    · rfl
    · exact ru_one e.r u hu
theorem eus_one (l : List Eu) : ∀ u ∈ l.flatMap Eu.row, u.oneCell' = true := fun u hu => by
  obtain ⟨e, _, h⟩ := List.mem_flatMap.1 hu
  exact eu_oneB e u h
/-- A rule of nothing but its kind. -/
def ruK (k : Int) : Ru := ⟨false, false, false, 0, k, 0, 0, 0, 0, none, 0, 0, none, 0, 0, [], []⟩
theorem ruK_ok (w : World) (k : Int) : (ruK k).ok w := ⟨⟨IsSl.nil, rfl⟩, IsSl.nil, rfl⟩
theorem px00 : pxE 0 0 = 0 := by decide
theorem ruK_err {k : Int} (h : 0 ≤ k ∧ k ≤ 3) : (ruK k).err = 0 := by
  have h1 : spE [] = 0 := by decide
  have h2 : poE [] = 0 := by unfold poE; rw [if_neg (fun h => h h1), if_pos (show Gap [] from trivial)]
  show ruE false false 0 k 0 0 0 0 [] [] = 0
  unfold ruE
  rw [if_neg (by omega), if_neg (fun h => h px00), if_neg (fun h => h px00), if_neg (by simp), if_neg (fun h => h h1), if_neg (fun h => h h1), if_neg]
  rintro (h | h | h | h)
  · exact h h2
  · exact h h2
  · exact absurd h.1 (by decide)
  · exact absurd h.1 (by decide)
theorem rc_two {k l : Int} (hk : 0 ≤ k ∧ k ≤ 3) (hl : 0 ≤ l ∧ l ≤ 3) : rcE [ruK k, ruK l] = 0 := by
  unfold rcE
  rw [if_neg (by simp), firstE, if_neg (fun h => h (ruK_err hk)), firstE, if_neg (fun h => h (ruK_err hl)), firstE]
theorem lcs_two {x y : Rc} (h : ¬ x = y) : lcs [x, y] [y, x] = 1 := by
  have h' : ¬ y = x := fun e => h e.symm
  rw [lcs, if_neg h, lcs, if_pos rfl, lcs, lcs, if_pos rfl, lcs]
  decide
theorem lit_sl {w : World} {b k sz : Nat} {cs : List Value} {T : TypeId} {fr : Nat × Nat} (h : w.heap[b]? = some (.cells cs.toArray T fr)) (hl : cs.length = k * sz) : IsSl w sz (some ⟨b, 0, none⟩) k k cs := by
  have := sl_part (sz := sz) (o := 0) (len := k) (cap := k) h (Nat.le_refl _) (by omega)
  rw [List.drop_zero, List.take_of_length_le (by omega)] at this
  exact this
end Go.Port
namespace Go.Proofs.Ytakogejljocegaa
open Go.RowKit Go.Port
attribute [local irreducible] Calls
section
variable {A1 A2 : Option Addr} {n1 n2 c1 c2 : Nat} {a b : List Ru} {w : World}
theorem diff_ApplyOk {es : List Eu} {out : List Rc} (h1 : IsSl w 11 A1 n1 c1 (a.flatMap Ru.row)) (h2 : IsSl w 13 A2 n2 c2 (es.flatMap Eu.row)) (hn1 : n1 = a.length) (hn2 : n2 = es.length) (ho1 : ∀ r ∈ a, r.ok w) (ho2 : ∀ e ∈ es, e.r.ok w) (hb2 : ∀ e ∈ es, e.r.lf.length ≤ 10 ∧ e.r.lt.length ≤ 10) (hR : applyD (a.map Ru.con) (es.map Eu.con) = (0, out)) :
    Calls Try.prog 5 #[.slice A1 n1 c1, .slice A2 n2 c2] w (Ret w [] (fun v L => ∃ A m cap c, ∃ rs : List Ru, v = .tuple #[.slice A m cap, .nilIface] ∧ L = [c] ∧ m = rs.length ∧ m ≤ 1000 ∧ rs.map Ru.con = out ∧ ∀ w', Has w' c → IsSl w' 11 A m cap (rs.flatMap Ru.row) ∧ ∀ r ∈ rs, r.ok w')) := by
  have h := diff_Apply h1 h2 hn1 hn2 ho1 (fun e he => ⟨ho2 e he, by have := hb2 e he; omega, by have := hb2 e he; omega⟩)
  rw [hR] at h
  refine h.mono fun e w' hR => hR.mono fun v L h => ?_
  rcases h with ⟨hE, _⟩ | ⟨_, A, m, cap, c, rs, hv, hL, hm, hm2, hrs, hw⟩
  · exact absurd rfl hE
  · exact ⟨A, m, cap, c, rs, by rw [hv, er, errV_zero], hL, hm, hm2, hrs, hw⟩
end
end Go.Proofs.Ytakogejljocegaa
