/- diff: contracts in other words; rules that are told. -/
import Derived.Test.YtejndjmlgacffaaDiffD
import Derived.Test.YtejndjmlgacffaaDiffE
import Derived.Test.YtejndjmlgacffaaDiffF
set_option linter.unusedSimpArgs false
set_option linter.unusedVariables false
namespace Go.Port
open Go.RowKit
theorem diff_mem {α : Type} [DecidableEq α] : ∀ (a b : List α) (n : Nat) (x : Ed α), x ∈ diffL a b n → x.2.2 ∈ a ∨ x.2.2 ∈ b
  | [], [], n, x, h => by rw [diffL] at h; cases h
  | [], y :: b, n, x, h => by
    rw [diffL] at h
    rcases List.mem_cons.1 h with rfl | h
    · exact .inr (List.Mem.head _)
    · rcases diff_mem [] b (n + 1) x h with h | h
      · cases h
      · exact .inr (List.Mem.tail _ h)
  | z :: a, [], n, x, h => by
    rw [diffL] at h
    rcases List.mem_cons.1 h with rfl | h
    · exact .inl (List.Mem.head _)
    · rcases diff_mem a [] n x h with h | h
      · exact .inl (List.Mem.tail _ h)
      · cases h
  | z :: a, y :: b, n, x, h => by
    rw [diffL] at h
    split at h
    · rcases diff_mem a b (n + 1) x h with h | h
      · exact .inl (List.Mem.tail _ h)
      · exact .inr (List.Mem.tail _ h)
    · split at h
      · rcases List.mem_cons.1 h with rfl | h
        · exact .inl (List.Mem.head _)
        · rcases diff_mem a (y :: b) n x h with h | h
          · exact .inl (List.Mem.tail _ h)
          · exact .inr h
      · rcases List.mem_cons.1 h with rfl | h
        · exact .inr (List.Mem.head _)
        · rcases diff_mem (z :: a) b (n + 1) x h with h | h
          · exact .inl h
          · exact .inr (List.Mem.tail _ h)
termination_by a b => a.length + b.length
theorem eds_bd {a b : List Ru} {es : List Eu} (he1 : rcE a = 0) (he2 : rcE b = 0) (h : es.map Eu.con = (diffL (a.map Ru.con) (b.map Ru.con) 0).map Ed.int) : ∀ e ∈ es, e.r.lf.length ≤ 10 ∧ e.r.lt.length ≤ 10 := fun e he => by
  have h1 : e.con ∈ es.map Eu.con := List.mem_map_of_mem he
  rw [h] at h1
  obtain ⟨x, hx, hxe⟩ := List.mem_map.1 h1
  have h2 : x.2.2 = e.r.con := congrArg (fun c : Ec => c.2.2) hxe
  have h3 : ∀ l : List Ru, rcE l = 0 → x.2.2 ∈ l.map Ru.con → e.r.lf.length ≤ 10 ∧ e.r.lt.length ≤ 10 := fun l hl hm => by
    obtain ⟨r, hr, hc⟩ := List.mem_map.1 hm
    rw [h2] at hc
    have h4 : r.lf = e.r.lf := congrArg Rc.lf hc
    have h5 : r.lt = e.r.lt := congrArg Rc.lt hc
    rw [← h4, ← h5]
    exact (rc_bd hl).2 r hr
  rcases diff_mem _ _ _ x hx with h | h
  · exact h3 a he1 h
  · exact h3 b he2 h
theorem eu_oneB (e : Eu) : ∀ u ∈ e.row, u.oneCell' = true := by
  intro u hu
  rcases List.mem_cons.1 hu with rfl | hu
  · rfl
  · rcases List.mem_cons.1 hu with rfl | hu
    · rfl
    · exact ru_one e.r u hu
theorem eus_one (l : List Eu) : ∀ u ∈ l.flatMap Eu.row, u.oneCell' = true := fun u hu => by
  obtain ⟨e, _, h⟩ := List.mem_flatMap.1 hu
  exact eu_oneB e u h
theorem con_bd {l1 l2 : List Ru} (h : l1.map Ru.con = l2.map Ru.con) (h2 : rcE l2 = 0) : ∀ r ∈ l1, r.lf.length ≤ 4611686018427387904 ∧ r.lt.length ≤ 4611686018427387904 := fun r hr => by
  have h1 : r.con ∈ l1.map Ru.con := List.mem_map_of_mem hr
  rw [h] at h1
  obtain ⟨s, hs, hc⟩ := List.mem_map.1 h1
  have h4 : s.lf = r.lf := congrArg Rc.lf hc
  have h5 : s.lt = r.lt := congrArg Rc.lt hc
  have := (rc_bd h2).2 s hs
  rw [← h4, ← h5]
  omega
theorem con_len {l1 l2 : List Ru} (h : l1.map Ru.con = l2.map Ru.con) : l1.length = l2.length := by
  have := congrArg List.length h
  rw [List.length_map, List.length_map] at this
  exact this
/-- A rule of nothing but its kind. -/
def ruK (k : Int) : Ru := ⟨false, false, false, 0, k, 0, 0, 0, 0, none, 0, 0, none, 0, 0, [], []⟩
theorem ruK_ok (w : World) (k : Int) : (ruK k).ok w := ⟨⟨IsSl.nil, rfl⟩, IsSl.nil, rfl⟩
theorem px00 : pxE 0 0 = 0 := by decide
theorem ruK_err {k : Int} (h : 0 ≤ k ∧ k ≤ 3) : (ruK k).err = 0 := by
  have h1 : spE [] = 0 := by decide
  have h2 : poE [] = 0 := by unfold poE; rw [if_neg (fun h => h h1), if_pos (show Gap [] from trivial)]
  show ruE false false 0 k 0 0 0 0 [] [] = 0
  unfold ruE
  rw [if_neg (by omega), if_neg (fun h => h px00), if_neg (fun h => h px00), if_neg (by simp), if_neg (fun h => h h1), if_neg (fun h => h h1), if_neg]
  rintro (h | h | h | h)
  · exact h h2
  · exact h h2
  · exact absurd h.1 (by decide)
  · exact absurd h.1 (by decide)
theorem rc_two {k l : Int} (hk : 0 ≤ k ∧ k ≤ 3) (hl : 0 ≤ l ∧ l ≤ 3) : rcE [ruK k, ruK l] = 0 := by
  unfold rcE
  rw [if_neg (by simp), firstE, if_neg (fun h => h (ruK_err hk)), firstE, if_neg (fun h => h (ruK_err hl)), firstE]
theorem lcs_two {x y : Rc} (h : ¬ x = y) : lcs [x, y] [y, x] = 1 := by
  have h' : ¬ y = x := fun e => h e.symm
  rw [lcs, if_neg h, lcs, if_pos rfl, lcs, lcs, if_pos rfl, lcs]
  decide
theorem lit_sl {w : World} {b k sz : Nat} {cs : List Value} {T : TypeId} {fr : Nat × Nat} (h : w.heap[b]? = some (.cells cs.toArray T fr)) (hl : cs.length = k * sz) : IsSl w sz (some ⟨b, 0, none⟩) k k cs := by
  have := sl_part (sz := sz) (o := 0) (len := k) (cap := k) h (Nat.le_refl _) (by omega)
  rw [List.drop_zero, List.take_of_length_le (by omega)] at this
  exact this
end Go.Port
namespace Go.Proofs.Ytejndjmlgacffaa
open Go.RowKit Go.Port
attribute [local irreducible] Calls
section
variable {A1 A2 : Option Addr} {n1 n2 c1 c2 : Nat} {a b : List Ru} {w : World}
theorem diff_DiffBad (h1 : IsSl w 11 A1 n1 c1 (a.flatMap Ru.row)) (h2 : IsSl w 11 A2 n2 c2 (b.flatMap Ru.row)) (hn1 : n1 = a.length) (hn2 : n2 = b.length) (ho1 : ∀ r ∈ a, r.ok w) (ho2 : ∀ r ∈ b, r.ok w) (hE : ¬ (if ¬ rcE a = 0 then rcE a else rcE b) = 0) :
    Calls Try.prog 9 #[.slice A1 n1 c1, .slice A2 n2 c2] w (Ret w [] (isV (.tuple #[.slice none 0 0, er (if ¬ rcE a = 0 then rcE a else rcE b)]))) :=
  (diff_Diff h1 h2 hn1 hn2 ho1 ho2).mono fun e w' hR => hR.mono fun v L h => by
    rcases h with ⟨_, hv, hL⟩ | ⟨⟨he1, he2⟩, _⟩
    · exact ⟨hv, hL⟩
    · exact absurd (by rw [if_neg (fun h => h he1)]; exact he2) hE
theorem diff_DiffOk (h1 : IsSl w 11 A1 n1 c1 (a.flatMap Ru.row)) (h2 : IsSl w 11 A2 n2 c2 (b.flatMap Ru.row)) (hn1 : n1 = a.length) (hn2 : n2 = b.length) (ho1 : ∀ r ∈ a, r.ok w) (ho2 : ∀ r ∈ b, r.ok w) (he1 : rcE a = 0) (he2 : rcE b = 0) :
    Calls Try.prog 9 #[.slice A1 n1 c1, .slice A2 n2 c2] w (Ret w [] (fun v L => ∃ A m cap c, ∃ es : List Eu, v = .tuple #[.slice A m cap, .nilIface] ∧ L = [c] ∧ m = es.length ∧ es.map Eu.con = (diffL (a.map Ru.con) (b.map Ru.con) 0).map Ed.int ∧ (∀ e ∈ es, e.r.lf.length ≤ 10 ∧ e.r.lt.length ≤ 10) ∧ ∀ w', Has w' c → IsSl w' 13 A m cap (es.flatMap Eu.row) ∧ ∀ e ∈ es, e.r.ok w')) :=
  (diff_Diff h1 h2 hn1 hn2 ho1 ho2).mono fun e w' hR => hR.mono fun v L h => by
    rcases h with ⟨hE, _⟩ | ⟨_, A, m, cap, c, es, hv, hL, hm, hes, hw⟩
    · exact absurd (by rw [if_neg (fun h => h he1)]; exact he2) hE
    · exact ⟨A, m, cap, c, es, by rw [hv, er, errV_zero], hL, hm, hes, eds_bd he1 he2 hes, hw⟩
theorem diff_CommonOk (h1 : IsSl w 11 A1 n1 c1 (a.flatMap Ru.row)) (h2 : IsSl w 11 A2 n2 c2 (b.flatMap Ru.row)) (hn1 : n1 = a.length) (hn2 : n2 = b.length) (ho1 : ∀ r ∈ a, r.ok w) (ho2 : ∀ r ∈ b, r.ok w) (he1 : rcE a = 0) (he2 : rcE b = 0) {k : Nat} (hk : lcs (a.map Ru.con) (b.map Ru.con) = k) :
    Calls Try.prog 8 #[.slice A1 n1 c1, .slice A2 n2 c2] w (Ret w [] (isV (.tuple #[.int .i64 (k : Int), .nilIface]))) := by
  have h := diff_Common h1 h2 hn1 hn2 ho1 ho2 he1 he2
  rw [hk, er, errV_zero] at h
  exact h
theorem diff_ApplyOk {es : List Eu} {out : List Rc} (h1 : IsSl w 11 A1 n1 c1 (a.flatMap Ru.row)) (h2 : IsSl w 13 A2 n2 c2 (es.flatMap Eu.row)) (hn1 : n1 = a.length) (hn2 : n2 = es.length) (ho1 : ∀ r ∈ a, r.ok w) (ho2 : ∀ e ∈ es, e.r.ok w) (hb2 : ∀ e ∈ es, e.r.lf.length ≤ 10 ∧ e.r.lt.length ≤ 10) (hR : applyD (a.map Ru.con) (es.map Eu.con) = (0, out)) :
    Calls Try.prog 10 #[.slice A1 n1 c1, .slice A2 n2 c2] w (Ret w [] (fun v L => ∃ A m cap c, ∃ rs : List Ru, v = .tuple #[.slice A m cap, .nilIface] ∧ L = [c] ∧ m = rs.length ∧ m ≤ 1000 ∧ rs.map Ru.con = out ∧ ∀ w', Has w' c → IsSl w' 11 A m cap (rs.flatMap Ru.row) ∧ ∀ r ∈ rs, r.ok w')) := by
  have h := diff_Apply h1 h2 hn1 hn2 ho1 (fun e he => ⟨ho2 e he, by have := hb2 e he; omega, by have := hb2 e he; omega⟩)
  rw [hR] at h
  refine h.mono fun e w' hR => hR.mono fun v L h => ?_
  rcases h with ⟨hE, _⟩ | ⟨_, A, m, cap, c, rs, hv, hL, hm, hm2, hrs, hw⟩
  · exact absurd rfl hE
  · exact ⟨A, m, cap, c, rs, by rw [hv, er, errV_zero], hL, hm, hm2, hrs, hw⟩
end
end Go.Proofs.Ytejndjmlgacffaa
