/- What is noted is read as it was: the plain law. No program here. -/
import Derived.Test.YtmocpeekdfkegaaDoorNoteA
set_option linter.unusedSimpArgs false
set_option linter.unusedVariables false
namespace Go.Port
theorem unz_zig (n : Int) : unz (zig n) = n := by unfold unz zig; split <;> split <;> omega
theorem zig_unz {u : Int} (h : 0 ≤ u) : zig (unz u) = u := by unfold unz zig; split <;> split <;> omega
theorem pow128_9 : (2 : Int) * 128 ^ 9 = 18446744073709551616 := by decide
theorem vbs_len (f : Nat) (u : Int) : 1 ≤ (vbs f u).length := by
  cases f with
  | zero => exact Nat.le_refl _
  | succ f => rw [vbs]; split <;> simp
theorem half_pow {u : Int} {f : Nat} (h : u < 2 * 128 ^ (f + 1)) : u / 128 < 2 * 128 ^ f := by
  rw [Int.pow_succ] at h
  generalize (128 : Int) ^ f = P at *
  omega
theorem join_pow {x u : Int} {i : Nat} : x + u % 128 * 128 ^ i + u / 128 * 128 ^ (i + 1) = x + u * 128 ^ i := by
  rw [Int.pow_succ]
  generalize (128 : Int) ^ i = P
  have h : u * P = (u % 128 + u / 128 * 128) * P := by congr 1; omega
  rw [h, Int.add_mul, show u / 128 * (P * 128) = u / 128 * 128 * P by rw [Int.mul_assoc, Int.mul_comm P 128]]
  omega
/-- What was written is read. -/
theorem rdX_vbs : ∀ (f i : Nat) (x u : Int) (r : List Int), f + i = 9 → 0 ≤ u → u < 2 * 128 ^ f → (0 < i → 0 < u) →
    rdX (f + 1) i x (vbs (f + 1) u ++ r) = (0, unz (x + u * 128 ^ i), (vbs (f + 1) u).length) := by
  intro f
  induction f with
  | zero =>
    intro i x u r hf h0 hu hi
    have hu2 : u < 2 := by simpa using hu
    rw [vbs_stop (by omega)]
    show rdX (0 + 1) i x (u :: r) = _
    rw [rdX_last (by omega) (by omega), show u % 128 = u by omega]; rfl
  | succ f ih =>
    intro i x u r hf h0 hu hi
    by_cases hs : u < 128
    · rw [vbs_stop hs]
      show rdX (f + 1 + 1) i x (u :: r) = _
      rw [rdX_last (by omega) hs, show u % 128 = u by omega]; rfl
    · rw [vbs_go hs]
      show rdX (f + 1 + 1) i x ((u % 128 + 128) :: (vbs (f + 1) (u / 128) ++ r)) = _
      rw [rdX_go (by omega) (by omega), show (u % 128 + 128) % 128 = u % 128 by omega, ih (i + 1) _ (u / 128) r (by omega) (by omega) (half_pow hu) (by omega), join_pow]
      rfl
/-- A part of what was written is too short. -/
theorem rdX_cut : ∀ (f i : Nat) (x u : Int) (j : Nat), f + i = 9 → 0 ≤ u → u < 2 * 128 ^ f → (0 < i → 0 < u) → j < (vbs (f + 1) u).length →
    (rdX (f + 1) i x ((vbs (f + 1) u).take j)).1 = 8 := by
  intro f
  induction f with
  | zero =>
    intro i x u j hf h0 hu hi hj
    have hu2 : u < 2 := by simpa using hu
    rw [vbs_stop (by omega)] at hj ⊢
    obtain rfl : j = 0 := by simpa using hj
    rfl
  | succ f ih =>
    intro i x u j hf h0 hu hi hj
    by_cases hs : u < 128
    · rw [vbs_stop hs] at hj ⊢
      obtain rfl : j = 0 := by simpa using hj
      rfl
    · rw [vbs_go hs] at hj ⊢
      match j, hj with
      | 0, _ => rfl
      | j + 1, hj =>
        rw [List.take_succ_cons, rdX_go (by omega) (by omega)]
        exact ih (i + 1) _ (u / 128) j (by omega) (by omega) (half_pow hu) (by omega) (by simpa using hj)
/-- What is read is written as it was. -/
theorem rdX_canon : ∀ (f i : Nat) (x : Int) (l : List Int), f + i = 9 → Octets l → (rdX (f + 1) i x l).1 = 0 →
    ∃ u, 0 ≤ u ∧ u < 2 * 128 ^ f ∧ (0 < i → 0 < u) ∧ (rdX (f + 1) i x l).2.1 = unz (x + u * 128 ^ i) ∧ l.take (rdX (f + 1) i x l).2.2 = vbs (f + 1) u := by
  have one : ∀ (f i : Nat) (x c : Int) (r : List Int), f + i = 9 → 0 ≤ c → c < 128 → ¬ ((i = 9 ∧ 1 < c) ∨ (0 < i ∧ c = 0)) →
      ∃ u, 0 ≤ u ∧ u < 2 * 128 ^ f ∧ (0 < i → 0 < u) ∧ (rdX (f + 1) i x (c :: r)).2.1 = unz (x + u * 128 ^ i) ∧ (c :: r).take (rdX (f + 1) i x (c :: r)).2.2 = vbs (f + 1) u := by
    intro f i x c r hf h0 hc hb
    rw [rdX_last hb hc]
    refine ⟨c, h0, ?_, by omega, by rw [show c % 128 = c by omega], by rw [vbs_stop hc]; rfl⟩
    cases f with
    | zero => simp; omega
    | succ f =>
      rw [Int.pow_succ]
      have := pow128_pos f
      generalize (128 : Int) ^ f = P at *
      omega
  intro f
  induction f with
  | zero =>
    intro i x l hf ho h
    match l, ho, h with
    | [], _, h => rw [rdX_nil] at h; cases h
    | c :: r, ho, h =>
      have hc := ho c (List.mem_cons_self ..)
      by_cases hb : (i = 9 ∧ 1 < c) ∨ (0 < i ∧ c = 0)
      · rw [rdX_bad hb] at h; cases h
      · exact one 0 i x c r hf hc.1 (by omega) hb
  | succ f ih =>
    intro i x l hf ho h
    match l, ho, h with
    | [], _, h => rw [rdX_nil] at h; cases h
    | c :: r, ho, h =>
      have hc := ho c (List.mem_cons_self ..)
      by_cases hb : (i = 9 ∧ 1 < c) ∨ (0 < i ∧ c = 0)
      · rw [rdX_bad hb] at h; cases h
      by_cases hs : c < 128
      · exact one (f + 1) i x c r hf hc.1 hs hb
      rw [rdX_go hb hs] at h ⊢
      obtain ⟨u, h0, hu, hp, h1, h2⟩ := ih (i + 1) (x + c % 128 * 128 ^ i) r (by omega) (fun y hy => ho y (List.mem_cons_of_mem _ hy)) h
      have hpos := hp (by omega)
      refine ⟨c % 128 + 128 * u, by omega, ?_, by omega, ?_, ?_⟩
      · rw [Int.pow_succ]
        generalize (128 : Int) ^ f = P at *
        omega
      · show (rdX (f + 1) (i + 1) _ r).2.1 = _
        rw [h1, ← join_pow (u := c % 128 + 128 * u), show (c % 128 + 128 * u) % 128 = c % 128 by omega, show (c % 128 + 128 * u) / 128 = u by omega]
      · show (c :: r).take ((rdX (f + 1) (i + 1) _ r).2.2 + 1) = _
        rw [vbs_go (by omega), List.take_succ_cons, h2, show (c % 128 + 128 * u) / 128 = u by omega, show (c % 128 + 128 * u) % 128 + 128 = c by omega]
theorem zig_lt {n : Int} (h : I64 n) : 0 ≤ zig n ∧ zig n < 2 * 128 ^ 9 := by
  have := zig_bd h
  rw [pow128_9]; omega
theorem rdNum_goes {n : Int} (h : I64 n) {bs pre r : List Int} (hb : bs = pre ++ (vb n ++ r)) : rdNum bs pre.length 0 = (n, (pre ++ vb n).length, 0) := by
  obtain ⟨h0, h1⟩ := zig_lt h
  have hd : bs.drop pre.length = vbs (9 + 1) (zig n) ++ r := by rw [hb, List.drop_left]; rfl
  rw [rdNum, if_pos rfl, hd, show (10 : Nat) = 9 + 1 from rfl, rdX_vbs 9 0 0 (zig n) r rfl h0 h1 (by omega), List.length_append]
  show (unz (0 + zig n * 1), _, _) = _
  rw [show 0 + zig n * 1 = zig n by omega, unz_zig]; rfl
theorem rdL_goes : ∀ (ns pre r : List Int), (∀ n ∈ ns, I64 n) → rdL (pre ++ (ns.flatMap vb ++ r)) ns.length pre.length 0 = (ns, (pre ++ ns.flatMap vb).length, 0)
  | [], pre, r, _ => by simp [rdL]
  | n :: ns, pre, r, h => by
    have e : pre ++ ((n :: ns).flatMap vb ++ r) = pre ++ (vb n ++ (ns.flatMap vb ++ r)) := by simp
    have e2 : pre ++ ((n :: ns).flatMap vb ++ r) = (pre ++ vb n) ++ (ns.flatMap vb ++ r) := by simp
    have h1 := rdNum_goes (h n (List.mem_cons_self ..)) e
    have h2 := rdL_goes ns (pre ++ vb n) r (fun x hx => h x (List.mem_cons_of_mem _ hx))
    rw [← e2] at h2
    rw [List.length_cons, rdL, h1, h2]
    simp
theorem rdL_cut : ∀ (ns pre : List Int) (j : Nat), (∀ n ∈ ns, I64 n) → j < (ns.flatMap vb).length → (rdL (pre ++ (ns.flatMap vb).take j) ns.length pre.length 0).2.2 = 8
  | [], pre, j, _, hj => by simp at hj
  | n :: ns, pre, j, h, hj => by
    have hn := h n (List.mem_cons_self ..)
    rw [List.flatMap_cons] at hj ⊢
    by_cases hs : j < (vb n).length
    · have e : (vb n ++ ns.flatMap vb).take j = (vb n).take j := List.take_append_of_le_length (by omega)
      obtain ⟨h0, h1⟩ := zig_lt hn
      have h8 : (rdNum (pre ++ (vb n).take j) pre.length 0).2.2 = 8 := by
        rw [rdNum, if_pos rfl, List.drop_left]
        exact rdX_cut 9 0 0 (zig n) j rfl h0 h1 (by omega) hs
      rw [e, List.length_cons, rdL]
      show (rdL _ _ _ _).2.2 = 8
      rw [h8, rdL_bad (by decide)]
    · have e : pre ++ (vb n ++ ns.flatMap vb).take j = pre ++ (vb n ++ (ns.flatMap vb).take (j - (vb n).length)) := by
        rw [List.take_append, List.take_of_length_le (by omega)]
      rw [e, List.length_cons, rdL, rdNum_goes hn rfl]
      show (rdL _ _ _ _).2.2 = 8
      rw [← List.append_assoc]
      exact rdL_cut ns (pre ++ vb n) _ (fun x hx => h x (List.mem_cons_of_mem _ hx)) (by rw [List.length_append] at hj; omega)
theorem rdNum_canon {bs : List Int} {p : Nat} (ho : Octets bs) (h : (rdNum bs p 0).2.2 = 0) :
    I64 (rdNum bs p 0).1 ∧ p ≤ (rdNum bs p 0).2.1 ∧ (bs.drop p).take ((rdNum bs p 0).2.1 - p) = vb (rdNum bs p 0).1 := by
  rw [rdNum, if_pos rfl] at h ⊢
  obtain ⟨u, h0, hu, _, h1, h2⟩ := rdX_canon 9 0 0 (bs.drop p) rfl (fun y hy => ho y (List.mem_of_mem_drop hy)) h
  have e : (0 : Int) + u * 128 ^ 0 = u := by show 0 + u * 1 = u; omega
  rw [e] at h1
  rw [pow128_9] at hu
  refine ⟨?_, Nat.le_add_right _ _, ?_⟩
  · show I64 (rdX (9 + 1) 0 0 (bs.drop p)).2.1
    rw [h1]; unfold I64 unz; split <;> omega
  · show (bs.drop p).take (p + (rdX (9 + 1) 0 0 (bs.drop p)).2.2 - p) = vb (rdX (9 + 1) 0 0 (bs.drop p)).2.1
    rw [Nat.add_sub_cancel_left, h2, h1, vb, zig_unz h0]
theorem rdL_canon {bs : List Int} (ho : Octets bs) : ∀ (k p : Nat), (rdL bs k p 0).2.2 = 0 →
    (∀ n ∈ (rdL bs k p 0).1, I64 n) ∧ p ≤ (rdL bs k p 0).2.1 ∧ (bs.drop p).take ((rdL bs k p 0).2.1 - p) = (rdL bs k p 0).1.flatMap vb
  | 0, p, _ => ⟨by simp [rdL], Nat.le_refl _, by simp [rdL]⟩
  | k + 1, p, h => by
    rw [rdL] at h ⊢
    by_cases he : (rdNum bs p 0).2.2 = 0
    · obtain ⟨a1, a2, a3⟩ := rdNum_canon ho he
      rw [he] at h ⊢
      obtain ⟨b1, b2, b3⟩ := rdL_canon ho k (rdNum bs p 0).2.1 h
      refine ⟨?_, Nat.le_trans a2 b2, ?_⟩
      · intro n hn
        rcases List.mem_cons.1 hn with rfl | hn
        · exact a1
        · exact b1 n hn
      · show (bs.drop p).take ((rdL bs k (rdNum bs p 0).2.1 0).2.1 - p) = List.flatMap vb (_ :: _)
        rw [List.flatMap_cons, ← a3, ← b3]
        generalize (rdNum bs p 0).2.1 = p1 at *
        generalize (rdL bs k p1 0).2.1 = p2 at *
        rw [show p2 - p = (p1 - p) + (p2 - p1) by omega, List.take_add, List.drop_drop, show p + (p1 - p) = p1 by omega]
    · have h' : (rdL bs k (rdNum bs p 0).2.1 (rdNum bs p 0).2.2).2.2 = 0 := h
      rw [rdL_bad he] at h'
      exact absurd h' he
/-- The numbers of a note that may be. -/
theorem nums_of {x : Nt} (h : x.err = 0) : ∃ ns, x.nums = x.what :: ns ∧ ns.length = manyN x.what ∧ mkN x.what ns = x ∧ (x.what = 1 → 0 ≤ nth ns 13 ∧ nth ns 13 ≤ 3) := by
  have hE := h
  unfold Nt.err at h
  by_cases h1 : x.what < 1 ∨ 5 < x.what ∨ ¬ (0 ≤ x.seq ∧ x.seq ≤ 1000000)
  · rw [if_pos h1] at h; cases h
  rw [if_neg h1] at h
  obtain ⟨wh, sq, ⟨k, s, f, d, t, st, un, sp, hh0, hh1, ww0, ww1, d0, d1, nm⟩⟩ := x
  dsimp only at h h1 ⊢
  by_cases h2 : wh = 1
  · subst h2
    refine ⟨[sq, k, s, f, d, t, st, un, sp, hh0, hh1, ww0, ww1, doneI ⟨k, s, f, d, t, st, un, sp, hh0, hh1, ww0, ww1, d0, d1, nm⟩, nm], ?_, ?_, ?_, ?_⟩
    · simp [Nt.nums, Nt.keys, Nt.rest]
    · rfl
    · unfold mkN doneI; cases d0 <;> cases d1 <;> simp [nth]
    · intro _; unfold doneI; cases d0 <;> cases d1 <;> simp [nth]
  rw [if_neg h2] at h
  by_cases h3 : wh = 2
  · subst h3
    rw [if_pos rfl] at h
    by_cases h4 : ¬ keyOk k s f d t
    · rw [if_pos h4] at h; cases h
    rw [if_neg h4] at h
    by_cases h5 : ¬ Fl.bare ⟨k, s, f, d, t, st, un, sp, hh0, hh1, ww0, ww1, d0, d1, nm⟩
    · rw [if_pos h5] at h; cases h
    rw [Classical.not_not] at h5
    unfold Fl.bare at h5
    dsimp only at h5
    obtain ⟨rfl, rfl, rfl, ⟨rfl, rfl⟩, ⟨rfl, rfl⟩, ⟨rfl, rfl⟩, rfl⟩ := h5
    refine ⟨[sq, k, s, f, d, t], ?_, ?_, ?_, by omega⟩
    · simp [Nt.nums, Nt.keys]
    · rfl
    · unfold mkN; simp [nth]
  rw [if_neg h3] at h
  by_cases h4 : ¬ (Fl.nokey ⟨k, s, f, d, t, st, un, sp, hh0, hh1, ww0, ww1, d0, d1, nm⟩ ∧ Fl.bare ⟨k, s, f, d, t, st, un, sp, hh0, hh1, ww0, ww1, d0, d1, nm⟩)
  · rw [if_pos h4] at h; cases h
  rw [Classical.not_not] at h4
  unfold Fl.nokey Fl.bare at h4
  dsimp only at h4
  obtain ⟨⟨rfl, rfl, rfl, rfl, rfl⟩, rfl, rfl, rfl, ⟨rfl, rfl⟩, ⟨rfl, rfl⟩, ⟨rfl, rfl⟩, rfl⟩ := h4
  refine ⟨[sq], ?_, ?_, ?_, by omega⟩
  · have : 2 < wh := by omega
    simp [Nt.nums, this]
  · simp [manyN, h2, h3]
  · unfold mkN; simp [nth]
theorem nums_fit {x : Nt} (h : x.err = 0) : ∀ n ∈ x.nums, I64 n := by
  obtain ⟨hf, _, _⟩ := nt_err_fits h
  unfold Nt.fits at hf
  obtain ⟨⟨a, b⟩, ⟨c1, c2, c3, c4, c5⟩, e1, e2, e3, e4, e5, e6, e7, e8⟩ := hf
  have hd : I64 (doneI x.fl) := by unfold I64 doneI; split <;> split <;> omega
  intro n hn
  unfold Nt.nums Nt.keys Nt.rest at hn
  split at hn
  · simp only [List.append_nil, List.mem_cons, List.not_mem_nil, or_false] at hn
    rcases hn with rfl | rfl <;> assumption
  · split at hn
    · simp only [List.append_nil, List.cons_append, List.nil_append, List.mem_cons, List.not_mem_nil, or_false] at hn
      rcases hn with rfl | rfl | rfl | rfl | rfl | rfl | rfl <;> assumption
    · simp only [List.cons_append, List.nil_append, List.mem_cons, List.not_mem_nil, or_false] at hn
      rcases hn with rfl | rfl | rfl | rfl | rfl | rfl | rfl | rfl | rfl | rfl | rfl | rfl | rfl | rfl | rfl | rfl <;> assumption
theorem lastE_ok {x : Nt} {ns : List Int} (h : x.err = 0) (hm : mkN x.what ns = x) (hd : x.what = 1 → 0 ≤ nth ns 13 ∧ nth ns 13 ≤ 3) : lastE x.what ns 0 = 0 := by
  unfold lastE
  rw [if_neg (by simp), if_neg (by omega), hm, if_neg (by simp [h])]
theorem whatE_ok {x : Nt} (h : x.err = 0) : whatE x.what 0 = 0 := by
  obtain ⟨_, _, _⟩ := nt_err_fits h
  unfold whatE
  rw [if_neg (by omega)]
/-- A note's bytes, whatever stands behind them, are the note. -/
theorem note_goes {x : Nt} (h : x.err = 0) (r : List Int) : readN (x.bytes ++ r) = (x, x.bytes.length, 0) := by
  obtain ⟨ns, h1, h2, h3, h4⟩ := nums_of h
  have hf := nums_fit h
  have hg := rdL_goes x.nums [] r hf
  rw [List.nil_append, List.nil_append, ← Nt.bytes] at hg
  rw [h1, List.length_cons, rdL] at hg
  have ha := rdNum_goes (bs := x.bytes ++ r) (pre := []) (r := ns.flatMap vb ++ r) (hf x.what (by rw [h1]; exact List.mem_cons_self ..)) (by rw [Nt.bytes, h1]; simp)
  simp only [List.length_nil, List.nil_append] at ha hg
  rw [ha] at hg
  dsimp only at hg
  simp only [Prod.mk.injEq, List.cons.injEq, true_and] at hg
  obtain ⟨hg1, hg2⟩ := hg
  unfold readN
  rw [ha]
  dsimp only
  rw [whatE_ok h, ← h2, hg1, hg2]
  dsimp only
  rw [lastE_ok h h3 h4, if_pos rfl, h3]
/-- A part of a note's bytes is too short. -/
theorem note_cut {x : Nt} (h : x.err = 0) {j : Nat} (hj : j < x.bytes.length) : (readN (x.bytes.take j)).2.2 = 8 := by
  obtain ⟨ns, h1, h2, h3, h4⟩ := nums_of h
  have hf := nums_fit h
  have hc := rdL_cut x.nums [] j hf hj
  rw [List.nil_append, ← Nt.bytes, h1, List.length_cons, rdL] at hc
  have hc' : (rdL (x.bytes.take j) ns.length (rdNum (x.bytes.take j) 0 0).2.1 (rdNum (x.bytes.take j) 0 0).2.2).2.2 = 8 := hc
  have hw := hf x.what (by rw [h1]; exact List.mem_cons_self ..)
  unfold readN
  by_cases he : (rdNum (x.bytes.take j) 0 0).2.2 = 0
  · by_cases hs : j < (vb x.what).length
    · exfalso
      have e : x.bytes.take j = (vb x.what).take j := by rw [Nt.bytes, h1, List.flatMap_cons]; exact List.take_append_of_le_length (by omega)
      obtain ⟨h0, h1'⟩ := zig_lt hw
      have h8 : (rdNum (x.bytes.take j) 0 0).2.2 = 8 := by
        rw [rdNum, if_pos rfl, e, List.drop_zero]
        exact rdX_cut 9 0 0 (zig x.what) j rfl h0 h1' (by omega) hs
      rw [h8] at he; cases he
    · have e : x.bytes.take j = [] ++ (vb x.what ++ (ns.flatMap vb).take (j - (vb x.what).length)) := by
        rw [Nt.bytes, h1, List.flatMap_cons, List.take_append, List.take_of_length_le (by omega)]; rfl
      have ha := rdNum_goes hw e
      rw [List.length_nil] at ha
      rw [ha] at hc' ⊢
      dsimp only at hc' ⊢
      rw [whatE_ok h, ← h2]
      have hl : lastE x.what (rdL (x.bytes.take j) ns.length ([] ++ vb x.what).length 0).1 (rdL (x.bytes.take j) ns.length ([] ++ vb x.what).length 0).2.2 = 8 := by
        rw [hc', lastE, if_pos (by decide)]
      rw [hl, if_neg (by decide)]
  · rw [rdL_bad he] at hc'
    dsimp only at hc' ⊢
    rw [hc']
    have hw8 : ∀ w, whatE w 8 = 8 := fun w => by unfold whatE; rw [if_neg (by omega)]
    rw [hw8, rdL_bad (by decide)]
    dsimp only
    rw [show ∀ w ns, lastE w ns 8 = 8 from fun w ns => by rw [lastE, if_pos (by decide)], if_neg (by decide)]
/-- What is read is written as it was. -/
theorem note_back {bs : List Int} (ho : Octets bs) {m : Nt} {used : Nat} (h : readN bs = (m, used, 0)) : m.err = 0 ∧ used ≤ bs.length ∧ m.bytes = bs.take used := by
  unfold readN at h
  dsimp only at h
  obtain ⟨wv, hwv⟩ : ∃ wv, wv = (rdNum bs 0 0).1 := ⟨_, rfl⟩
  rw [← hwv] at h
  have hlen := rdL_len bs (manyN wv) (rdNum bs 0 0).2.1 (whatE wv (rdNum bs 0 0).2.2)
  by_cases hl : lastE wv (rdL bs (manyN wv) (rdNum bs 0 0).2.1 (whatE wv (rdNum bs 0 0).2.2)).1 (rdL bs (manyN wv) (rdNum bs 0 0).2.1 (whatE wv (rdNum bs 0 0).2.2)).2.2 = 0
  rotate_left
  · rw [if_neg hl] at h
    simp only [Prod.mk.injEq] at h
    exact absurd h.2.2 hl
  rw [if_pos hl] at h
  simp only [Prod.mk.injEq, and_true] at h
  obtain ⟨hm, hu⟩ := h
  unfold lastE at hl
  split at hl
  · exact absurd hl (by assumption)
  rename_i hb0
  rw [Classical.not_not] at hb0
  split at hl
  · cases hl
  rename_i hdn
  split at hl
  · cases hl
  rename_i herr
  rw [Classical.not_not] at herr
  have hwe : whatE wv (rdNum bs 0 0).2.2 = 0 := Classical.byContradiction fun hh => hh (by rw [rdL_bad hh] at hb0; exact hb0)
  have he0 : (rdNum bs 0 0).2.2 = 0 := by
    unfold whatE at hwe
    split at hwe
    · cases hwe
    · exact hwe
  rw [hwe] at hb0 hm hu hlen herr hdn
  obtain ⟨ns, hns⟩ : ∃ ns, ns = (rdL bs (manyN wv) (rdNum bs 0 0).2.1 0).1 := ⟨_, rfl⟩
  have hc := rdL_canon ho (manyN wv + 1) 0 (by rw [rdL]; show (rdL _ _ _ (rdNum bs 0 0).2.2).2.2 = 0; rw [he0]; exact hb0)
  rw [rdL, he0, ← hwv] at hc
  dsimp only at hc
  rw [hu, ← hns] at hc
  rw [← hns] at hm hlen herr hdn
  have hle := rdL_le (k := manyN wv) (e := 0) (rdNum_le (bs := bs) (p := 0) (e := 0) (Nat.zero_le _))
  rw [hu] at hle
  refine ⟨hm ▸ herr, hle, ?_⟩
  have h3 := hc.2.2
  rw [List.drop_zero, Nat.sub_zero] at h3
  rw [h3, Nt.bytes]
  congr 1
  rw [← hm]
  clear hc h3 hb0 hu hwe he0 hwv hns hle hm
  obtain ⟨hf, hw1, hw5⟩ := nt_err_fits herr
  dsimp only [mkN] at hw1 hw5
  unfold manyN at hlen
  by_cases h1 : wv = 1
  · subst h1
    rw [if_pos rfl] at hlen
    match ns, hlen with
    | [a0, a1, a2, a3, a4, a5, a6, a7, a8, a9, a10, a11, a12, a13, a14], _ =>
      have hd : ¬ (a13 < 0 ∨ 3 < a13) := fun hh => hdn ⟨rfl, by simpa [nth] using hh⟩
      have e : doneI (mkN 1 [a0, a1, a2, a3, a4, a5, a6, a7, a8, a9, a10, a11, a12, a13, a14]).fl = a13 := by
        obtain h | h | h | h : a13 = 0 ∨ a13 = 1 ∨ a13 = 2 ∨ a13 = 3 := by omega
        all_goals subst h; simp [mkN, doneI, nth]
      unfold Nt.nums Nt.keys Nt.rest
      rw [e]
      simp [mkN, nth]
  rw [if_neg h1] at hlen
  by_cases h2 : wv = 2
  · subst h2
    rw [if_pos rfl] at hlen
    match ns, hlen with
    | [a0, a1, a2, a3, a4, a5], _ => simp [Nt.nums, Nt.keys, mkN, nth]
  rw [if_neg h2] at hlen
  match ns, hlen with
  | [a0], _ =>
    have : 2 < wv := by omega
    simp [Nt.nums, mkN, nth, this]
theorem vbs_oct : ∀ (f : Nat) (u : Int), 0 ≤ u → u < 2 * 128 ^ f → ∀ y ∈ vbs f u, 0 ≤ y ∧ y ≤ 255
  | 0, u, h0, hu, y, hy => by
    have hu2 : u < 2 := by simpa using hu
    have : y = u := by simpa [vbs] using hy
    omega
  | f + 1, u, h0, hu, y, hy => by
    by_cases hs : u < 128
    · rw [vbs_stop hs] at hy
      have : y = u := by simpa using hy
      omega
    · rw [vbs_go hs] at hy
      rcases List.mem_cons.1 hy with rfl | hy
      · omega
      · exact vbs_oct f _ (by omega) (half_pow hu) y hy
theorem bytes_oct {x : Nt} (h : x.err = 0) : Octets x.bytes := by
  intro y hy
  rw [Nt.bytes, List.mem_flatMap] at hy
  obtain ⟨n, hn, hy⟩ := hy
  have hz := zig_lt (nums_fit h n hn)
  have e : (2 : Int) * 128 ^ 9 ≤ 2 * 128 ^ 10 := by decide
  exact vbs_oct 10 _ hz.1 (by omega) y hy
theorem bytes_pos {x : Nt} (h : x.err = 0) : 0 < x.bytes.length := by
  obtain ⟨ns, h1, _⟩ := nums_of h
  have := vbs_len 10 (zig x.what)
  rw [Nt.bytes, h1, List.flatMap_cons, List.length_append, vb]
  omega
end Go.Port
