/- portref2: a pool's Add: which heap. -/
import Derived.Test.YtlpdapfihgpheaaDoorFragR
set_option linter.unusedSimpArgs false
set_option linter.unusedVariables false
set_option maxRecDepth 100000
namespace Go.Proofs.YtlpdapfihgpheaaDoor
open Go.RowKit Go.Port
attribute [local irreducible] Calls
def Rh.key (r : Rh) : Nm := (r.o.k, r.o.s, r.o.d, r.o.i)
/-- A heap of the document's that may be. -/
def Rh.ok (y : Rh) : Prop := OwnS 24 8 (.slice y.A y.n y.cap) y.n (y.all.flatMap Pk.row) y.c ∧ y.n = y.all.length ∧ y.n ≤ 50000 ∧ (∀ p ∈ y.all, p.fit) ∧ 0 ≤ y.began ∧ y.began ≤ 1000000
/-- A row of heaps that is the call's own. -/
def OwnR (A : Option Addr) (cap : Nat) (cL : Ch) (RL : List Rh) : Prop := OwnS 65 11 (.slice A RL.length cap) RL.length (RL.flatMap Rh.row) cL
/-- What comes of a piece at a heap y, of which the other side knows h0. -/
def RInR (life u : Int) (mb : Nat) (P S : List Rh) (y : Rh) (h0 : Hp) (k t i s d a : Int) (m : Bool) (Ax : Option Addr) (capx : Nat) (l : List Int) (v : Value) (L : List Ch) : Prop :=
  (h0.bad = true ∧ v = .tuple #[.agg #[.int .i64 0, .int .i64 0, .int .i64 0, .int .i64 0, .int .i64 0, .int .i64 0, .bool false, .slice none 0 0], .bool false, .int .i64 6] ∧ ∃ A cap cL, OwnR A cap cL (P ++ y :: S) ∧ L = [rpC life u mb A cap cL (P ++ y :: S)]) ∨
  (h0.bad = false ∧ wrongH h0 a m l.length = true ∧ v = .tuple #[.agg #[.int .i64 0, .int .i64 0, .int .i64 0, .int .i64 0, .int .i64 0, .int .i64 0, .bool false, .slice none 0 0], .bool false, .int .i64 3] ∧ ∃ A cap cL, OwnR A cap cL (P ++ { y with bad := true } :: S) ∧ L = [rpC life u mb A cap cL (P ++ { y with bad := true } :: S)]) ∨
  (h0.bad = false ∧ wrongH h0 a m l.length = false ∧ wholeH (putH h0 a m t l) = false ∧ v = .tuple #[.agg #[.int .i64 0, .int .i64 0, .int .i64 0, .int .i64 0, .int .i64 0, .int .i64 0, .bool false, .slice none 0 0], .bool false, .int .i64 0] ∧ ∃ A cap cL A' cap' c', OwnS 24 8 (.slice A' (y.n + 1) cap') (y.n + 1) ((y.all ++ [(⟨k, t, i, s, d, a, m, Ax, l.length, capx, l⟩ : Pk)]).flatMap Pk.row) c' ∧ OwnR A cap cL (P ++ { y with A := A', n := y.n + 1, cap := cap', all := y.all ++ [(⟨k, t, i, s, d, a, m, Ax, l.length, capx, l⟩ : Pk)], c := c' } :: S) ∧ L = [rpC life u mb A cap cL (P ++ { y with A := A', n := y.n + 1, cap := cap', all := y.all ++ [(⟨k, t, i, s, d, a, m, Ax, l.length, capx, l⟩ : Pk)], c := c' } :: S)]) ∨
  (h0.bad = false ∧ wrongH h0 a m l.length = false ∧ wholeH (putH h0 a m t l) = true ∧ ∃ A cap cL Ab capb cB, v = .tuple #[.agg #[.int .i64 k, .int .i64 (putH h0 a m t l).ttl, .int .i64 i, .int .i64 s, .int .i64 d, .int .i64 0, .bool false, .slice Ab (putH h0 a m t l).fin.toNat capb], .bool true, .int .i64 0] ∧ OwnR A cap cL (P ++ S) ∧ OwnS 5 1 (.slice Ab (putH h0 a m t l).fin.toNat capb) (putH h0 a m t l).fin.toNat (((putH h0 a m t l).body.take (putH h0 a m t l).fin.toNat).map (Value.int .u8)) cB ∧ L = [rpC life u mb A cap cL (P ++ S), cB])
theorem rin' {mb xb rb cap capx : Nat} {life u k t i s d a : Int} {m : Bool} {A Ax : Option Addr} {l : List Int} {cL : Ch} {P S : List Rh} {y : Rh} {h0 : Hp} {D : List Nat} {w : World} {R : Value → List Ch → Prop} (hlen : (P ++ y :: S).length ≤ 100) (hL : OwnR A cap cL (P ++ y :: S))
    (hok : y.ok) (hxf : (0 ≤ a ∧ a < 32768) ∧ l.length ≤ 4000) (hbod : ∀ p ∈ y.all ++ [(⟨k, t, i, s, d, a, m, Ax, l.length, capx, l⟩ : Pk)], ∀ {w' : World}, Mem w w' D [] → IsSl w' 1 p.A p.n p.c (p.l.map (Value.int .u8)))
    (hbad : y.bad = h0.bad) (hrel : h0.bad = false → HeapR h0 (y.all.map Pk.pc) ∧ (y.all = [] → h0.ttl = t))
    (hR : ∀ v L, RInR life u mb P S y h0 k t i s d a m Ax capx l v L → R v L) (g : Nat → Value) :
    CX Tryd.prog w D 254 (bodyPost Tryd.prog Tryd.f13 (Ret w D R)) (tailOf 9 (Tryd.f13.body.getD .skip)) g [(0, .pointer (some ⟨mb, 0, none⟩)), (4, .pointer (some ⟨xb, 0, none⟩)), (6, .pointer (some ⟨rb, 0, none⟩)), (10, .int .i64 (P.length : Nat))] [[(mb, .cells [.int .i64 life, .int .i64 u, .slice A (P ++ y :: S).length cap].toArray 42 (0, 0))], cL, [(xb, .cells [.int .i64 k, .int .i64 t, .int .i64 i, .int .i64 s, .int .i64 d, .int .i64 a, .bool m, .slice Ax l.length capx].toArray 24 (0, 0))], [(rb, .cells [.int .i64 0, .int .i64 0, .int .i64 0, .int .i64 0, .int .i64 0, .int .i64 0, .bool false, .slice none 0 0].toArray 24 (0, 0))], y.c, (P ++ S).flatMap (·.c)] :=
  rin (life := life) hlen hL hok.1 hok.2.1 hok.2.2.1 hok.2.2.2.1 hxf hbod hbad hrel
    (fun h => hR _ _ (.inl ⟨h, rfl, A, cap, cL, hL, rfl⟩))
    (fun h1 h2 cL' h3 => hR _ _ (.inr (.inl ⟨h1, h2, rfl, A, cap, cL', h3, rfl⟩)))
    (fun h1 h2 h3 A' cap' c' cL' h4 h5 => hR _ _ (.inr (.inr (.inl ⟨h1, h2, h3, rfl, A, cap, cL', A', cap', c', h4, h5, rfl⟩))))
    (fun h1 h2 h3 A2 cap2 c2 Ab capb cB h4 h5 => hR _ _ (.inr (.inr (.inr ⟨h1, h2, h3, A2, cap2, c2, Ab, capb, cB, rfl, h4, h5, rfl⟩)))) g
theorem heaps_out {w w' : World} {D : List Nat} {P S : List Rh} {y : Rh} {c1 c2 c3 c4 : Ch} (h : Mem w w' D [c1, c2, c3, c4, (P ++ y :: S).flatMap (·.c)]) : Mem w w' D [c1, c2, c3, c4, y.c, (P ++ S).flatMap (·.c)] := h.perm (by
  simp only [List.flatten_cons, List.flatten_nil, List.append_nil, List.flatMap_append, List.flatMap_cons]
  exact ((((List.perm_append_comm_assoc _ _ _).append_left _).append_left _).append_left _).append_left _)
set_option maxHeartbeats 16000000 in
theorem rmid {mb xb rb cap capx : Nat} {life u k t i s d a : Int} {m : Bool} {A Ax : Option Addr} {l : List Int} {cL : Ch} {RL : List Rh} {h0 : Hp} {D : List Nat} {w : World} {R : Value → List Ch → Prop} (hlen : RL.length ≤ 8) (hL : OwnR A cap cL RL) (hkey : (RL.map Rh.key).Nodup) (hu : 0 ≤ u ∧ u ≤ 1000000)
    (hok : ∀ y ∈ RL, y.ok) (hxf : (0 ≤ a ∧ a < 32768) ∧ l.length ≤ 4000) (hbod : ∀ y ∈ RL, ∀ p ∈ y.all, ∀ {w' : World}, Mem w w' D [] → IsSl w' 1 p.A p.n p.c (p.l.map (Value.int .u8))) (hbodx : ∀ {w' : World}, Mem w w' D [] → IsSl w' 1 Ax l.length capx (l.map (Value.int .u8)))
    (hrel : ∀ y ∈ RL, y.key = (k, s, d, i) → y.bad = h0.bad ∧ (h0.bad = false → HeapR h0 (y.all.map Pk.pc) ∧ (y.all = [] → h0.ttl = t)))
    (hRf : (∀ x ∈ RL, x.key ≠ (k, s, d, i)) → 8 ≤ RL.length → R (.tuple #[.agg #[.int .i64 0, .int .i64 0, .int .i64 0, .int .i64 0, .int .i64 0, .int .i64 0, .bool false, .slice none 0 0], .bool false, .int .i64 4]) [rpC life u mb A cap cL RL])
    (hRn : (∀ x ∈ RL, x.key ≠ (k, s, d, i)) → RL.length < 8 → ∀ v L, RInR life u mb RL [] ⟨(⟨k, t, i, s, d, a, m, Ax, l.length, capx, l⟩ : Pk), u, false, none, 0, 0, [], []⟩ (newH u t) k t i s d a m Ax capx l v L → R v L)
    (hRy : ∀ P S y, RL = P ++ y :: S → y.key = (k, s, d, i) → ∀ v L, RInR life u mb P S y h0 k t i s d a m Ax capx l v L → R v L) (g : Nat → Value) :
    CX Tryd.prog w D 254 (bodyPost Tryd.prog Tryd.f13 (Ret w D R)) (tailOf 6 (Tryd.f13.body.getD .skip)) g [(0, .pointer (some ⟨mb, 0, none⟩)), (2, .int .i64 u), (4, .pointer (some ⟨xb, 0, none⟩)), (6, .pointer (some ⟨rb, 0, none⟩))] [[(mb, .cells [.int .i64 life, .int .i64 u, .slice A RL.length cap].toArray 42 (0, 0))], cL, [(xb, .cells [.int .i64 k, .int .i64 t, .int .i64 i, .int .i64 s, .int .i64 d, .int .i64 a, .bool m, .slice Ax l.length capx].toArray 24 (0, 0))], [(rb, .cells [.int .i64 0, .int .i64 0, .int .i64 0, .int .i64 0, .int .i64 0, .int .i64 0, .bool false, .slice none 0 0].toArray 24 (0, 0))], RL.flatMap (·.c)] := by
  conv => arg 6; whnf
  repeat' (first | ((with_reducible refine at_op ?_); ((with_reducible refine at_assign ?_); refine sx_assign _ vf ?_)) | refine sx_nil ?_ | ((with_reducible refine at_code ?_); first | refine cx_seq ?_ | refine cx_region ?_ | refine cx_block ?_) | ((with_reducible refine at_exit ?_); refine qx_then ?_))
  refine cx_loop (fun mm fr L => ∃ (ii : Nat) (kk : Int), FF fr [(0, .pointer (some ⟨mb, 0, none⟩)), (2, .int .i64 u), (4, .pointer (some ⟨xb, 0, none⟩)), (6, .pointer (some ⟨rb, 0, none⟩)), (10, .int .i64 kk), (11, .int .i64 ii)] ∧ L = [[(mb, .cells [.int .i64 life, .int .i64 u, .slice A RL.length cap].toArray 42 (0, 0))], cL, [(xb, .cells [.int .i64 k, .int .i64 t, .int .i64 i, .int .i64 s, .int .i64 d, .int .i64 a, .bool m, .slice Ax l.length capx].toArray 24 (0, 0))], [(rb, .cells [.int .i64 0, .int .i64 0, .int .i64 0, .int .i64 0, .int .i64 0, .int .i64 0, .bool false, .slice none 0 0].toArray 24 (0, 0))], RL.flatMap (·.c)] ∧ ((kk = -1 ∧ ∀ jj, jj < ii → ∀ y, RL[jj]? = some y → y.key ≠ (k, s, d, i)) ∨ ∃ (jj : Nat) (y : Rh), jj < ii ∧ kk = jj ∧ RL[jj]? = some y ∧ y.key = (k, s, d, i)) ∧ ii ≤ RL.length ∧ mm = RL.length - ii) RL.length ⟨0, -1, ffr, rfl, .inl ⟨rfl, fun jj hj => by omega⟩, by omega, rfl⟩ ?_
  rintro mm fr L ⟨ii, kk, hF, rfl, hkk, hi, rfl⟩ K hK
  refine cx_use hF fun g => ?_
  clear hF
  by_cases hin : ii < RL.length
  · obtain ⟨y, hy⟩ : ∃ y, RL[ii]? = some y := ⟨_, List.getElem?_eq_getElem hin⟩
    have hv : ∀ jj v, y.row[jj]? = some v → (RL.flatMap Rh.row)[(ii : Int).toNat * 11 + jj]? = some v := fun jj v h => by rw [Int.toNat_natCast]; exact flat_get (f := Rh.row) (q := 11) rows11 hy h
    have hvo : ∀ jj v, y.o.row[jj]? = some v → (RL.flatMap Rh.row)[(ii : Int).toNat * 11 + jj]? = some v := fun jj v h => hv jj v (by
      unfold Rh.row
      rw [List.getElem?_append_left ((List.getElem?_eq_some_iff.1 h).1)]
      exact h)
    obtain ⟨bA, hbA⟩ := hL.base'
    have hA := hbA (by omega)
    repeat' (first | ((with_reducible refine at_ixaddr ?_); refine sx_indexQ rfl hA rfl (by omega) ?_) | ((with_reducible refine at_load ?_); refine sx_loadSA 1 ((ii : Int).toNat * 11) y.o.row rfl hL hA (by omega) (by omega) rfl rfl hvo ?_) | ((with_reducible refine at_op ?_); first | ((with_reducible refine at_guard ?_); first | refine sx_want rfl rfl rfl ras ?_ | refine sx_skip rfl rfl rfl ras ?_ | (refine sx_andG rfl rfl rfl rfl rfl rfl ?_ (fun hb K hK => ?_); apply Exists.intro; refine And.intro (fun hb K hK => ?_) (fun g => ?_))) | ((with_reducible refine at_move ?_); refine sx_move _ vf ?_) | ((with_reducible refine at_bin ?_); first | refine sx_lss rfl rfl ?_ | refine sx_eql rfl rfl ?_ | refine sx_add rfl rfl bnd ?_) | ((with_reducible refine at_assign ?_); refine sx_assign _ vf ?_) | ((with_reducible refine at_load ?_); refine sx_loadE rfl pc gv ?_) | ((with_reducible refine at_stores ?_); first | refine sx_stval _ vf ?_ | refine sx_storeW rfl rfl rfl rfl ?_) | refine sx_nilCheck rfl ?_ | refine sx_fieldAddr rfl ?_ | refine sx_len rfl ?_ | (refine sx_alloc ?_; intro b)) | refine sx_nil ?_ | ((with_reducible refine at_grp ?_); refine sx_grpC rfl ?_) | ((with_reducible refine at_aft ?_); first | refine sx_aftN rfl ?_ | refine sx_aftC rfl ?_) | ((with_reducible refine at_code ?_); first | refine cx_seq ?_ | refine cx_region ?_ | refine cx_skip ?_ | refine cx_block ?_ | (refine cx_cond rfl (fun h => ?_) (fun h => ?_) <;> (try simp only [decide_eq_true_eq, decide_eq_false_iff_not, Bool.and_eq_true, Bool.or_eq_true, Bool.and_eq_false_iff, Bool.or_eq_false_iff, Bool.not_eq_true', Bool.not_eq_false', Bool.not_true, Bool.not_false, Bool.true_or, Bool.or_true, Bool.false_or, Bool.or_false, Bool.and_true, Bool.true_and, Bool.false_and, Bool.and_false, reduceCtorEq, Classical.not_not, beq_self_eq_true, bne_self_eq_false, not_true_eq_false, not_false_eq_true, or_false, false_or, or_true, true_or, and_true, true_and, and_false, false_and, or_self, and_self] at h) <;> (try (exfalso; omega)))) | ((with_reducible refine at_exit ?_); first | refine qx_then ?_ | ((with_reducible refine at_K ?_); first | exact hK _ _ _ rfl ⟨rfl, rfl⟩ rfl | exact hK _ _ _ rfl rfl ⟨rfl, rfl⟩ rfl) | refine qx_in_normal ?_))
    all_goals try (exfalso; omega)
    · refine qx_mem (L' := [_, _, _, _, _]) ?_ (fun w hm => hm.picks [1, 1, 1, 1, 1])
      have hk2 : y.key = (k, s, d, i) := by
        unfold Rh.key
        simp only [Prod.mk.injEq]
        omega
      exact hK (RL.length - (ii + 1)) _ _ _ (by omega) ⟨ii + 1, ii, ffr, rfl, .inr ⟨ii, y, by omega, rfl, hy, hk2⟩, by omega, rfl⟩
    · refine qx_mem (L' := [_, _, _, _, _]) ?_ (fun w hm => hm.picks [1, 1, 1, 1, 1])
      have hk2 : y.key ≠ (k, s, d, i) := by
        unfold Rh.key
        simp only [ne_eq, Prod.mk.injEq]
        omega
      refine hK (RL.length - (ii + 1)) _ _ _ (by omega) ⟨ii + 1, kk, ffr, rfl, ?_, by omega, rfl⟩
      rcases hkk with ⟨h1, h2⟩ | ⟨jj, y', h1, h2, h3, h4⟩
      · refine .inl ⟨h1, fun jj hj y' hy' => ?_⟩
        by_cases hjj : jj = ii
        · rw [hjj, hy] at hy'
          obtain rfl := Option.some.inj hy'
          exact hk2
        · exact h2 jj (by omega) y' hy'
      · exact .inr ⟨jj, y', by omega, h2, h3, h4⟩
  clear hK
  obtain rfl : ii = RL.length := by omega
  rcases hkk with ⟨rfl, hno⟩ | ⟨jj, y, hj1, rfl, hj2, hj3⟩
  · have hno' : ∀ x ∈ RL, x.key ≠ (k, s, d, i) := fun x hx => by
      obtain ⟨jj, hj⟩ := List.getElem?_of_mem hx
      exact hno jj (List.getElem?_eq_some_iff.1 hj).1 x hj
    clear hno hrel hRy
    repeat' (first | (with_reducible refine stop_r 20 ?_) | ((with_reducible refine at_op ?_); first | ((with_reducible refine at_move ?_); refine sx_move _ vf ?_) | ((with_reducible refine at_bin ?_); first | refine sx_lss rfl rfl ?_ | refine sx_geq rfl rfl ?_) | ((with_reducible refine at_assign ?_); refine sx_assign _ vf ?_) | ((with_reducible refine at_load ?_); refine sx_loadE rfl pc gv ?_) | ((with_reducible refine at_stores ?_); first | refine sx_stval _ vf ?_ | (refine sx_rot rot3 ?_; refine sx_storeW rfl rfl rfl rfl ?_)) | refine sx_nilCheck rfl ?_ | refine sx_fieldAddr rfl ?_ | ((with_reducible refine at_build ?_); refine sx_build _ blds ?_) | refine sx_len rfl ?_) | refine sx_nil ?_ | ((with_reducible refine at_code ?_); first | refine cx_seq ?_ | refine cx_region ?_ | refine cx_skip ?_ | refine cx_ret ?_ | refine cx_exit ?_ | refine cx_true rfl ?_ | (refine cx_cond rfl (fun h => ?_) (fun h => ?_) <;> (try simp only [decide_eq_true_eq, decide_eq_false_iff_not, Bool.and_eq_true, Bool.or_eq_true, Bool.and_eq_false_iff, Bool.or_eq_false_iff, Bool.not_eq_true', Bool.not_eq_false', Bool.not_true, Bool.not_false, Bool.true_or, Bool.or_true, Bool.false_or, Bool.or_false, Bool.and_true, Bool.true_and, Bool.false_and, Bool.and_false, reduceCtorEq, Classical.not_not, beq_self_eq_true, bne_self_eq_false, not_true_eq_false, not_false_eq_true, or_false, false_or, or_true, true_or, and_true, true_and, and_false, false_and, or_self, and_self] at h) <;> (try (exfalso; omega)))) | ((with_reducible refine at_exit ?_); first | refine qx_then ?_ | refine qx_in_here ?_ | refine qx_then_ret ?_ | refine qx_then_exit ?_))
    all_goals try (exfalso; omega)
    · exact qx_retC3 0 [rpC life u mb A cap cL RL] rfl rfl rfl rfl rfl rfl (hRf hno' (by omega)) (fun w hm => (hm.picks [1, 1, 2]).perm (by simp [rpC, Port.picks]))
    refine halt_go ?_
    have hlt : RL.length < 8 := by omega
    have hRn' := hRn hno' hlt
    refine cx_mem (L' := [_, _, _, _, _]) ?_ (fun w hm => hm.picks [2, 0, 0, 0, 0])
    repeat' (first | (with_reducible refine stop_rss 21 ?_) | ((with_reducible refine at_reg 20 ?_); refine cx_heldA dk ?_) | ((with_reducible refine at_held ?_); first | (refine ah_not 0 rfl ?_; refine ah_isp 0 rfl ?_; refine ah_at 0 dk (fun hT => ?_); first | (refine ah_pure 0 (o := ⟨_, _, _, _, _, _⟩) hT rfl rfl rfl rfl rfl ?_; apply Exists.intro; refine And.intro ?_ ?_) | refine ah_nil 0 hT rfl rfl ?_ | refine ah_skip 0 (o := ⟨_, _, _, _, _, _⟩) hT rfl rfl rfl rfl rfl rfl ras ?_ | (refine ah_pureW 0 (o := ⟨_, _, _, _, _, _⟩) hT rfl rfl rfl rfl rfl rfl rfl rfl ras ?_; apply Exists.intro; refine And.intro ?_ ?_)) | (refine ah_not 1 rfl ?_; refine ah_isp 1 rfl ?_; refine ah_at 1 dk (fun hT => ?_); first | (refine ah_pure 1 (o := ⟨_, _, _, _, _, _⟩) hT rfl rfl rfl rfl rfl ?_; apply Exists.intro; refine And.intro ?_ ?_) | refine ah_nil 1 hT rfl rfl ?_ | refine ah_skip 1 (o := ⟨_, _, _, _, _, _⟩) hT rfl rfl rfl rfl rfl rfl ras ?_ | (refine ah_pureW 1 (o := ⟨_, _, _, _, _, _⟩) hT rfl rfl rfl rfl rfl rfl rfl rfl ras ?_; apply Exists.intro; refine And.intro ?_ ?_)) | (refine ah_not 2 rfl ?_; refine ah_isp 2 rfl ?_; refine ah_at 2 dk (fun hT => ?_); first | (refine ah_pure 2 (o := ⟨_, _, _, _, _, _⟩) hT rfl rfl rfl rfl rfl ?_; apply Exists.intro; refine And.intro ?_ ?_) | refine ah_nil 2 hT rfl rfl ?_ | refine ah_skip 2 (o := ⟨_, _, _, _, _, _⟩) hT rfl rfl rfl rfl rfl rfl ras ?_ | (refine ah_pureW 2 (o := ⟨_, _, _, _, _, _⟩) hT rfl rfl rfl rfl rfl rfl rfl rfl ras ?_; apply Exists.intro; refine And.intro ?_ ?_)) | (refine ah_not 3 rfl ?_; refine ah_isp 3 rfl ?_; refine ah_at 3 dk (fun hT => ?_); first | (refine ah_pure 3 (o := ⟨_, _, _, _, _, _⟩) hT rfl rfl rfl rfl rfl ?_; apply Exists.intro; refine And.intro ?_ ?_) | refine ah_nil 3 hT rfl rfl ?_ | refine ah_skip 3 (o := ⟨_, _, _, _, _, _⟩) hT rfl rfl rfl rfl rfl rfl ras ?_ | (refine ah_pureW 3 (o := ⟨_, _, _, _, _, _⟩) hT rfl rfl rfl rfl rfl rfl rfl rfl ras ?_; apply Exists.intro; refine And.intro ?_ ?_)) | (refine ah_not 5 rfl ?_; refine ah_isp 5 rfl ?_; refine ah_at 5 dk (fun hT => ?_); first | (refine ah_pure 5 (o := ⟨_, _, _, _, _, _⟩) hT rfl rfl rfl rfl rfl ?_; apply Exists.intro; refine And.intro ?_ ?_) | refine ah_nil 5 hT rfl rfl ?_ | refine ah_skip 5 (o := ⟨_, _, _, _, _, _⟩) hT rfl rfl rfl rfl rfl rfl ras ?_ | (refine ah_pureW 5 (o := ⟨_, _, _, _, _, _⟩) hT rfl rfl rfl rfl rfl rfl rfl rfl ras ?_; apply Exists.intro; refine And.intro ?_ ?_)) | (refine ah_not 6 rfl ?_; refine ah_isp 6 rfl ?_; refine ah_at 6 dk (fun hT => ?_); first | (refine ah_pure 6 (o := ⟨_, _, _, _, _, _⟩) hT rfl rfl rfl rfl rfl ?_; apply Exists.intro; refine And.intro ?_ ?_) | refine ah_nil 6 hT rfl rfl ?_ | refine ah_skip 6 (o := ⟨_, _, _, _, _, _⟩) hT rfl rfl rfl rfl rfl rfl ras ?_ | (refine ah_pureW 6 (o := ⟨_, _, _, _, _, _⟩) hT rfl rfl rfl rfl rfl rfl rfl rfl ras ?_; apply Exists.intro; refine And.intro ?_ ?_)) | (refine ah_not 7 rfl ?_; refine ah_isp 7 rfl ?_; refine ah_at 7 dk (fun hT => ?_); first | (refine ah_pure 7 (o := ⟨_, _, _, _, _, _⟩) hT rfl rfl rfl rfl rfl ?_; apply Exists.intro; refine And.intro ?_ ?_) | refine ah_nil 7 hT rfl rfl ?_ | refine ah_skip 7 (o := ⟨_, _, _, _, _, _⟩) hT rfl rfl rfl rfl rfl rfl ras ?_ | (refine ah_pureW 7 (o := ⟨_, _, _, _, _, _⟩) hT rfl rfl rfl rfl rfl rfl rfl rfl ras ?_; apply Exists.intro; refine And.intro ?_ ?_)) | (refine ah_not 10 rfl ?_; refine ah_isp 10 rfl ?_; refine ah_at 10 dk (fun hT => ?_); first | (refine ah_pure 10 (o := ⟨_, _, _, _, _, _⟩) hT rfl rfl rfl rfl rfl ?_; apply Exists.intro; refine And.intro ?_ ?_) | refine ah_nil 10 hT rfl rfl ?_ | refine ah_skip 10 (o := ⟨_, _, _, _, _, _⟩) hT rfl rfl rfl rfl rfl rfl ras ?_ | (refine ah_pureW 10 (o := ⟨_, _, _, _, _, _⟩) hT rfl rfl rfl rfl rfl rfl rfl rfl ras ?_; apply Exists.intro; refine And.intro ?_ ?_)) | (refine ah_not 11 rfl ?_; refine ah_isp 11 rfl ?_; refine ah_at 11 dk (fun hT => ?_); first | (refine ah_pure 11 (o := ⟨_, _, _, _, _, _⟩) hT rfl rfl rfl rfl rfl ?_; apply Exists.intro; refine And.intro ?_ ?_) | refine ah_nil 11 hT rfl rfl ?_ | refine ah_skip 11 (o := ⟨_, _, _, _, _, _⟩) hT rfl rfl rfl rfl rfl rfl ras ?_ | (refine ah_pureW 11 (o := ⟨_, _, _, _, _, _⟩) hT rfl rfl rfl rfl rfl rfl rfl rfl ras ?_; apply Exists.intro; refine And.intro ?_ ?_)) | (refine ah_not 4 rfl ?_; refine ah_not 8 rfl ?_; refine ah_both 4 8 (o := ⟨_, _, _, _, _, _⟩) (o' := ⟨_, _, _, _, _, _⟩) dk rfl rfl ?_ ?_) | (refine ah_not 4 rfl ?_; refine ah_lone 4 (o := ⟨_, _, _, _, _, _⟩) dk rfl ?_) | (refine ah_not 8 rfl ?_; refine ah_lone 8 (o := ⟨_, _, _, _, _, _⟩) dk rfl ?_) | (refine ah_not 9 rfl ?_; refine ah_lone 9 (o := ⟨_, _, _, _, _, _⟩) dk rfl ?_) | (refine ah_not 12 rfl ?_; refine ah_lone 12 (o := ⟨_, _, _, _, _, _⟩) dk rfl ?_) | refine ah_over1 dk ?_) | ((with_reducible refine at_build ?_); refine sx_build [.int .i64 k, .int .i64 t, .int .i64 i, .int .i64 s, .int .i64 d, .int .i64 a, .bool m, .slice Ax l.length capx, .int .i64 u, .bool false, .slice none 0 0] rfl ?_) | ((with_reducible refine at_append ?_); refine sx_append (v := .slice A _ _) (ys := [.int .i64 k, .int .i64 t, .int .i64 i, .int .i64 s, .int .i64 d, .int .i64 a, .bool m, .slice Ax l.length capx, .int .i64 u, .bool false, .slice none 0 0]) rfl rfl rot3 hL (fun w hm => lit_row (hm.at 2 rfl) rfl) (fun u hu => rows_one11 (l := [⟨(⟨k, t, i, s, d, a, m, Ax, l.length, capx, l⟩ : Pk), _, false, none, 0, 0, [], []⟩]) u (by simpa [Rh.row, Pk.row] using hu)) (by omega) ?_; intro v c' ho; obtain ⟨A', cap', rfl, hcp⟩ := ho.len) | ((with_reducible refine at_exit ?_); first | refine qx_held (fun w hm => hm) ?_ | refine qx_held (fun w hm => held_mid1 hm) ?_) | ((with_reducible refine at_op ?_); first | ((with_reducible refine at_move ?_); refine sx_move _ vf ?_) | ((with_reducible refine at_load ?_); first | refine sx_loadE rfl pc gv ?_ | refine sx_loadWE rfl pc gl ?_) | ((with_reducible refine at_stores ?_); first | refine sx_stval _ vf ?_ | (refine sx_rot rot3 ?_; (apply sx_store rfl rfl rfl rfl; (repeat (first | exact set_z rfl | apply set_succ))))) | refine sx_fieldAddr rfl ?_ | ((with_reducible refine at_buildS ?_); (refine sx_buildS _ rfl rfl rfl bcs rfl ?_; intro b))) | refine sx_nil ?_ | ((with_reducible refine at_exit ?_); first | refine qx_then ?_ | exact qx_isF))
    all_goals try (exfalso; omega)
    all_goals
      refine halt_go ?_
      have eln : (RL ++ [(⟨(⟨k, t, i, s, d, a, m, Ax, l.length, capx, l⟩ : Pk), u, false, none, 0, 0, [], []⟩ : Rh)]).length = RL.length + 1 := by rw [List.length_append, List.length_singleton]
      have hOw : OwnR A' cap' c' (RL ++ [(⟨(⟨k, t, i, s, d, a, m, Ax, l.length, capx, l⟩ : Pk), u, false, none, 0, 0, [], []⟩ : Rh)]) := by
        unfold OwnR
        rw [eln, List.flatMap_append, List.flatMap_cons, List.flatMap_nil, List.append_nil]
        exact ho
      have rest := rin' (k := k) (t := t) (i := i) (s := s) (d := d) (a := a) (m := m) (P := RL) (S := []) (y := (⟨(⟨k, t, i, s, d, a, m, Ax, l.length, capx, l⟩ : Pk), u, false, none, 0, 0, [], []⟩ : Rh)) (h0 := newH u t) (xb := xb) (rb := rb) (R := R) (D := D) (w := w) (by rw [eln]; omega) hOw ⟨OwnS.nil _ _, rfl, (show (0 : Nat) ≤ 50000 by decide), (fun p hp => by cases hp), hu⟩ hxf (fun p hp {w'} hm => by
        obtain rfl : p = (⟨k, t, i, s, d, a, m, Ax, l.length, capx, l⟩ : Pk) := by simpa using hp
        exact hbodx hm) rfl (fun _ => ⟨HeapR.new, fun _ => rfl⟩) hRn'
      rw [eln, List.append_nil] at rest
      refine cx_mem (L' := [_, _, _, _, _]) ?_ (fun w hm => hm.picks [1, 1, 0, 1, 1])
      refine cx_mem (L' := [_, _, _, _, [], _]) ?_ (fun w hm => hm.perm (.refl _))
      exact cx_fold (cx_use ffr fun g => rest g)
  · obtain ⟨P, S, rfl, hPl⟩ : ∃ P S, RL = P ++ y :: S ∧ P.length = jj := by
      obtain ⟨hlt, he⟩ := List.getElem?_eq_some_iff.1 hj2
      refine ⟨RL.take jj, RL.drop (jj + 1), ?_, by rw [List.length_take]; omega⟩
      rw [← he, ← List.drop_eq_getElem_cons hlt, List.take_append_drop]
    subst hPl
    have hym : y ∈ P ++ y :: S := List.mem_append.2 (.inr (List.Mem.head _))
    obtain ⟨hr1, hr2⟩ := hrel y hym hj3
    have rest := rin' (xb := xb) (rb := rb) (R := R) (D := D) (w := w) (by omega) hL (hok y hym) hxf (fun p hp {w'} hm => by
      rcases List.mem_append.1 hp with hp | hp
      · exact hbod y hym p hp hm
      · obtain rfl : p = (⟨k, t, i, s, d, a, m, Ax, l.length, capx, l⟩ : Pk) := by simpa using hp
        exact hbodx hm) hr1 hr2 (hRy P S y rfl hj3)
    clear hRf hRn
    repeat' (first | (with_reducible refine stop_rss 21 ?_) | ((with_reducible refine at_op ?_); first | ((with_reducible refine at_move ?_); refine sx_move _ vf ?_) | ((with_reducible refine at_bin ?_); refine sx_lss rfl rfl ?_) | ((with_reducible refine at_load ?_); refine sx_loadE rfl pc gv ?_) | refine sx_nilCheck rfl ?_ | refine sx_fieldAddr rfl ?_ | refine sx_len rfl ?_) | refine sx_nil ?_ | ((with_reducible refine at_code ?_); first | refine cx_seq ?_ | refine cx_region ?_ | refine cx_skip ?_ | refine cx_exit ?_ | refine cx_false rfl ?_ | (refine cx_cond rfl (fun h => ?_) (fun h => ?_) <;> (try simp only [decide_eq_true_eq, decide_eq_false_iff_not, Bool.and_eq_true, Bool.or_eq_true, Bool.and_eq_false_iff, Bool.or_eq_false_iff, Bool.not_eq_true', Bool.not_eq_false', Bool.not_true, Bool.not_false, Bool.true_or, Bool.or_true, Bool.false_or, Bool.or_false, Bool.and_true, Bool.true_and, Bool.false_and, Bool.and_false, reduceCtorEq, Classical.not_not, beq_self_eq_true, bne_self_eq_false, not_true_eq_false, not_false_eq_true, or_false, false_or, or_true, true_or, and_true, true_and, and_false, false_and, or_self, and_self] at h) <;> (try (exfalso; omega)))) | ((with_reducible refine at_exit ?_); first | refine qx_then ?_ | refine qx_in_here ?_ | refine qx_then_exit ?_))
    all_goals try (exfalso; omega)
    refine halt_go ?_
    refine cx_mem ?_ (fun w hm => heaps_out hm)
    exact cx_fold (cx_use ffr fun g => rest g)
end Go.Proofs.YtlpdapfihgpheaaDoor
