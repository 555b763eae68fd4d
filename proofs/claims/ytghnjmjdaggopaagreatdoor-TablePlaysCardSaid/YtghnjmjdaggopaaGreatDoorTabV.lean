/- The document's table: later, Drop, Get. -/
import Derived.Test.YtghnjmjdaggopaaGreatDoorTabU
import Derived.Test.YtghnjmjdaggopaaGreatDoorFuF
set_option linter.unusedSimpArgs false
set_option linter.unusedVariables false
set_option maxRecDepth 100000
namespace Go.Port
open Go.RowKit
theorem RowIn.sl {w w' : World} {lb m cap : Nat} {A : Option Addr} {l : List Fl} {D : List Nat} {L : List Ch} (h : RowIn w lb A m l) (hm : Mem w w' D L) (hD : ∀ d ∈ D, d = lb) (hml : m = l.length) (hc : m ≤ cap) : IsSl w' 15 A m cap (rowsG Fl.row l) := by
  refine ⟨by rw [rowsG_len row_len, hml], ?_⟩
  obtain ⟨b, o, h⟩ := h.mem hm hD
  by_cases h0 : 0 < m
  · obtain ⟨h1, h2, _, h4⟩ := h h0
    exact .inr ⟨b, o, h1, h2, hc, h4⟩
  · exact .inl (by omega)
theorem rowF_one (d : List Fl) : ∀ u ∈ rowsG Fl.row d, u.oneCell' = true := fun u hu => by
  obtain ⟨x, _, hx⟩ := List.mem_flatMap.1 hu
  simp [Fl.row] at hx
  rcases hx with rfl | rfl | rfl | rfl | rfl | rfl | rfl | rfl | rfl | rfl | rfl | rfl | rfl | rfl | rfl <;> rfl
section
variable {P : Program} {w0 : World} {D : List Nat} {n q : Nat} {ops : Array Oper} {Q : Exit → Act → World → Prop} {g : Nat → Value} {F : List (Nat × Value)} {L : List Ch} {rest : List Oper} {c1 c2 c3 : Ch}
theorem sx_app3 (h : SX P w0 D n q ops Q rest g F (c1 :: c2 :: c3 :: L)) : SX P w0 D n q ops Q rest g F ([c1, c2, c3] ++ L) := h
end
end Go.Port
namespace Go.Proofs.YtghnjmjdaggopaaGreatDoor
open Go.RowKit Go.Port
attribute [local irreducible] Calls
set_option maxHeartbeats 8000000 in
theorem ref_later {max tn : Int} {lb m cap : Nat} {AL : Option Addr} {l : List Fl} (now : Int) {w : World} (h0 : w.heap[lb]? = some (.cells [.int .i64 max, .int .i64 tn, .slice AL m cap].toArray 33 (0, 0))) (hr : RowIn w lb AL m l) (hm0 : m = l.length) (hmb : m ≤ 100) (ht : timE tn now = 0) :
    Calls Tryz.prog 27 #[.pointer (some ⟨lb, 0, none⟩), .int .i64 now] w (Ret w [] (fun v L => ∃ (xb : Nat) (A' : Option Addr) (cap' : Nat) (c' : Ch), v = .pointer (some ⟨xb, 0, none⟩) ∧ L = [[(xb, .cells [.int .i64 max, .int .i64 now, .slice A' (stayL now l).length cap'].toArray 33 (0, 0))], c'] ∧ OwnS 45 15 (.slice A' (stayL now l).length cap') (stayL now l).length (rowsG Fl.row (stayL now l)) c')) := by
  refine cx_enter (args := [.pointer (some ⟨lb, 0, none⟩), .int .i64 now]) (F := [(0, .pointer (some ⟨lb, 0, none⟩)), (1, .int .i64 now)]) _ [] Tryz.func27 rfl Tryz.ntmps27 (by simp) rfl (Mem.refl _) (fun g => ?_)
  repeat' (first | ((with_reducible refine at_reg 1 ?_); refine cx_held0 dk ?_) | ((with_reducible refine at_held ?_); first | (refine ah_not 0 rfl ?_; refine ah_isp 0 rfl ?_; refine ah_at 0 dk (fun hT => ?_); (refine ah_pure 0 (o := ⟨_, _, _, _, _, _⟩) hT rfl rfl rfl rfl rfl ?_; apply Exists.intro; refine And.intro ?_ ?_)) | (refine ah_not 1 rfl ?_; refine ah_isp 1 rfl ?_; refine ah_at 1 dk (fun hT => ?_); refine ah_nil 1 hT rfl rfl ?_) | (refine ah_not 2 rfl ?_; refine ah_isp 2 rfl ?_; refine ah_at 2 dk (fun hT => ?_); (refine ah_pure 2 (o := ⟨_, _, _, _, _, _⟩) hT rfl rfl rfl rfl rfl ?_; apply Exists.intro; refine And.intro ?_ ?_)) | (refine ah_not 3 rfl ?_; refine ah_isp 3 rfl ?_; refine ah_at 3 dk (fun hT => ?_); (refine ah_pure 3 (o := ⟨_, _, _, _, _, _⟩) hT rfl rfl rfl rfl rfl ?_; apply Exists.intro; refine And.intro ?_ ?_)) | (refine ah_not 4 rfl ?_; refine ah_isp 4 rfl ?_; refine ah_at 4 dk (fun hT => ?_); (refine ah_pure 4 (o := ⟨_, _, _, _, _, _⟩) hT rfl rfl rfl rfl rfl ?_; apply Exists.intro; refine And.intro ?_ ?_)) | (refine ah_not 5 rfl ?_; refine ah_isp 5 rfl ?_; refine ah_at 5 dk (fun hT => ?_); refine ah_nil 5 hT rfl rfl ?_) | (refine ah_not 6 rfl ?_; refine ah_isp 6 rfl ?_; refine ah_at 6 dk (fun hT => ?_); (refine ah_pure 6 (o := ⟨_, _, _, _, _, _⟩) hT rfl rfl rfl rfl rfl ?_; apply Exists.intro; refine And.intro ?_ ?_)) | (refine ah_not 7 rfl ?_; refine ah_isp 7 rfl ?_; refine ah_at 7 dk (fun hT => ?_); (refine ah_pure 7 (o := ⟨_, _, _, _, _, _⟩) hT rfl rfl rfl rfl rfl ?_; apply Exists.intro; refine And.intro ?_ ?_)) | (refine ah_not 8 rfl ?_; refine ah_isp 8 rfl ?_; refine ah_at 8 dk (fun hT => ?_); (refine ah_pure 8 (o := ⟨_, _, _, _, _, _⟩) hT rfl rfl rfl rfl rfl ?_; apply Exists.intro; refine And.intro ?_ ?_)) | (refine ah_not 9 rfl ?_; refine ah_isp 9 rfl ?_; refine ah_at 9 dk (fun hT => ?_); refine ah_nil 9 hT rfl rfl ?_) | (refine ah_not 10 rfl ?_; refine ah_isp 10 rfl ?_; refine ah_at 10 dk (fun hT => ?_); (refine ah_pure 10 (o := ⟨_, _, _, _, _, _⟩) hT rfl rfl rfl rfl rfl ?_; apply Exists.intro; refine And.intro ?_ ?_)) | (refine ah_not 11 rfl ?_; refine ah_isp 11 rfl ?_; refine ah_at 11 dk (fun hT => ?_); (refine ah_pure 11 (o := ⟨_, _, _, _, _, _⟩) hT rfl rfl rfl rfl rfl ?_; apply Exists.intro; refine And.intro ?_ ?_)) | (refine ah_not 12 rfl ?_; refine ah_isp 12 rfl ?_; refine ah_at 12 dk (fun hT => ?_); (refine ah_pure 12 (o := ⟨_, _, _, _, _, _⟩) hT rfl rfl rfl rfl rfl ?_; apply Exists.intro; refine And.intro ?_ ?_)) | (refine ah_not 14 rfl ?_; refine ah_isp 14 rfl ?_; refine ah_at 14 dk (fun hT => ?_); (refine ah_pure 14 (o := ⟨_, _, _, _, _, _⟩) hT rfl rfl rfl rfl rfl ?_; apply Exists.intro; refine And.intro ?_ ?_)) | (refine ah_not 13 rfl ?_; refine ah_lone 13 (o := ⟨_, _, _, _, _, _⟩) dk rfl ?_) | refine ah_over0 dk ?_) | ((with_reducible refine at_load ?_); refine sx_loadB rfl h0 rfl ?_) | ((with_reducible refine at_build ?_); refine sx_build [.int .i64 max, .int .i64 tn, .slice AL m cap] rfl ?_) | ((with_reducible refine at_call 16 ?_); (first | (refine sx_rot rot0 ?_; refine sx_call (fun w hm => ref_LTick now rfl hm.self (RowIn.new hr hm) hm0 hmb ht) ?_) | (refine sx_rot rot1 ?_; refine sx_call (fun w hm => ref_LTick now rfl hm.self (RowIn.new hr hm) hm0 hmb ht) ?_) | (refine sx_rot rot2 ?_; refine sx_call (fun w hm => ref_LTick now rfl hm.self (RowIn.new hr hm) hm0 hmb ht) ?_) | (refine sx_rot rot3 ?_; refine sx_call (fun w hm => ref_LTick now rfl hm.self (RowIn.new hr hm) hm0 hmb ht) ?_) | (refine sx_rot rot4 ?_; refine sx_call (fun w hm => ref_LTick now rfl hm.self (RowIn.new hr hm) hm0 hmb ht) ?_) | (refine sx_rot rot5 ?_; refine sx_call (fun w hm => ref_LTick now rfl hm.self (RowIn.new hr hm) hm0 hmb ht) ?_)); rintro _ _ ⟨gs, Ag, cg, cgs, A', cap', c', rfl, rfl, ho1, ho2, hso, hgp⟩; refine sx_app3 ?_) | ((with_reducible refine at_exit ?_); refine qx_held (fun w hm => hm) ?_) | ((with_reducible refine at_op ?_); first | ((with_reducible refine at_move ?_); refine sx_move _ vf ?_) | ((with_reducible refine at_assign ?_); refine sx_assign _ vf ?_) | refine sx_fieldAddr rfl ?_ | (refine sx_box rfl ?_; intro b)) | refine sx_nil ?_ | ((with_reducible refine at_code ?_); first | refine cx_seq ?_ | refine cx_region ?_ | refine cx_ret ?_) | ((with_reducible refine at_exit ?_); first | refine qx_then ?_ | exact qx_isF))
  all_goals try (exfalso; omega)
  all_goals exact qx_ret1 (v := .pointer _) [[(b, .cells [.int .i64 max, .int .i64 now, .slice A' (stayL now l).length cap'].toArray 33 (0, 0))], c'] rfl rfl ⟨b, A', cap', c', rfl, rfl, ho1⟩ (fun w hm => by exact hm.picks [0, 0])
/-- Where a key's flow stands. -/
theorem lat_yes {m : Nat} {l : List Fl} {k s f d t : Int} {z : Fl} (hf : findF ⟨k, s, f, d, t⟩ l = some z) (hm0 : m = l.length) (hmb : m ≤ 100) : ∃ i : Nat, l[i]? = some z ∧ z.fk = K5.first ⟨k, s, f, d, t⟩ ∧ ∀ (max tn : Int) (lb cap : Nat) (AL : Option Addr) (w : World), w.heap[lb]? = some (.cells [.int .i64 max, .int .i64 tn, .slice AL m cap].toArray 33 (0, 0)) → RowIn w lb AL m l → Calls Tryz.prog 28 #[.pointer (some ⟨lb, 0, none⟩), .agg #[.int .i64 k, .int .i64 s, .int .i64 f, .int .i64 d, .int .i64 t]] w (Ret w [] (isV (.int .i64 (i : Int)))) := by
  obtain ⟨i, hi, hk, hb⟩ := findF_some hf
  exact ⟨i, hi, hk, fun max tn lb cap AL w h0 hr => ref_lat k s f d t i i h0 hr hm0 hmb (.inr ⟨rfl, z, hi, hk⟩) hb⟩
theorem lat_no {m : Nat} {l : List Fl} {k s f d t : Int} (hf : findF ⟨k, s, f, d, t⟩ l = none) (hm0 : m = l.length) (hmb : m ≤ 100) : ∀ (max tn : Int) (lb cap : Nat) (AL : Option Addr) (w : World), w.heap[lb]? = some (.cells [.int .i64 max, .int .i64 tn, .slice AL m cap].toArray 33 (0, 0)) → RowIn w lb AL m l → Calls Tryz.prog 28 #[.pointer (some ⟨lb, 0, none⟩), .agg #[.int .i64 k, .int .i64 s, .int .i64 f, .int .i64 d, .int .i64 t]] w (Ret w [] (isV (.int .i64 (-1)))) :=
  fun max tn lb cap AL w h0 hr => ref_lat k s f d t m (-1) h0 hr hm0 hmb (.inl ⟨rfl, rfl⟩) (fun j _ y hy => findF_none hf y (List.mem_of_getElem? hy))
set_option maxHeartbeats 8000000 in
theorem ref_LGet {max tn : Int} {lb m cap : Nat} {AL : Option Addr} {l : List Fl} (k s f d t : Int) {w : World} (h0 : w.heap[lb]? = some (.cells [.int .i64 max, .int .i64 tn, .slice AL m cap].toArray 33 (0, 0))) (hr : RowIn w lb AL m l) (hm0 : m = l.length) (hmb : m ≤ 100) :
    Calls Tryz.prog 19 #[.pointer (some ⟨lb, 0, none⟩), .agg #[.int .i64 k, .int .i64 s, .int .i64 f, .int .i64 d, .int .i64 t]] w (Ret w [] (isV (match findF ⟨k, s, f, d, t⟩ l with
    | some z => .tuple #[.agg z.row.toArray, .bool true]
    | none => .tuple #[.agg Fl.zero.row.toArray, .bool false]))) := by
  have hrm := fun {w' : World} {L : List Ch} (hm : Mem w w' [] L) => hr.mem hm (by simp)
  refine cx_enter (args := [.pointer (some ⟨lb, 0, none⟩), .agg #[.int .i64 k, .int .i64 s, .int .i64 f, .int .i64 d, .int .i64 t]]) (F := [(0, .pointer (some ⟨lb, 0, none⟩)), (1, .agg #[.int .i64 k, .int .i64 s, .int .i64 f, .int .i64 d, .int .i64 t])]) _ [] Tryz.func19 rfl Tryz.ntmps19 (by simp) rfl (Mem.refl _) (fun g => ?_)
  cases hf : findF ⟨k, s, f, d, t⟩ l with
  | none =>
    have hat := lat_no hf hm0 hmb
    repeat' (first | ((with_reducible refine at_call 28 ?_); refine sx_callv (fun w hm => hat _ _ _ _ _ _ (hm.old0 h0) (hrm hm)) ?_ rfl) | ((with_reducible refine at_build ?_); refine sx_build Fl.zero.row rfl ?_) | ((with_reducible refine at_stores ?_); refine sx_storeW (vs := Fl.zero.row) rfl rfl rfl rfl ?_) | ((with_reducible refine at_op ?_); first | ((with_reducible refine at_move ?_); refine sx_move _ vf ?_) | ((with_reducible refine at_bin ?_); refine sx_lss rfl rfl ?_) | ((with_reducible refine at_assign ?_); refine sx_assign _ vf ?_) | ((with_reducible refine at_load ?_); refine sx_loadWE rfl pc gl ?_) | ((with_reducible refine at_stores ?_); refine sx_stval _ vf ?_) | (refine sx_box rfl ?_; intro b) | (refine sx_alloc ?_; intro b)) | refine sx_nil ?_ | ((with_reducible refine at_code ?_); first | refine cx_seq ?_ | refine cx_region ?_ | refine cx_ret ?_ | refine cx_true rfl ?_) | ((with_reducible refine at_exit ?_); first | refine qx_then ?_ | refine qx_then_ret ?_))
    all_goals try (exfalso; omega)
    exact qx_retD2 (x := .bool _) 0 [] rfl rfl rfl rfl rfl ⟨rfl, rfl⟩ (fun w hm => hm.nil)
  | some z =>
    obtain ⟨i, hi, hk, hat⟩ := lat_yes hf hm0 hmb
    have hil := (List.getElem?_eq_some_iff.1 hi).1
    obtain ⟨b1, o1, hA1⟩ := hr
    obtain ⟨hAe, hlt, hne, hcs⟩ := hA1 (by omega)
    have hxc0 := fun {w' : World} {L : List Ch} (hm : Mem w w' [] L) => row_cell hm hlt (by simp) hcs hi
    repeat' (first | ((with_reducible refine at_call 28 ?_); refine sx_callv (fun w hm => hat _ _ _ _ _ _ (hm.old0 h0) (hrm hm)) ?_ rfl) | ((with_reducible refine at_ixaddr ?_); refine sx_indexQ rfl hAe rfl (by omega) ?_) | ((with_reducible refine at_load ?_); first | refine sx_loadB rfl h0 rfl ?_ | refine sx_loadMA (vs := z.row) rfl rfl (fun w' hm => hxc0 hm) ?_) | ((with_reducible refine at_stores ?_); refine sx_storeW (vs := z.row) rfl rfl rfl rfl ?_) | ((with_reducible refine at_op ?_); first | ((with_reducible refine at_move ?_); refine sx_move _ vf ?_) | ((with_reducible refine at_bin ?_); refine sx_lss rfl rfl ?_) | ((with_reducible refine at_assign ?_); refine sx_assign _ vf ?_) | ((with_reducible refine at_load ?_); refine sx_loadWE rfl pc gl ?_) | ((with_reducible refine at_stores ?_); refine sx_stval _ vf ?_) | refine sx_nilCheck rfl ?_ | refine sx_fieldAddr rfl ?_ | (refine sx_box rfl ?_; intro b) | (refine sx_alloc ?_; intro b)) | refine sx_nil ?_ | ((with_reducible refine at_code ?_); first | refine cx_seq ?_ | refine cx_region ?_ | refine cx_skip ?_ | refine cx_ret ?_ | refine cx_false rfl ?_) | ((with_reducible refine at_exit ?_); refine qx_then ?_))
    all_goals try (exfalso; omega)
    exact qx_retD2 (x := .bool _) 0 [] rfl rfl rfl rfl rfl ⟨rfl, rfl⟩ (fun w hm => hm.nil)
set_option maxHeartbeats 8000000 in
theorem ref_LDrop {max tn : Int} {lb m cap : Nat} {AL : Option Addr} {l : List Fl} (k s f d t : Int) {w : World} {D : List Nat} (hD : D = [lb]) (hM0 : Mem w w D [[(lb, .cells [.int .i64 max, .int .i64 tn, .slice AL m cap].toArray 33 (0, 0))]]) (hr : RowIn w lb AL m l) (hm0 : m = l.length) (hmb : m ≤ 100) (hmc : m ≤ cap) :
    Calls Tryz.prog 15 #[.pointer (some ⟨lb, 0, none⟩), .agg #[.int .i64 k, .int .i64 s, .int .i64 f, .int .i64 d, .int .i64 t]] w (Ret w D (fun v L => (findF ⟨k, s, f, d, t⟩ l = none ∧ v = .bool false ∧ L = [[(lb, .cells [.int .i64 max, .int .i64 tn, .slice AL m cap].toArray 33 (0, 0))]]) ∨ (∃ z i, findF ⟨k, s, f, d, t⟩ l = some z ∧ l[i]? = some z ∧ v = .bool true ∧ ∃ (A' : Option Addr) (cap' : Nat) (c' : Ch), L = [[(lb, .cells [.int .i64 max, .int .i64 tn, .slice A' (l.take i ++ l.drop (i + 1)).length cap'].toArray 33 (0, 0))], c'] ∧ OwnS 45 15 (.slice A' (l.take i ++ l.drop (i + 1)).length cap') (l.take i ++ l.drop (i + 1)).length (rowsG Fl.row (l.take i ++ l.drop (i + 1))) c'))) := by
  have hDD : ∀ d ∈ D, d = lb := fun d hd => by rw [hD] at hd; simpa using hd
  have hrm := fun {w' : World} {L : List Ch} (hm : Mem w w' D L) => hr.mem hm hDD
  have hrs := fun {w' : World} {L : List Ch} (hm : Mem w w' D L) => hr.sl hm hDD hm0 hmc
  refine cx_enter (args := [.pointer (some ⟨lb, 0, none⟩), .agg #[.int .i64 k, .int .i64 s, .int .i64 f, .int .i64 d, .int .i64 t]]) (F := [(0, .pointer (some ⟨lb, 0, none⟩)), (1, .agg #[.int .i64 k, .int .i64 s, .int .i64 f, .int .i64 d, .int .i64 t])]) _ [[(lb, .cells [.int .i64 max, .int .i64 tn, .slice AL m cap].toArray 33 (0, 0))]] Tryz.func15 rfl Tryz.ntmps15 (by simp) rfl hM0 (fun g => ?_)
  clear hM0
  have hone := rowF_one l
  cases hf : findF ⟨k, s, f, d, t⟩ l with
  | none =>
    have hat := lat_no hf hm0 hmb
    repeat' (first | ((with_reducible refine at_call 28 ?_); refine sx_callv (fun w hm => hat _ _ _ _ _ _ (hm.blk 1 rfl) (hrm hm)) ?_ rfl) | ((with_reducible refine at_op ?_); first | ((with_reducible refine at_move ?_); refine sx_move _ vf ?_) | ((with_reducible refine at_bin ?_); refine sx_lss rfl rfl ?_) | ((with_reducible refine at_assign ?_); refine sx_assign _ vf ?_) | ((with_reducible refine at_load ?_); refine sx_loadWE rfl pc gl ?_) | (refine sx_box rfl ?_; intro b)) | refine sx_nil ?_ | ((with_reducible refine at_code ?_); first | refine cx_seq ?_ | refine cx_region ?_ | refine cx_ret ?_ | refine cx_true rfl ?_) | ((with_reducible refine at_exit ?_); first | refine qx_then ?_ | refine qx_then_ret ?_))
    all_goals try (exfalso; omega)
    exact qx_ret1 (v := .bool false) [[(lb, .cells [.int .i64 max, .int .i64 tn, .slice AL m cap].toArray 33 (0, 0))]] rfl rfl (.inl ⟨rfl, rfl, rfl⟩) (fun w hm => by exact hm.picks [1])
  | some z =>
    obtain ⟨i, hi, hk, hat⟩ := lat_yes hf hm0 hmb
    have hil := (List.getElem?_eq_some_iff.1 hi).1
    have hit : (i : Int).toNat ≤ m := by omega
    have hit1 : ((i : Int) + 1).toNat ≤ m := by omega
    have hne : (l.take i ++ l.drop (i + 1)).length = i + (m - (i + 1)) := by rw [List.length_append, List.length_take, List.length_drop]; omega
    repeat' (first | ((with_reducible refine at_call 28 ?_); refine sx_callv (fun w hm => hat _ _ _ _ _ _ (hm.blk 1 rfl) (hrm hm)) ?_ rfl) | (refine sx_sliceToR rfl rfl (by omega) ?_) | (refine sx_sliceFrom rfl rfl (by omega) ?_) | ((with_reducible refine at_append ?_); first | (refine sx_append (v := .slice none 0 0) (A := AL) (k := (i : Int).toNat) (ys := (rowsG Fl.row l).take ((i : Int).toNat * 15)) rfl rfl rotN (OwnS.nil _ _) (fun w hm => (hrs hm).to hit (by omega)) (fun u hu => hone u (List.mem_of_mem_take hu)) (by omega) ?_; rintro _ cV hoV; obtain ⟨AV, kV, rfl, hkV⟩ := hoV.len) | (refine sx_append (v := .slice AV _ _) (ys := (rowsG Fl.row l).drop (((i : Int) + 1).toNat * 15)) rfl rfl rot0 hoV (fun w hm => (hrs hm).from hit1 hmc) (fun u hu => hone u (List.mem_of_mem_drop hu)) (by omega) ?_; rintro _ cY hoY; obtain ⟨AY, kY, rfl, hkY⟩ := hoY.len)) | ((with_reducible refine at_op ?_); first | ((with_reducible refine at_move ?_); refine sx_move _ vf ?_) | ((with_reducible refine at_bin ?_); first | refine sx_lss rfl rfl ?_ | refine sx_add rfl rfl bnd ?_) | ((with_reducible refine at_assign ?_); refine sx_assign _ vf ?_) | ((with_reducible refine at_load ?_); first | refine sx_loadE rfl pc gv ?_ | refine sx_loadWE rfl pc gl ?_) | ((with_reducible refine at_stores ?_); first | refine sx_stval _ vf ?_ | (refine sx_rot rot2 ?_; (apply sx_store rfl rfl rfl rfl; (repeat (first | exact set_z rfl | apply set_succ))))) | refine sx_nilCheck rfl ?_ | refine sx_fieldAddr rfl ?_ | (refine sx_box rfl ?_; intro b)) | refine sx_nil ?_ | ((with_reducible refine at_code ?_); first | refine cx_seq ?_ | refine cx_region ?_ | refine cx_skip ?_ | refine cx_ret ?_ | refine cx_false rfl ?_) | ((with_reducible refine at_exit ?_); refine qx_then ?_))
    all_goals try (exfalso; omega)
    have hoY' : OwnS 45 15 (.slice AY (0 + (i : Int).toNat + (m - ((i : Int) + 1).toNat)) kY) (l.take i ++ l.drop (i + 1)).length (rowsG Fl.row (l.take i ++ l.drop (i + 1))) cY := by
      have h := hoY
      rw [List.nil_append] at h
      rw [show (i : Int).toNat = i by omega, show ((i : Int) + 1).toNat = i + 1 by omega] at h ⊢
      rw [hne, rowsG_app, ← rowsG_take row_len (by omega), ← rowsG_drop row_len (by omega), show i + (m - (i + 1)) = 0 + i + (m - (i + 1)) by omega]
      exact h
    rw [show 0 + (i : Int).toNat + (m - ((i : Int) + 1).toNat) = (l.take i ++ l.drop (i + 1)).length by omega] at hoY' ⊢
    exact qx_ret1 (v := .bool true) [[(lb, .cells [.int .i64 max, .int .i64 tn, .slice AY (l.take i ++ l.drop (i + 1)).length kY].toArray 33 (0, 0))], cY] rfl rfl (.inr ⟨z, i, rfl, hi, rfl, AY, kY, cY, rfl, hoY'⟩) (fun w hm => by exact hm.picks [0, 0])
end Go.Proofs.YtghnjmjdaggopaaGreatDoor
