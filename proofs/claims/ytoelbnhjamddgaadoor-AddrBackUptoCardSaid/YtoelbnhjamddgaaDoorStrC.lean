/- The library's functions on texts, as calls answer them. -/
import Derived.Test.YtoelbnhjamddgaaDoorLayS
import Derived.Test.YtoelbnhjamddgaaDoorStrS
import Derived.Test.YtoelbnhjamddgaaDoorStrL
import Derived.Test.YtoelbnhjamddgaaDoorTypes
import Derived.Test.YtoelbnhjamddgaaDoorEr
import Derived.Lib.AppendIntMem
import Derived.Lib.AtoiErrMem
set_option linter.unusedSimpArgs false
set_option linter.unusedVariables false
namespace Go.Proofs.YtoelbnhjamddgaaDoor
open Go.RowKit Go.Port
/-- What the library's functions on texts ask of the world. -/
structure Txt (w : World) : Prop where
  pow : Lib.TabIs Tryd.prog w "internal/strconv.uint64pow10" .u64 Lib.pow10Tab
  len : ∃ m, w.cell? ⟨1, 0, none⟩ = some (.int .i64 m)
theorem Txt.mem {w0 w : World} {L : List Ch} (h : Txt w0) (hm : Mem w0 w [] L) : Txt w := by
  obtain ⟨m, h2⟩ := h.len
  exact ⟨Lib.tabBelow_of_tabIs h.pow w hm.below, m, by rw [hm.cell (Lib.lt_of_cell h2) (by simp)]; exact h2⟩
attribute [local irreducible] Calls
theorem str_Itoa {w : World} (h : Txt w) {x : Int} {n : Nat} (hx : x = n) (hb : x ≤ 9223372036854775807) : Calls Tryd.prog 31 #[.int .i64 x] w (Ret w [] (isV (tx (Lib.decDigits n)))) := by
  subst hx
  exact (Go.Proofs.Tryd.strconv_Itoa n (by omega) hb w h.pow).mono fun e w' ⟨he, k, os, hw⟩ => ⟨_, [], by rw [he, Lib.itoa_nonneg]; rfl, Mem.of_below (by rw [hw]; exact Lib.below_grow _ _ (Nat.le_refl _) _ _), rfl, rfl⟩
theorem str_Atoi {w : World} {n : Nat} (hn : n < 1000) : Calls Tryd.prog 30 #[tx (Lib.decDigits n)] w (Ret w [] (isV (.tuple #[.int .i64 n, er 0]))) :=
  (Go.Proofs.Tryd.strconv_Atoi ⟨(Lib.decDigits n).toArray⟩ n (by have := dec_len hn; show (Lib.decDigits n).toArray.size ≤ 18; rw [List.size_toArray]; omega) (by rw [mk_list]; exact atoi_dec n) w).mono
    fun e w' ⟨he, t, hw⟩ => ⟨_, [], he, Mem.of_below (by rw [hw]; exact Lib.bytesWorld_below _ _ _), by rw [er, errV_zero], rfl⟩
theorem str_Join {w : World} {A : Option Addr} {len cap : Nat} {l : List (List UInt8)} {sep : List UInt8} (h : IsSl w 1 A len cap (l.map tx)) (h0 : 0 < len) (hN : len ≤ 140737488355328) (hb : (Lib.join l sep).length ≤ 140737488355328) :
    Calls Tryd.prog 33 #[.slice A len cap, tx sep] w (Ret w [] (isV (tx (Lib.join l sep)))) := by
  obtain ⟨hl, hz | ⟨b, o, rfl, hlt, hcap, hc⟩⟩ := h
  · omega
  rw [List.length_map, Nat.mul_one] at hl
  subst hl
  have e1 : (l.map fun x => (⟨x.toArray⟩ : ByteArray)).length = l.length := List.length_map _
  have e2 : (l.map fun x => (⟨x.toArray⟩ : ByteArray)).map (·.data.toList) = l := by
    rw [List.map_map]
    exact (List.map_congr_left fun x _ => mk_list x).trans (List.map_id l)
  have hj := Go.Proofs.Tryd.strings_Join b o cap (l.map fun x => ⟨x.toArray⟩) ⟨sep.toArray⟩ w (fun j x hx => by
      rw [List.getElem?_map] at hx
      obtain ⟨y, hy, rfl⟩ := Option.map_eq_some_iff.1 hx
      exact hc j _ (by rw [List.getElem?_map, hy]; rfl)) hlt (by rw [e1]; exact hN) (by rw [e1]; exact hcap) (by rw [e2, mk_list]; exact hb)
  rw [e1, e2, mk_list] at hj
  exact hj.mono fun e w' ⟨he, hw⟩ => ⟨_, [], he, Mem.of_below hw, rfl, rfl⟩
theorem str_Split {w : World} (h : Txt w) {s : List UInt8} {c : UInt8} {k : Nat} (hs : s.length < 4294967281) (hk : Lib.count s [c] + 1 = k) :
    Calls Tryd.prog 32 #[tx s, tx [c]] w (Ret w [] (fun v L => ∃ b ch, v = .slice (some ⟨b, 0, none⟩) k k ∧ L = [ch] ∧ OwnS 9 1 v k ((Lib.splitK [c] 0 (Lib.count s [c]) s).map tx) ch)) := by
  obtain ⟨m, hm⟩ := h.len
  have e : Lib.countB ⟨s.toArray⟩ ⟨[c].toArray⟩ = Lib.count s [c] := by unfold Lib.countB; rw [mk_list, mk_list]
  have hle := Lib.countB_le (⟨[c].toArray⟩ : ByteArray) (Nat.le_refl 1) s.length ⟨s.toArray⟩ (by show s.toArray.size ≤ _; rw [List.size_toArray]; exact Nat.le_refl _)
  have hlen := Lib.splitB_all (⟨[c].toArray⟩ : ByteArray) (Nat.le_refl 1) 0 _ ⟨s.toArray⟩ rfl
  have hd := Lib.splitB_data (⟨[c].toArray⟩ : ByteArray) 0 (Lib.countB ⟨s.toArray⟩ ⟨[c].toArray⟩) ⟨s.toArray⟩
  have hc := Go.Proofs.Tryd.strings_Split ⟨s.toArray⟩ ⟨[c].toArray⟩ m w (by show s.toArray.size < _; rw [List.size_toArray]; exact hs) hm (Nat.le_refl 1)
  have hX : (Lib.splitB ⟨[c].toArray⟩ 0 (Lib.countB ⟨s.toArray⟩ ⟨[c].toArray⟩) ⟨s.toArray⟩).map Value.string = (Lib.splitK [c] 0 (Lib.count s [c]) s).map tx := by
    rw [mk_list, mk_list, e] at hd
    rw [e, ← hd, List.map_map]
    exact List.map_congr_left fun b _ => tx_data b
  have hl2 : ((Lib.splitK [c] 0 (Lib.count s [c]) s).map tx).length = k * 1 := by
    rw [← hX, List.length_map, hlen, e, hk, Nat.mul_one]
  rw [hX, e, hk] at hc
  rw [e] at hle
  exact hc.mono fun e w' ⟨he, hw⟩ => ⟨_, _, he, by rw [hw]; exact (Mem.refl w).new _, _, _, rfl, rfl, OwnS.lit _ _ _ _ _ hl2 (by unfold maxLen; have : (⟨s.toArray⟩ : ByteArray).size = s.length := by { show s.toArray.size = _; rw [List.size_toArray] }; omega)⟩
theorem str_Cut {w : World} (h : Txt w) {s sep : List UInt8} (hs : s.length < 4294967281) :
    Calls Tryd.prog 29 #[tx s, tx sep] w (Ret w [] (isV (.tuple #[tx (Lib.cut s sep).1, tx (Lib.cut s sep).2.1, .bool (Lib.cut s sep).2.2]))) := by
  obtain ⟨m, hm⟩ := h.len
  have hc := Go.Proofs.Tryd.strings_Cut ⟨s.toArray⟩ ⟨sep.toArray⟩ m w (by show s.toArray.size < _; rw [List.size_toArray]; exact hs) hm
  rw [mk_list, mk_list] at hc
  exact hc.mono fun e w' ⟨he, n, hw⟩ => ⟨_, [], he, Mem.of_below (by rw [hw]; exact ⟨rfl, rfl, rfl, Nat.le_refl _, fun _ _ => rfl⟩), rfl, rfl⟩
end Go.Proofs.YtoelbnhjamddgaaDoor
