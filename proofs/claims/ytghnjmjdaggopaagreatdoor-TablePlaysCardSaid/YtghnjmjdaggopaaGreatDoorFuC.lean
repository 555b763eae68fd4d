/- Several texts in one: Lay SortG TblB TabE. -/
import Derived.Shelf.Small.Bits
import Derived.Shelf.Small.Wraps
import Derived.Shelf.Strconv.Itoa0
import Derived.Ground.Names2Prog
import Derived.Shelf.Slices.SearchI
import Derived.Ground.SlsfProg
import Derived.Shelf.SlSortCmp.InsertionK
import Derived.Shelf.SlSortCmp.SiftDownK
import Derived.Shelf.SlSortCmp.HeapSortK
import Derived.Shelf.SlSortCmp.MedianK
import Derived.Shelf.SlSortCmp.PivotK
import Derived.Shelf.SlSortCmp.ReverseRangeK
import Derived.Shelf.SlSortCmp.PartialInsertionK
import Derived.Shelf.SlSortCmp.PartitionEqualK
import Derived.Shelf.SlSortCmp.PartitionK
import Derived.Shelf.SlSortCmp.PdqK
import Derived.Shelf.SlSortCmp.WholeK
import Derived.Test.YtghnjmjdaggopaaGreatDoorProg
import Derived.Test.YtghnjmjdaggopaaGreatDoorEngB
import Derived.Test.YtghnjmjdaggopaaGreatDoorFuA
import Derived.Test.YtghnjmjdaggopaaGreatDoorFuB
import Derived.LoopN
import Derived.StillTailTactics
import Derived.WalkKit
namespace Go.Proofs
open Go.Shelf
def Tryz.laysSlF06_f40_ren : Go.Shelf.Ren := ⟨fun | 6 => 40 | 15 => 68 | 14 => 67 | 28 => 93 | 29 => 94 | 20 => 85 | 21 => 86 | 22 => 87 | 23 => 88 | 24 => 89 | 25 => 90 | 26 => 91 | 27 => 92 | 46 => 108 | 47 => 109 | 48 => 110 | 49 => 111 | 50 => 112 | 57 => 116 | n => n, fun | 22 => 58 | 24 => 37 | 25 => 88 | 3 => 3 | 39 => 104 | 0 => 0 | 53 => 132 | 55 => 134 | 4 => 4 | 46 => 125 | 45 => 124 | 50 => 129 | 5 => 5 | 9 => 9 | 66 => 154 | 70 => 158 | 76 => 162 | 77 => 163 | n => n, fun | n => n⟩
theorem Tryz.laysSlF06_f40 : Go.Proofs.SlLaysF0.n6 Tryz.prog Tryz.laysSlF06_f40_ren := {
  mixed := by kernel_rfl
  f6 := ⟨Tryz.f40.name, by decide, Tryz.func40.trans (congrArg some (by kernel_rfl))⟩
  f14 := ⟨Tryz.f67.name, by decide, Tryz.func67.trans (congrArg some (by kernel_rfl))⟩
  f15 := Tryz.func68.trans (congrArg some (by kernel_rfl))
  f20 := ⟨Tryz.f85.name, by decide, Tryz.func85.trans (congrArg some (by kernel_rfl))⟩
  f21 := ⟨Tryz.f86.name, by decide, Tryz.func86.trans (congrArg some (by kernel_rfl))⟩
  f22 := ⟨Tryz.f87.name, by decide, Tryz.func87.trans (congrArg some (by kernel_rfl))⟩
  f23 := ⟨Tryz.f88.name, by decide, Tryz.func88.trans (congrArg some (by kernel_rfl))⟩
  f24 := ⟨Tryz.f89.name, by decide, Tryz.func89.trans (congrArg some (by kernel_rfl))⟩
  f25 := ⟨Tryz.f90.name, by decide, Tryz.func90.trans (congrArg some (by kernel_rfl))⟩
  f26 := ⟨Tryz.f91.name, by decide, Tryz.func91.trans (congrArg some (by kernel_rfl))⟩
  f27 := ⟨Tryz.f92.name, by decide, Tryz.func92.trans (congrArg some (by kernel_rfl))⟩
  f28 := Tryz.func93.trans (congrArg some (by kernel_rfl))
  f29 := Tryz.func94.trans (congrArg some (by kernel_rfl))
  f46 := ⟨Tryz.f108.name, by decide, Tryz.func108.trans (congrArg some (by kernel_rfl))⟩
  f47 := Tryz.func109.trans (congrArg some (by kernel_rfl))
  f48 := Tryz.func110.trans (congrArg some (by kernel_rfl))
  f49 := ⟨Tryz.f111.name, by decide, Tryz.func111.trans (congrArg some (by kernel_rfl))⟩
  f50 := ⟨Tryz.f112.name, by decide, Tryz.func112.trans (congrArg some (by kernel_rfl))⟩
  f57 := ⟨Tryz.f116.name, by decide, Tryz.func116.trans (congrArg some (by kernel_rfl))⟩
  t0 := Tryz.underlying0
  a0 := Tryz.isAgg0
  z0 := Tryz.sizeOf0
  v0 := Tryz.zeroValue0
  t3 := Tryz.underlying3
  a3 := Tryz.isAgg3
  z3 := Tryz.sizeOf3
  v3 := Tryz.zeroValue3
  t4 := Tryz.underlying4
  a4 := Tryz.isAgg4
  z4 := Tryz.sizeOf4
  v4 := Tryz.zeroValue4
  t5 := Tryz.underlying5
  a5 := Tryz.isAgg5
  z5 := Tryz.sizeOf5
  v5 := Tryz.zeroValue5
  t9 := Tryz.underlying9
  a9 := Tryz.isAgg9
  z9 := Tryz.sizeOf9
  v9 := Tryz.zeroValue9
  t22 := Tryz.underlying58
  a22 := Tryz.isAgg58
  z22 := Tryz.sizeOf58
  v22 := Tryz.zeroValue58
  t25 := Tryz.underlying88
  a25 := Tryz.isAgg88
  z25 := Tryz.sizeOf88
  v25 := Tryz.zeroValue88
  t39 := Tryz.underlying104
  a39 := Tryz.isAgg104
  z39 := Tryz.sizeOf104
  v39 := Tryz.zeroValue104
  t45 := Tryz.underlying124
  a45 := Tryz.isAgg124
  z45 := Tryz.sizeOf124
  v45 := Tryz.zeroValue124
  t46 := Tryz.underlying125
  a46 := Tryz.isAgg125
  z46 := Tryz.sizeOf125
  v46 := Tryz.zeroValue125
  t50 := Tryz.underlying129
  a50 := Tryz.isAgg129
  z50 := Tryz.sizeOf129
  v50 := Tryz.zeroValue129
  t53 := Tryz.underlying132
  a53 := Tryz.isAgg132
  z53 := Tryz.sizeOf132
  v53 := Tryz.zeroValue132
  t55 := Tryz.underlying134
  a55 := Tryz.isAgg134
  z55 := Tryz.sizeOf134
  v55 := Tryz.zeroValue134
  t66 := Tryz.underlying154
  a66 := Tryz.isAgg154
  z66 := Tryz.sizeOf154
  v66 := Tryz.zeroValue154
  t70 := Tryz.underlying158
  a70 := Tryz.isAgg158
  z70 := Tryz.sizeOf158
  v70 := Tryz.zeroValue158
  t76 := Tryz.underlying162
  a76 := Tryz.isAgg162
  z76 := Tryz.sizeOf162
  v76 := Tryz.zeroValue162
  t77 := Tryz.underlying163
  a77 := Tryz.isAgg163
  z77 := Tryz.sizeOf163
  v77 := Tryz.zeroValue163 }
open Go.RowKit Go.Lib Go.Sort in
theorem Tryz.slices_SortFunc_f40 {α : Type} [Inhabited α] (k : Nat) (aE : ∀ w, (isAgg (Tryz.laysSlF06_f40_ren.t 24)).run Tryz.prog w = .ok true w) (zE : ∀ w, (Go.sizeOf (Tryz.laysSlF06_f40_ren.t 24)).run Tryz.prog w = .ok k w) (enc : α → List Value) (hk : ∀ x, (enc x).length = k) (h1 : ∀ x, ∀ v ∈ enc x, v.oneCell' = true) (cf : α → α → Int) (hO : SWO (ltOf cf)) (g : Nat) (cb : Array Value) (blk off cap : Nat) (d : Array α) (w : World) (eg : ∀ args w, (callFunc g args).run Tryz.prog w = .ok (.enter g args) w) (hcmp : CmpLays Tryz.prog g cb enc k cf blk off d.size w) (hH : HoldsK enc k w blk off d) (hblk : blk < w.heap.size) (hsz : d.size < 4611686018427387904) :
    Calls Tryz.prog 40 #[.slice (some ⟨blk, off, none⟩) d.size cap, .func (.func g) #[] cb] w fun e w' =>
      e = .returned (.tuple #[]) ∧ ∃ d' n os, PermIn 0 d.size d d' ∧ SortedIn (ltOf cf) 0 d.size d' ∧ w' = sortWorldK enc k w blk off n d' os := AnyQ.slices_SortFunc Tryz.laysSlF06_f40 k aE zE enc hk h1 cf hO g cb blk off cap d w eg hcmp hH hblk hsz
def Tryz.laysSlF06_f42_ren : Go.Shelf.Ren := ⟨fun | 6 => 42 | 15 => 68 | 14 => 71 | 28 => 93 | 29 => 94 | 20 => 96 | 21 => 97 | 22 => 98 | 23 => 99 | 24 => 100 | 25 => 101 | 26 => 102 | 27 => 103 | 46 => 113 | 47 => 109 | 48 => 110 | 49 => 114 | 50 => 115 | 57 => 117 | n => n, fun | 22 => 23 | 24 => 45 | 25 => 90 | 3 => 3 | 39 => 104 | 0 => 0 | 53 => 132 | 55 => 134 | 4 => 4 | 46 => 125 | 45 => 124 | 50 => 129 | 5 => 5 | 9 => 9 | 66 => 154 | 70 => 158 | 76 => 162 | 77 => 163 | n => n, fun | n => n⟩
theorem Tryz.laysSlF06_f42 : Go.Proofs.SlLaysF0.n6 Tryz.prog Tryz.laysSlF06_f42_ren := {
  mixed := by kernel_rfl
  f6 := ⟨Tryz.f42.name, by decide, Tryz.func42.trans (congrArg some (by kernel_rfl))⟩
  f14 := ⟨Tryz.f71.name, by decide, Tryz.func71.trans (congrArg some (by kernel_rfl))⟩
  f15 := Tryz.func68.trans (congrArg some (by kernel_rfl))
  f20 := ⟨Tryz.f96.name, by decide, Tryz.func96.trans (congrArg some (by kernel_rfl))⟩
  f21 := ⟨Tryz.f97.name, by decide, Tryz.func97.trans (congrArg some (by kernel_rfl))⟩
  f22 := ⟨Tryz.f98.name, by decide, Tryz.func98.trans (congrArg some (by kernel_rfl))⟩
  f23 := ⟨Tryz.f99.name, by decide, Tryz.func99.trans (congrArg some (by kernel_rfl))⟩
  f24 := ⟨Tryz.f100.name, by decide, Tryz.func100.trans (congrArg some (by kernel_rfl))⟩
  f25 := ⟨Tryz.f101.name, by decide, Tryz.func101.trans (congrArg some (by kernel_rfl))⟩
  f26 := ⟨Tryz.f102.name, by decide, Tryz.func102.trans (congrArg some (by kernel_rfl))⟩
  f27 := ⟨Tryz.f103.name, by decide, Tryz.func103.trans (congrArg some (by kernel_rfl))⟩
  f28 := Tryz.func93.trans (congrArg some (by kernel_rfl))
  f29 := Tryz.func94.trans (congrArg some (by kernel_rfl))
  f46 := ⟨Tryz.f113.name, by decide, Tryz.func113.trans (congrArg some (by kernel_rfl))⟩
  f47 := Tryz.func109.trans (congrArg some (by kernel_rfl))
  f48 := Tryz.func110.trans (congrArg some (by kernel_rfl))
  f49 := ⟨Tryz.f114.name, by decide, Tryz.func114.trans (congrArg some (by kernel_rfl))⟩
  f50 := ⟨Tryz.f115.name, by decide, Tryz.func115.trans (congrArg some (by kernel_rfl))⟩
  f57 := ⟨Tryz.f117.name, by decide, Tryz.func117.trans (congrArg some (by kernel_rfl))⟩
  t0 := Tryz.underlying0
  a0 := Tryz.isAgg0
  z0 := Tryz.sizeOf0
  v0 := Tryz.zeroValue0
  t3 := Tryz.underlying3
  a3 := Tryz.isAgg3
  z3 := Tryz.sizeOf3
  v3 := Tryz.zeroValue3
  t4 := Tryz.underlying4
  a4 := Tryz.isAgg4
  z4 := Tryz.sizeOf4
  v4 := Tryz.zeroValue4
  t5 := Tryz.underlying5
  a5 := Tryz.isAgg5
  z5 := Tryz.sizeOf5
  v5 := Tryz.zeroValue5
  t9 := Tryz.underlying9
  a9 := Tryz.isAgg9
  z9 := Tryz.sizeOf9
  v9 := Tryz.zeroValue9
  t22 := Tryz.underlying23
  a22 := Tryz.isAgg23
  z22 := Tryz.sizeOf23
  v22 := Tryz.zeroValue23
  t25 := Tryz.underlying90
  a25 := Tryz.isAgg90
  z25 := Tryz.sizeOf90
  v25 := Tryz.zeroValue90
  t39 := Tryz.underlying104
  a39 := Tryz.isAgg104
  z39 := Tryz.sizeOf104
  v39 := Tryz.zeroValue104
  t45 := Tryz.underlying124
  a45 := Tryz.isAgg124
  z45 := Tryz.sizeOf124
  v45 := Tryz.zeroValue124
  t46 := Tryz.underlying125
  a46 := Tryz.isAgg125
  z46 := Tryz.sizeOf125
  v46 := Tryz.zeroValue125
  t50 := Tryz.underlying129
  a50 := Tryz.isAgg129
  z50 := Tryz.sizeOf129
  v50 := Tryz.zeroValue129
  t53 := Tryz.underlying132
  a53 := Tryz.isAgg132
  z53 := Tryz.sizeOf132
  v53 := Tryz.zeroValue132
  t55 := Tryz.underlying134
  a55 := Tryz.isAgg134
  z55 := Tryz.sizeOf134
  v55 := Tryz.zeroValue134
  t66 := Tryz.underlying154
  a66 := Tryz.isAgg154
  z66 := Tryz.sizeOf154
  v66 := Tryz.zeroValue154
  t70 := Tryz.underlying158
  a70 := Tryz.isAgg158
  z70 := Tryz.sizeOf158
  v70 := Tryz.zeroValue158
  t76 := Tryz.underlying162
  a76 := Tryz.isAgg162
  z76 := Tryz.sizeOf162
  v76 := Tryz.zeroValue162
  t77 := Tryz.underlying163
  a77 := Tryz.isAgg163
  z77 := Tryz.sizeOf163
  v77 := Tryz.zeroValue163 }
open Go.RowKit Go.Lib Go.Sort in
theorem Tryz.slices_SortFunc_f42 {α : Type} [Inhabited α] (k : Nat) (aE : ∀ w, (isAgg (Tryz.laysSlF06_f42_ren.t 24)).run Tryz.prog w = .ok true w) (zE : ∀ w, (Go.sizeOf (Tryz.laysSlF06_f42_ren.t 24)).run Tryz.prog w = .ok k w) (enc : α → List Value) (hk : ∀ x, (enc x).length = k) (h1 : ∀ x, ∀ v ∈ enc x, v.oneCell' = true) (cf : α → α → Int) (hO : SWO (ltOf cf)) (g : Nat) (cb : Array Value) (blk off cap : Nat) (d : Array α) (w : World) (eg : ∀ args w, (callFunc g args).run Tryz.prog w = .ok (.enter g args) w) (hcmp : CmpLays Tryz.prog g cb enc k cf blk off d.size w) (hH : HoldsK enc k w blk off d) (hblk : blk < w.heap.size) (hsz : d.size < 4611686018427387904) :
    Calls Tryz.prog 42 #[.slice (some ⟨blk, off, none⟩) d.size cap, .func (.func g) #[] cb] w fun e w' =>
      e = .returned (.tuple #[]) ∧ ∃ d' n os, PermIn 0 d.size d d' ∧ SortedIn (ltOf cf) 0 d.size d' ∧ w' = sortWorldK enc k w blk off n d' os := AnyQ.slices_SortFunc Tryz.laysSlF06_f42 k aE zE enc hk h1 cf hO g cb blk off cap d w eg hcmp hH hblk hsz
def Tryz.lays122_ren : Go.Shelf.Ren := ⟨fun | 122 => 70 | 215 => 95 | n => n, fun | 3 => 3 | 4 => 4 | n => n, fun | n => n⟩
theorem Tryz.lays122 : Go.Proofs.Lays.n122 Tryz.prog Tryz.lays122_ren := {
  mixed := by kernel_rfl
  f122 := Tryz.func70.trans (congrArg some (by kernel_rfl))
  f215 := Tryz.func95.trans (congrArg some (by kernel_rfl))
  t3 := Tryz.underlying3
  a3 := Tryz.isAgg3
  z3 := Tryz.sizeOf3
  v3 := Tryz.zeroValue3
  t4 := Tryz.underlying4
  a4 := Tryz.isAgg4
  z4 := Tryz.sizeOf4
  v4 := Tryz.zeroValue4 }
open Go.RowKit in
theorem Tryz.cmp_Compare_int (x y : Int) (w : World) :
    Calls Tryz.prog 70 #[.int .i64 x, .int .i64 y] w fun e w' => e = .returned (.int .i64 (Lib.compareInt x y)) ∧ w' = w := Any.cmp_Compare_int Tryz.lays122 x y w
def Tryz.lays125_ren : Go.Shelf.Ren := ⟨fun | 125 => 68 | 128 => 93 | 129 => 94 | n => n, fun | 46 => 104 | 3 => 3 | 51 => 132 | 53 => 134 | 4 => 4 | 5 => 5 | 9 => 9 | n => n, fun | n => n⟩
theorem Tryz.lays125 : Go.Proofs.Lays.n125 Tryz.prog Tryz.lays125_ren := {
  mixed := by kernel_rfl
  f125 := Tryz.func68.trans (congrArg some (by kernel_rfl))
  f128 := Tryz.func93.trans (congrArg some (by kernel_rfl))
  f129 := Tryz.func94.trans (congrArg some (by kernel_rfl))
  t3 := Tryz.underlying3
  a3 := Tryz.isAgg3
  z3 := Tryz.sizeOf3
  v3 := Tryz.zeroValue3
  t4 := Tryz.underlying4
  a4 := Tryz.isAgg4
  z4 := Tryz.sizeOf4
  v4 := Tryz.zeroValue4
  t5 := Tryz.underlying5
  a5 := Tryz.isAgg5
  z5 := Tryz.sizeOf5
  v5 := Tryz.zeroValue5
  t9 := Tryz.underlying9
  a9 := Tryz.isAgg9
  z9 := Tryz.sizeOf9
  v9 := Tryz.zeroValue9
  t46 := Tryz.underlying104
  a46 := Tryz.isAgg104
  z46 := Tryz.sizeOf104
  v46 := Tryz.zeroValue104
  t51 := Tryz.underlying132
  a51 := Tryz.isAgg132
  z51 := Tryz.sizeOf132
  v51 := Tryz.zeroValue132
  t53 := Tryz.underlying134
  a53 := Tryz.isAgg134
  z53 := Tryz.sizeOf134
  v53 := Tryz.zeroValue134 }
theorem Tryz.bits_Len (x : Int) (w : World) (h0 : 0 ≤ x) (h1 : x ≤ 18446744073709551615) :
    Calls Tryz.prog 68 #[.int .u64 x] w fun e w' => e = .returned (.int .i64 (Lib.bitLen x.toNat)) ∧ w' = w := Any.bits_Len Tryz.lays125 x w h0 h1
end Go.Proofs

set_option linter.unusedSimpArgs false
set_option linter.unusedVariables false
namespace Go.Port
open Go.RowKit Go.Shelf Go.Sort Go.Lib
open Go.Proofs (sortWorldK ltOf)
section
variable {α : Type} {enc : α → List Value} {k : Nat}
def rowsG (enc : α → List Value) (l : List α) : List Value := l.flatMap enc
theorem rowsG_len (hk : ∀ x, (enc x).length = k) : ∀ l : List α, (rowsG enc l).length = l.length * k
  | [] => by rw [List.length_nil, Nat.zero_mul]; rfl
  | x :: l => by
    show (enc x ++ rowsG enc l).length = _
    rw [List.length_append, rowsG_len hk l, hk, List.length_cons, Nat.add_mul]
    omega
theorem rowsG_at (hk : ∀ x, (enc x).length = k) : ∀ (l : List α) (i j : Nat) (x : α), l[i]? = some x → j < k → (rowsG enc l)[i * k + j]? = (enc x)[j]?
  | [], _, _, _, h, _ => by simp at h
  | y :: l, 0, j, x, h, hj => by
    have e : y = x := by simpa using h
    subst e
    rw [Nat.zero_mul, Nat.zero_add]
    show (enc y ++ rowsG enc l)[j]? = _
    rw [List.getElem?_append_left (by rw [hk]; exact hj)]
  | y :: l, i + 1, j, x, h, hj => by
    show (enc y ++ rowsG enc l)[(i + 1) * k + j]? = _
    have e : (i + 1) * k = i * k + k := by rw [Nat.add_mul, Nat.one_mul]
    rw [List.getElem?_append_right (by rw [hk]; omega), hk, show (i + 1) * k + j - k = i * k + j by omega]
    exact rowsG_at hk l i j x (by simpa using h) hj
end
section
variable {α : Type} [Inhabited α] {enc : α → List Value} {k : Nat}
theorem flatG_rows (hk : ∀ x, (enc x).length = k) (h0 : 0 < k) (d : Array α) : (flatK enc k d).toList = rowsG enc d.toList := by
  apply List.ext_getElem?
  intro t
  by_cases ht : t < d.size * k
  · have h2 : t / k < d.size := (Nat.div_lt_iff_lt_mul h0).2 ht
    have h3 : t % k < k := Nat.mod_lt _ h0
    have e1 : (flatK enc k d).toList[t]? = some ((flatK enc k d)[t]!) := by
      rw [Array.getElem?_toList, getElem!_pos (flatK enc k d) t (by rw [size_flatK]; exact ht)]
      exact Array.getElem?_eq_getElem (by rw [size_flatK]; exact ht)
    have e2 : d.toList[t / k]? = some d[t / k]! := by
      rw [Array.getElem?_toList, getElem!_pos d (t / k) h2]
      exact Array.getElem?_eq_getElem h2
    have e3 := rowsG_at hk d.toList (t / k) (t % k) _ e2 h3
    have e4 : t / k * k + t % k = t := Nat.div_add_mod' t k
    rw [e4] at e3
    rw [e1, e3, get_flatK _ _ _ _ ht]
    rw [getElem!_pos _ _ (by rw [hk]; exact h3), List.getElem?_eq_getElem (by rw [hk]; exact h3)]
  · have e1 : (flatK enc k d).toList[t]? = none := by
      rw [List.getElem?_eq_none]; rw [Array.length_toList, size_flatK]; omega
    have e2 : (rowsG enc d.toList)[t]? = none := by
      rw [List.getElem?_eq_none]; rw [rowsG_len hk, Array.length_toList]; omega
    rw [e1, e2]
theorem putCellsG_list (F : Array Value) (xs ext : List Value) (h : F.size = xs.length) : putCells id 0 F (xs ++ ext).toArray = (F.toList ++ ext).toArray := by
  apply Array.ext_getElem?
  intro t
  unfold putCells
  simp only [Array.getElem?_mapIdx, List.getElem?_toArray]
  by_cases ht : t < F.size
  · rw [List.getElem?_append_left (by omega), List.getElem?_append_left (by rw [Array.length_toList]; exact ht), List.getElem?_eq_getElem (by omega : t < xs.length), Array.getElem?_toList, Array.getElem?_eq_getElem ht]
    simp [ht]
  · rw [List.getElem?_append_right (by omega : xs.length ≤ t), List.getElem?_append_right (by rw [Array.length_toList]; omega), show F.toList.length = xs.length by rw [Array.length_toList, h]]
    have hn : ¬ (0 ≤ t ∧ t < 0 + xs.length) := by omega
    cases ext[t - xs.length]? with
    | none => rfl
    | some y => show some (if _ then _ else _) = _; rw [if_neg (by rw [h]; exact hn)]
/-- What the sort leaves: the row's cells are others; new blocks stand behind. -/
theorem sortedG_mem (hk : ∀ x, (enc x).length = k) (h0 : 0 < k) {w w' : World} {b n T : Nat} {d d' : Array α} {ext : List Value} {os : Array Obj} (hb : w.heap[b]? = some (.cells (rowsG enc d.toList ++ ext).toArray T (0, 0))) (hw : w' = sortWorldK enc k w b 0 n d' os) (hs : d'.size = d.size) :
    Mem w w' [b] [[(b, .cells (rowsG enc d'.toList ++ ext).toArray T (0, 0))]] := by
  subst hw
  have hlt := heap_lt hb
  have hcell : (sortWorldK enc k w b 0 n d' os).heap[b]? = some (.cells (rowsG enc d'.toList ++ ext).toArray T (0, 0)) := by
    unfold sortWorldK grow putRowK putRow mapBlock Sort.ahead
    dsimp only
    rw [Array.getElem?_append_left (by rw [Array.size_modify]; exact hlt), Array.getElem?_modify, if_pos rfl, hb]
    show some (Obj.cells (putCells id 0 (flatK enc k d') _) _ _) = _
    rw [putCellsG_list _ _ _ (by rw [size_flatK, rowsG_len hk, Array.length_toList, hs]), flatG_rows hk h0]
  refine ⟨rfl, rfl, rfl, ?_, fun k hk hD => ?_, fun e he => ?_, fun e he => ?_, by simp⟩
  · unfold sortWorldK grow putRowK putRow mapBlock Sort.ahead
    simp
  · unfold sortWorldK grow putRowK putRow mapBlock Sort.ahead
    dsimp only
    rw [Array.getElem?_append_left (by rw [Array.size_modify]; exact hk), Array.getElem?_modify, if_neg (by simp at hD; omega)]
  · simp at he; subst he; exact hcell
  · simp at he; subst he; exact .inr (by simp)
theorem permG_of {d d' : Array α} (h : PermIn 0 d.size d d') : d'.size = d.size ∧ d'.toList.Perm d.toList := by
  obtain ⟨h1, _, h3⟩ := h
  refine ⟨h1, ?_⟩
  have e1 : d'.extract 0 d.size = d' := by rw [← h1]; simp
  have e2 : d.extract 0 d.size = d := by simp
  rwa [e1, e2] at h3
theorem sortedG_pair {lt : α → α → Bool} {d : Array α} (h : SortedIn lt 0 d.size d) : d.toList.Pairwise (fun x y => lt y x = false) := by
  rw [List.pairwise_iff_getElem]
  intro i j hi hj hij
  rw [Array.length_toList] at hi hj
  have h1 := h i j (Nat.zero_le _) hij hj
  rw [getElem!_pos d i hi, getElem!_pos d j hj] at h1
  simpa using h1
theorem holdsG_rows (hk : ∀ x, (enc x).length = k) (h0 : 0 < k) {w : World} {b T : Nat} {l : List α} {ext : List Value} (hb : w.heap[b]? = some (.cells (rowsG enc l ++ ext).toArray T (0, 0))) : HoldsK enc k w b 0 l.toArray := by
  intro j hj
  rw [size_flatK] at hj
  have hlen : j < (rowsG enc l).length := by rw [rowsG_len hk]; simpa using hj
  have e1 : (flatK enc k l.toArray)[j]! = (rowsG enc l)[j] := by
    have hsz : j < (flatK enc k l.toArray).size := by rw [size_flatK]; exact hj
    have h2 := flatG_rows hk h0 l.toArray
    have h3 : (flatK enc k l.toArray).toList[j]? = (rowsG enc l)[j]? := by rw [h2]
    rw [Array.getElem?_toList, Array.getElem?_eq_getElem hsz, List.getElem?_eq_getElem hlen] at h3
    rw [getElem!_pos (flatK enc k l.toArray) j hsz]
    exact Option.some.inj h3
  refine ⟨?_, by simp [World.frozen?, hb]⟩
  rw [e1, Nat.zero_add]
  exact cell_of_cells hb (by rw [List.getElem?_append_left hlen, List.getElem?_eq_getElem hlen]; rfl)
end
end Go.Port

set_option linter.unusedSimpArgs false
set_option linter.unusedVariables false
set_option maxRecDepth 100000
namespace Go.Port
instance : Inhabited K5 := ⟨⟨0, 0, 0, 0, 0⟩⟩
def enc5 (x : K5) : List Value := [.int .i64 x.k, .int .i64 x.s, .int .i64 x.f, .int .i64 x.d, .int .i64 x.t]
theorem or_neg {x : Int} {l : List Int} : orI5 (x :: l) < 0 ↔ x < 0 ∨ (x = 0 ∧ orI5 l < 0) := by
  show (if x ≠ 0 then x else orI5 l) < 0 ↔ _
  by_cases h : x = 0
  · rw [if_neg (by omega)]; omega
  · rw [if_pos h]; omega
theorem cmpI_lt {a b : Int} : cmpI a b < 0 ↔ a < b := by
  unfold cmpI
  split
  · omega
  · split <;> omega
theorem cmp5_neg (x y : K5) : K5.cmp x y < 0 ↔ x.k < y.k ∨ (x.k = y.k ∧ (x.s < y.s ∨ (x.s = y.s ∧ (x.f < y.f ∨ (x.f = y.f ∧ (x.d < y.d ∨ (x.d = y.d ∧ x.t < y.t))))))) := by
  unfold K5.cmp
  simp only [or_neg, cmpI_lt, cmpI_zero]
  rw [show orI5 [] = 0 from rfl]
  omega
end Go.Port
namespace Go.Proofs.YtghnjmjdaggopaaGreatDoor
open Go.RowKit Go.Port Go.Shelf Go.Sort Go.Lib
open Go.Proofs (sortWorldK ltOf)
theorem cf5_swo : SWO (ltOf K5.cmp) where
  irrefl x := by simp [ltOf, cmp5_neg]
  trans x y z h1 h2 := by simp only [ltOf, decide_eq_true_eq, cmp5_neg] at *; omega
  ntrans x y z h1 h2 := by simp only [ltOf, decide_eq_false_iff_not, cmp5_neg] at *; omega
theorem cmpI_lib (a b : Int) : Lib.compareInt a b = cmpI a b := by
  unfold Lib.compareInt cmpI
  rfl
theorem or_5 (b : Nat) (x0 x1 x2 x3 x4 : Int) (W : World) (h0 : W.cell? ⟨b, 0, none⟩ = some (.int .i64 x0)) (h1 : W.cell? ⟨b, 1, none⟩ = some (.int .i64 x1)) (h2 : W.cell? ⟨b, 2, none⟩ = some (.int .i64 x2)) (h3 : W.cell? ⟨b, 3, none⟩ = some (.int .i64 x3)) (h4 : W.cell? ⟨b, 4, none⟩ = some (.int .i64 x4)) :
    Calls Tryz.prog 69 #[.slice (some ⟨b, 0, none⟩) 5 5] W fun e w' => e = .returned (.int .i64 (orI5 [x0, x1, x2, x3, x4])) ∧ w' = W := by
  go_enter Tryz.func69, Tryz.ntmps69
  go_wp2
  refine wp_loop_rounds 6 ?_
  rw [rounds_succ]
  go_wp2
  · go_ret
    exact ⟨by simp_all [orI5], rfl⟩
  · rw [rounds_succ]
    go_wp2
    · go_ret
      exact ⟨by simp_all [orI5], rfl⟩
    · rw [rounds_succ]
      go_wp2
      · go_ret
        exact ⟨by simp_all [orI5], rfl⟩
      · rw [rounds_succ]
        go_wp2
        · go_ret
          exact ⟨by simp_all [orI5], rfl⟩
        · rw [rounds_succ]
          go_wp2
          · go_ret
            exact ⟨by simp_all [orI5], rfl⟩
          · rw [rounds_succ]
            go_wp2
            go_ret
            exact ⟨by simp_all [orI5], rfl⟩
set_option maxRecDepth 100000 in
set_option maxHeartbeats 2000000 in
theorem key_less (x y : K5) (W : World) : Calls Tryz.prog 41 #[kv5 x, kv5 y] W fun e w' => e = .returned (.int .i64 (K5.cmp x y)) ∧ ∃ q os', w' = grow (W.drewN q) os' := by
  have hc0 := fun W' => Tryz.cmp_Compare_int x.k y.k W'
  have hc1 := fun W' => Tryz.cmp_Compare_int x.s y.s W'
  have hc2 := fun W' => Tryz.cmp_Compare_int x.f y.f W'
  have hc3 := fun W' => Tryz.cmp_Compare_int x.d y.d W'
  have hc4 := fun W' => Tryz.cmp_Compare_int x.t y.t W'
  simp only [cmpI_lib] at hc0 hc1 hc2 hc3 hc4
  unfold K5.cmp kv5
  generalize cmpI x.k y.k = r0 at hc0 ⊢
  generalize cmpI x.s y.s = r1 at hc1 ⊢
  generalize cmpI x.f y.f = r2 at hc2 ⊢
  generalize cmpI x.d y.d = r3 at hc3 ⊢
  generalize cmpI x.t y.t = r4 at hc4 ⊢
  go_enter Tryz.func41, Tryz.ntmps41
  go_wp2
  have hh0 : ((W.alloc (Obj.cells #[.int .i64 x.k, .int .i64 x.s, .int .i64 x.f, .int .i64 x.d, .int .i64 x.t] 37)).alloc (Obj.cells #[.int .i64 y.k, .int .i64 y.s, .int .i64 y.f, .int .i64 y.d, .int .i64 y.t] 37)).heap[W.heap.size]? = some (Obj.cells #[.int .i64 x.k, .int .i64 x.s, .int .i64 x.f, .int .i64 x.d, .int .i64 x.t] 37) := by
    rw [Below.heap_alloc _ _ _ (by show W.heap.size < (W.heap.push _).size; rw [Array.size_push]; omega)]
    exact heap_alloc_new _ _
  have hh1 : ((W.alloc (Obj.cells #[.int .i64 x.k, .int .i64 x.s, .int .i64 x.f, .int .i64 x.d, .int .i64 x.t] 37)).alloc (Obj.cells #[.int .i64 y.k, .int .i64 y.s, .int .i64 y.f, .int .i64 y.d, .int .i64 y.t] 37)).heap[W.heap.size + 1]? = some (Obj.cells #[.int .i64 y.k, .int .i64 y.s, .int .i64 y.f, .int .i64 y.d, .int .i64 y.t] 37) := by
    have := heap_alloc_new (W.alloc (Obj.cells #[.int .i64 x.k, .int .i64 x.s, .int .i64 x.f, .int .i64 x.d, .int .i64 x.t] 37)) (Obj.cells #[.int .i64 y.k, .int .i64 y.s, .int .i64 y.f, .int .i64 y.d, .int .i64 y.t] 37)
    rwa [show (W.alloc (Obj.cells #[.int .i64 x.k, .int .i64 x.s, .int .i64 x.f, .int .i64 x.d, .int .i64 x.t] 37)).heap.size = W.heap.size + 1 from Array.size_push _] at this
  have hg : ((W.alloc (Obj.cells #[.int .i64 x.k, .int .i64 x.s, .int .i64 x.f, .int .i64 x.d, .int .i64 x.t] 37)).alloc (Obj.cells #[.int .i64 y.k, .int .i64 y.s, .int .i64 y.f, .int .i64 y.d, .int .i64 y.t] 37)) = grow W #[(Obj.cells #[.int .i64 x.k, .int .i64 x.s, .int .i64 x.f, .int .i64 x.d, .int .i64 x.t] 37), (Obj.cells #[.int .i64 y.k, .int .i64 y.s, .int .i64 y.f, .int .i64 y.d, .int .i64 y.t] 37)] := by
    rw [alloc_eq_grow, alloc_eq_grow, grow_grow]; rfl
  generalize ((W.alloc (Obj.cells #[.int .i64 x.k, .int .i64 x.s, .int .i64 x.f, .int .i64 x.d, .int .i64 x.t] 37)).alloc (Obj.cells #[.int .i64 y.k, .int .i64 y.s, .int .i64 y.f, .int .i64 y.d, .int .i64 y.t] 37)) = W1 at hh0 hh1 hg ⊢
  refine wp_region_still_tail 25 rfl (by kernel_rfl) ?_
  simp only [List.take_succ_cons, List.take_zero, List.drop_succ_cons, List.drop_zero]
  generalize hW2 : ({ W1 with drawn := W1.drawn + 1 } : World) = W2
  have hg2 : W2 = grow (W.drewN 1) #[(Obj.cells #[.int .i64 x.k, .int .i64 x.s, .int .i64 x.f, .int .i64 x.d, .int .i64 x.t] 37), (Obj.cells #[.int .i64 y.k, .int .i64 y.s, .int .i64 y.f, .int .i64 y.d, .int .i64 y.t] 37)] := by rw [← hW2, hg]; rfl
  have d0 : W2.cell? ⟨W.heap.size, 0, none⟩ = some (.int .i64 x.k) := cell_of_cells (T := 37) (cs := [.int .i64 x.k, .int .i64 x.s, .int .i64 x.f, .int .i64 x.d, .int .i64 x.t]) (by rw [← hW2]; exact hh0) rfl
  have d1 : W2.cell? ⟨W.heap.size, 1, none⟩ = some (.int .i64 x.s) := cell_of_cells (T := 37) (cs := [.int .i64 x.k, .int .i64 x.s, .int .i64 x.f, .int .i64 x.d, .int .i64 x.t]) (by rw [← hW2]; exact hh0) rfl
  have d2 : W2.cell? ⟨W.heap.size, 2, none⟩ = some (.int .i64 x.f) := cell_of_cells (T := 37) (cs := [.int .i64 x.k, .int .i64 x.s, .int .i64 x.f, .int .i64 x.d, .int .i64 x.t]) (by rw [← hW2]; exact hh0) rfl
  have d3 : W2.cell? ⟨W.heap.size, 3, none⟩ = some (.int .i64 x.d) := cell_of_cells (T := 37) (cs := [.int .i64 x.k, .int .i64 x.s, .int .i64 x.f, .int .i64 x.d, .int .i64 x.t]) (by rw [← hW2]; exact hh0) rfl
  have d4 : W2.cell? ⟨W.heap.size, 4, none⟩ = some (.int .i64 x.t) := cell_of_cells (T := 37) (cs := [.int .i64 x.k, .int .i64 x.s, .int .i64 x.f, .int .i64 x.d, .int .i64 x.t]) (by rw [← hW2]; exact hh0) rfl
  have d5 : W2.cell? ⟨W.heap.size + 1, 0, none⟩ = some (.int .i64 y.k) := cell_of_cells (T := 37) (cs := [.int .i64 y.k, .int .i64 y.s, .int .i64 y.f, .int .i64 y.d, .int .i64 y.t]) (by rw [← hW2]; exact hh1) rfl
  have d6 : W2.cell? ⟨W.heap.size + 1, 1, none⟩ = some (.int .i64 y.s) := cell_of_cells (T := 37) (cs := [.int .i64 y.k, .int .i64 y.s, .int .i64 y.f, .int .i64 y.d, .int .i64 y.t]) (by rw [← hW2]; exact hh1) rfl
  have d7 : W2.cell? ⟨W.heap.size + 1, 2, none⟩ = some (.int .i64 y.f) := cell_of_cells (T := 37) (cs := [.int .i64 y.k, .int .i64 y.s, .int .i64 y.f, .int .i64 y.d, .int .i64 y.t]) (by rw [← hW2]; exact hh1) rfl
  have d8 : W2.cell? ⟨W.heap.size + 1, 3, none⟩ = some (.int .i64 y.d) := cell_of_cells (T := 37) (cs := [.int .i64 y.k, .int .i64 y.s, .int .i64 y.f, .int .i64 y.d, .int .i64 y.t]) (by rw [← hW2]; exact hh1) rfl
  have d9 : W2.cell? ⟨W.heap.size + 1, 4, none⟩ = some (.int .i64 y.t) := cell_of_cells (T := 37) (cs := [.int .i64 y.k, .int .i64 y.s, .int .i64 y.f, .int .i64 y.d, .int .i64 y.t]) (by rw [← hW2]; exact hh1) rfl
  have hfin : ∀ os, ∃ q os', grow W2 os = grow (W.drewN q) os' := fun os => ⟨1, _, by rw [hg2, grow_grow]⟩
  clear hh0 hh1 hg hW2 hg2
  repeat still_step
  still_call (hc0 _)
  repeat still_step
  still_call (hc1 _)
  repeat still_step
  still_call (hc2 _)
  repeat still_step
  still_call (hc3 _)
  repeat still_step
  still_call (hc4 _)
  refine wpStill_nil ?_
  go_wp2_with (go_at_call 69; refine (or_5 _ r0 r1 r2 r3 r4 _ (cell_of_cells (cs := [.int .i64 r0, .int .i64 r1, .int .i64 r2, .int .i64 r3, .int .i64 r4]) (heap_alloc_new _ _) rfl) (cell_of_cells (cs := [.int .i64 r0, .int .i64 r1, .int .i64 r2, .int .i64 r3, .int .i64 r4]) (heap_alloc_new _ _) rfl) (cell_of_cells (cs := [.int .i64 r0, .int .i64 r1, .int .i64 r2, .int .i64 r3, .int .i64 r4]) (heap_alloc_new _ _) rfl) (cell_of_cells (cs := [.int .i64 r0, .int .i64 r1, .int .i64 r2, .int .i64 r3, .int .i64 r4]) (heap_alloc_new _ _) rfl) (cell_of_cells (cs := [.int .i64 r0, .int .i64 r1, .int .i64 r2, .int .i64 r3, .int .i64 r4]) (heap_alloc_new _ _) rfl)).mono ?_; rintro e w' ⟨rfl, rfl⟩)
  go_ret
  exact ⟨rfl, by rw [alloc_eq_grow]; exact hfin _⟩
attribute [local irreducible] Calls
theorem bits_0 (w : World) : Calls Tryz.prog 68 #[.int .u64 0] w (Ret w [] (isV (.int .i64 0))) :=
  (Tryz.bits_Len 0 w (by decide) (by decide)).mono fun e w' h => by
    obtain ⟨rfl, rfl⟩ := h
    exact ⟨_, [], rfl, Mem.refl _, by rfl, rfl⟩
theorem ins_0 (A : Option Addr) (cap : Nat) (w : World) : Calls Tryz.prog 85 #[.slice A 0 cap, .int .i64 0, .int .i64 0, .func (.func 41) #[] #[]] w (Ret w [] (isV (.tuple #[]))) := by
  refine cx_enter (args := [.slice A 0 cap, .int .i64 0, .int .i64 0, .func (.func 41) #[] #[]]) (F := [(0, .slice A 0 cap), (1, .int .i64 0), (2, .int .i64 0), (3, .func (.func 41) #[] #[])]) _ [] Tryz.func85 rfl Tryz.ntmps85 (by simp) rfl (Mem.refl _) (fun g => ?_)
  repeat' (first | ((with_reducible refine at_op ?_); first | ((with_reducible refine at_move ?_); refine sx_move _ vf ?_) | ((with_reducible refine at_bin ?_); refine sx_add rfl rfl bnd ?_) | ((with_reducible refine at_assign ?_); refine sx_assign _ vf ?_)) | refine sx_nil ?_ | ((with_reducible refine at_code ?_); first | refine cx_seq ?_ | refine cx_region ?_ | refine cx_block ?_) | ((with_reducible refine at_exit ?_); refine qx_then ?_))
  refine cx_loop (fun mm fr L => FF fr [(2, .int .i64 0), (8, .int .i64 1)]) 0 ffr ?_
  rintro mm fr L hF K hK
  refine cx_use hF fun g => ?_
  clear hF
  repeat' (first | ((with_reducible refine at_op ?_); first | ((with_reducible refine at_move ?_); refine sx_move _ vf ?_) | ((with_reducible refine at_bin ?_); refine sx_lss rfl rfl ?_)) | refine sx_nil ?_ | ((with_reducible refine at_code ?_); first | refine cx_seq ?_ | refine cx_region ?_ | refine cx_exit ?_ | refine cx_false rfl ?_) | ((with_reducible refine at_exit ?_); first | refine qx_then ?_ | refine qx_in_here ?_ | refine qx_then_exit ?_))
  all_goals first
    | (exfalso; omega)
    | exact qx_end0 [] rfl ⟨rfl, rfl⟩ (fun w hm => hm.nil)
    | exact qx_ret0 [] rfl ⟨rfl, rfl⟩ (fun w hm => hm.nil)
theorem pdq_0 (A : Option Addr) (cap : Nat) (w : World) : Calls Tryz.prog 67 #[.slice A 0 cap, .int .i64 0, .int .i64 0, .int .i64 0, .func (.func 41) #[] #[]] w (Ret w [] (isV (.tuple #[]))) := by
  refine cx_enter (args := [.slice A 0 cap, .int .i64 0, .int .i64 0, .int .i64 0, .func (.func 41) #[] #[]]) (F := [(0, .slice A 0 cap), (1, .int .i64 0), (2, .int .i64 0), (3, .int .i64 0), (4, .func (.func 41) #[] #[])]) _ [] Tryz.func67 rfl Tryz.ntmps67 (by simp) rfl (Mem.refl _) (fun g => ?_)
  repeat' (first | ((with_reducible refine at_op ?_); ((with_reducible refine at_assign ?_); refine sx_assign _ vf ?_)) | refine sx_nil ?_ | ((with_reducible refine at_code ?_); first | refine cx_seq ?_ | refine cx_region ?_ | refine cx_block ?_) | ((with_reducible refine at_exit ?_); refine qx_then ?_))
  refine cx_loop (fun mm fr L => FF fr [(0, .slice A 0 cap), (1, .int .i64 0), (2, .int .i64 0), (3, .int .i64 0), (4, .func (.func 41) #[] #[])]) 0 ffr ?_
  rintro mm fr L hF K hK
  refine cx_use hF fun g => ?_
  clear hF
  repeat' (first | ((with_reducible refine at_call 85 ?_); refine sx_callv (fun w hm => ins_0 _ _ _) ?_ rfl) | ((with_reducible refine at_op ?_); first | ((with_reducible refine at_move ?_); refine sx_move _ vf ?_) | ((with_reducible refine at_bin ?_); first | refine sx_leq rfl rfl ?_ | refine sx_sub rfl rfl bnd ?_) | ((with_reducible refine at_assign ?_); refine sx_assign _ vf ?_)) | refine sx_nil ?_ | ((with_reducible refine at_code ?_); first | refine cx_seq ?_ | refine cx_region ?_ | refine cx_ret ?_ | refine cx_block ?_ | refine cx_true rfl ?_) | ((with_reducible refine at_exit ?_); first | refine qx_then ?_ | refine qx_in_ret ?_ | refine qx_then_ret ?_))
  all_goals first
    | (exfalso; omega)
    | exact qx_ret0 [] rfl ⟨rfl, rfl⟩ (fun w hm => hm.nil)
theorem sort_0 (A : Option Addr) (cap : Nat) (w : World) : Calls Tryz.prog 40 #[.slice A 0 cap, .func (.func 41) #[] #[]] w (Ret w [] (isV (.tuple #[]))) := by
  refine cx_enter (args := [.slice A 0 cap, .func (.func 41) #[] #[]]) (F := [(0, .slice A 0 cap), (1, .func (.func 41) #[] #[])]) _ [] Tryz.func40 rfl Tryz.ntmps40 (by simp) rfl (Mem.refl _) (fun g => ?_)
  repeat' (first | ((with_reducible refine at_call 68 ?_); refine sx_callv (fun w hm => bits_0 _) ?_ rfl) | ((with_reducible refine at_call 67 ?_); refine sx_callv (fun w hm => pdq_0 _ _ _) ?_ rfl) | ((with_reducible refine at_op ?_); first | ((with_reducible refine at_move ?_); refine sx_move _ vf ?_) | ((with_reducible refine at_assign ?_); refine sx_assign _ vf ?_) | ((with_reducible refine at_conv ?_); refine sx_convU64m rfl ?_) | refine sx_len rfl ?_) | refine sx_nil ?_ | ((with_reducible refine at_code ?_); first | refine cx_seq ?_ | refine cx_region ?_) | ((with_reducible refine at_exit ?_); refine qx_then ?_))
  first
    | exact qx_end0 [] rfl ⟨rfl, rfl⟩ (fun w hm => hm.nil)
    | exact qx_ret0 [] rfl ⟨rfl, rfl⟩ (fun w hm => hm.nil)
/-- The sort of a row of the call's own. -/
theorem sort_keys {A : Option Addr} {m cap : Nat} {l : List K5} {c : Ch} {w : World} (hM : Mem w w (c.map (·.1)) [c]) (ho : OwnS 37 5 (.slice A m cap) m (rowsG enc5 l) c) (hml : m = l.length) (hm : m ≤ 100000) :
    Calls Tryz.prog 40 #[.slice A m cap, .func (.func 41) #[] #[]] w (Ret w (c.map (·.1)) (fun v L => v = .tuple #[] ∧ ∃ (d : List K5) (c' : Ch), L = [c'] ∧ OwnS 37 5 (.slice A m cap) m (rowsG enc5 d) c' ∧ d.Perm l ∧ d.Pairwise (fun x y => ltOf K5.cmp y x = false))) := by
  have hk3 : ∀ x : K5, (enc5 x).length = 5 := fun _ => rfl
  subst hml
  by_cases h0 : l.length = 0
  · have hl : l = [] := List.eq_nil_of_length_eq_zero h0
    subst hl
    refine (sort_0 A cap w).mono fun e w' h => ?_
    obtain ⟨v, L, rfl, hm', rfl, rfl⟩ := h
    refine ⟨_, [c], rfl, ?_, rfl, [], c, rfl, ho, List.Perm.refl _, List.Pairwise.nil⟩
    have hk := hM.call0 (w' := w') hm'
    exact hk
  have hf : ∃ b ext, A = some ⟨b, 0, none⟩ ∧ c = [(b, .cells (rowsG enc5 l ++ ext).toArray 37 (0, 0))] ∧ l.length ≤ cap ∧ cap ≤ maxLen ∧ (rowsG enc5 l ++ ext).length = cap * 5 := by
    rcases ho.2 with ⟨_, h0', _⟩ | ⟨b, cap', ext, hv, h1, h2, h3, hc⟩
    · omega
    · simp only [Value.slice.injEq] at hv
      obtain ⟨rfl, _, rfl⟩ := hv
      exact ⟨b, ext, rfl, hc, h1, h2, h3⟩
  obtain ⟨b, ext, rfl, rfl, hcap, hmax, hcl⟩ := hf
  have hb : w.heap[b]? = some (.cells (rowsG enc5 l ++ ext).toArray 37 (0, 0)) := hM.head (b, _) (List.Mem.head _)
  have eg : ∀ args w, (callFunc 41 args).run Tryz.prog w = .ok (.enter 41 args) w := enters_of Tryz.func41 (by kernel_rfl) rfl
  have hcon := Tryz.slices_SortFunc_f40 (α := K5) 5 Tryz.isAgg37 Tryz.sizeOf37 enc5 hk3 (fun x v hv => by simp [enc5] at hv; rcases hv with rfl | rfl | rfl | rfl | rfl <;> rfl) K5.cmp cf5_swo 41 #[] b 0 cap l.toArray w eg (fun _ _ _ _ x y => key_less x y _) (holdsG_rows hk3 (by decide) (l := l) hb) (heap_lt hb) (by simp; omega)
  rw [List.size_toArray] at hcon
  refine hcon.mono fun e w' h => ?_
  obtain ⟨rfl, d', n, os, hp, hs, hw⟩ := h
  obtain ⟨hsz, hperm⟩ := permG_of (d := l.toArray) (d' := d') (by simpa using hp)
  have hmem := sortedG_mem hk3 (by decide) (d := l.toArray) (d' := d') (ext := ext) hb hw hsz
  have hdl : d'.toList.length = l.length := by rw [Array.length_toList, hsz]; simp
  refine ⟨_, [[(b, .cells (rowsG enc5 d'.toList ++ ext).toArray 37 (0, 0))]], rfl, hmem, rfl, d'.toList, _, rfl, ⟨by rw [rowsG_len hk3, hdl], .inr ⟨b, cap, ext, rfl, hcap, hmax, ?_, rfl⟩⟩, by simpa using hperm, ?_⟩
  · rw [List.length_append, rowsG_len hk3] at hcl ⊢
    rw [hdl]; exact hcl
  · exact sortedG_pair (by rw [hsz]; simpa using hs)
end Go.Proofs.YtghnjmjdaggopaaGreatDoor

set_option linter.unusedSimpArgs false
set_option linter.unusedVariables false
namespace Go.Port
open Go.RowKit Go.Proofs.YtghnjmjdaggopaaGreatDoor
/-- The flow of a key. -/
noncomputable def findF (k : K5) (A : List Fl) : Option Fl := A.find? fun x => decide (x.fk = k.first)
theorem findF_none {k : K5} {A : List Fl} (h : findF k A = none) : ∀ z ∈ A, z.fk ≠ k.first := fun z hz he => by
  have h1 := List.find?_eq_none.1 h z hz
  rw [decide_eq_true he] at h1
  exact h1 rfl
theorem findF_some {k : K5} : ∀ {A : List Fl} {z : Fl}, findF k A = some z → ∃ i : Nat, A[i]? = some z ∧ z.fk = k.first ∧ ∀ j, j < i → ∀ y, A[j]? = some y → y.fk ≠ k.first
  | [], _, h => by cases h
  | a :: A, z, h => by
    unfold findF at h
    rw [List.find?_cons] at h
    by_cases he : a.fk = k.first
    · rw [decide_eq_true he] at h
      have e : a = z := Option.some.inj h
      subst e
      exact ⟨0, rfl, he, fun j hj => by omega⟩
    · rw [decide_eq_false he] at h
      obtain ⟨i, h1, h2, h3⟩ := findF_some (A := A) h
      refine ⟨i + 1, by rw [List.getElem?_cons_succ]; exact h1, h2, fun j hj y hy => ?_⟩
      cases j with
      | zero =>
        have e : a = y := by simpa using hy
        subst e
        exact he
      | succ j => exact h3 j (by omega) y (by rw [List.getElem?_cons_succ] at hy; exact hy)
/-- A row of flows, that lies outside of a block. -/
def RowIn (w : World) (lb : Nat) (A : Option Addr) (m : Nat) (l : List Fl) : Prop := ∃ b o, 0 < m → A = some ⟨b, o, none⟩ ∧ b < w.heap.size ∧ b ≠ lb ∧ CellsAt w b o (rowsG Fl.row l)
theorem row_len (x : Fl) : x.row.length = 15 := rfl
theorem RowIn.mem {w w' : World} {lb m : Nat} {A : Option Addr} {l : List Fl} {D : List Nat} {L : List Ch} (h : RowIn w lb A m l) (hm : Mem w w' D L) (hD : ∀ d ∈ D, d = lb) : RowIn w' lb A m l := by
  obtain ⟨b, o, h⟩ := h
  refine ⟨b, o, fun hp => ?_⟩
  obtain ⟨h1, h2, h3, h4⟩ := h hp
  refine ⟨h1, Nat.lt_of_lt_of_le h2 hm.size, h3, fun j v hj => ?_⟩
  rw [hm.cell (p := ⟨b, o + j, none⟩) h2 (fun hb => h3 (hD b hb))]
  exact h4 j v hj
theorem RowIn.new {w w' : World} {lb xb m : Nat} {A : Option Addr} {l : List Fl} {o : Obj} {L : List Ch} (h : RowIn w lb A m l) (hm : Mem w w' [] ([(xb, o)] :: L)) : RowIn w' xb A m l := by
  obtain ⟨b, o', h⟩ := h
  refine ⟨b, o', fun hp => ?_⟩
  obtain ⟨h1, h2, h3, h4⟩ := h hp
  refine ⟨h1, Nat.lt_of_lt_of_le h2 hm.size, fun e => ?_, fun j v hj => ?_⟩
  · have h5 := hm.own (xb, o) (by simp)
    rcases h5 with h5 | h5
    · exact absurd h2 (by rw [e]; exact Nat.not_lt.2 h5)
    · cases h5
  · rw [hm.cell (p := ⟨b, o' + j, none⟩) h2 (by simp)]
    exact h4 j v hj
theorem own_formF {E sz : Nat} {A : Option Addr} {m n cap : Nat} {xs : List Value} {c : Ch} (h : OwnS E sz (.slice A m cap) n xs c) (hn : 0 < n) : ∃ b ext, A = some ⟨b, 0, none⟩ ∧ c = [(b, .cells (xs ++ ext).toArray E (0, 0))] := by
  rcases h.2 with ⟨_, h0, _⟩ | ⟨b, cap', ext, hv, h1, h2, h3, hc⟩
  · omega
  · simp only [Value.slice.injEq] at hv
    obtain ⟨rfl, rfl, rfl⟩ := hv
    exact ⟨b, ext, rfl, hc⟩
theorem RowIn.own {w w' : World} {D : List Nat} {E lb m cap : Nat} {A : Option Addr} {l : List Fl} {o : Obj} {c : Ch} (hm : Mem w w' D [[(lb, o)], c]) (ho : OwnS E 15 (.slice A m cap) m (rowsG Fl.row l) c) : RowIn w' lb A m l := by
  obtain ⟨b, o', hb⟩ := (ho.sees (hm.at 1 rfl)).1.base
  refine ⟨b, o', fun h0 => ?_⟩
  obtain ⟨b', ext, hA, hc⟩ := own_formF ho h0
  obtain ⟨h1, h2, h3⟩ := hb h0
  refine ⟨h1, h2, fun e' => ?_, h3⟩
  rw [h1] at hA
  have e : b = b' := by
    simp at hA
    exact hA.1
  have hn := hm.nodup
  subst hc
  simp at hn
  exact hn (by rw [← e', e])
theorem RowIn.nil (w : World) (lb : Nat) (A : Option Addr) : RowIn w lb A 0 [] := ⟨0, 0, fun h => absurd h (Nat.lt_irrefl _)⟩
/-- The fault of a Begin. -/
noncomputable def begE (max tnow now : Int) (A : List Fl) (k : K5) (be : Int) : Int := if ¬ timE tnow now = 0 then timE tnow now else if ¬ be = 0 then be else if (findF k (stayL now A)).isSome = true then 7 else if max ≤ ((stayL now A).length : Int) then 4 else 0
def sideF (z : Fl) (k : K5) : Int := if z.key = k then 0 else 1
/-- The fault of an Offer, and the flow. -/
noncomputable def offR (tnow now : Int) (A : List Fl) (k : K5) (st : Fl → Int → Int × Fl) : Int × Fl := if ¬ timE tnow now = 0 then (timE tnow now, .zero) else match findF k (stayL now A) with
  | none => (5, .zero)
  | some z => st z (sideF z k)
/-- The fault of an Adopt. -/
noncomputable def adoE (tnow now : Int) (f : Fl) : Int := if ¬ timE tnow now = 0 then timE tnow now else f.err
/-- Is there one that is as new? -/
def newB (f : Fl) : Option Fl → Bool
  | none => false
  | some z => decide (f.sp ≤ z.sp)
/-- How an Adopt ends: 0: kept, 1: not kept, 2: a fault; the fault. -/
noncomputable def adoX (max tnow now : Int) (A : List Fl) (f : Fl) : Int × Int := if ¬ adoE tnow now f = 0 then (2, adoE tnow now f) else if f.un ≤ now ∨ newB f (findF f.key (stayL now A)) = true then (1, 0) else if (findF f.key (stayL now A)).isSome = false ∧ max ≤ ((stayL now A).length : Int) then (2, 4) else (0, 0)
def timeOk (tnow now : Int) : Prop := (0 ≤ now ∧ now ≤ 1000000) ∧ tnow ≤ now
theorem timE_ok {tnow now : Int} (h : timE tnow now = 0) : (0 ≤ now ∧ now ≤ 1000000) ∧ tnow ≤ now := by
  unfold timE at h
  by_cases h1 : 0 ≤ now ∧ now ≤ 1000000
  · rw [if_neg (by omega)] at h
    by_cases h2 : now < tnow
    · rw [if_pos h2] at h; omega
    · exact ⟨h1, by omega⟩
  · rw [if_pos h1] at h; omega
theorem stay_len (now : Int) (A : List Fl) : (stayL now A).length ≤ A.length := List.length_filter_le _ _
end Go.Port
