/- Several texts in one: Types Er TrackAa MapsW TblA KeyEq U32 SxTx SegT AddrOk. -/
import Derived.Test.YtghnjmjdaggopaaGreatDoorEngB
import Derived.Test.YtghnjmjdaggopaaGreatDoorProg
import Derived.KernelRfl
import Derived.Test.YtghnjmjdaggopaaGreatDoorFuA
import Derived.Laws.StructEq
import Derived.WalkKit
import Derived.Test.YtghnjmjdaggopaaGreatDoorEngA
import Derived.Laws.Strings
import Derived.Laws.Entries
import Derived.Laws.Strings2
import Derived.Lib.AppendZeros
namespace Go.Proofs.YtghnjmjdaggopaaGreatDoor
open Go.Port
instance : TyT Tryz.prog 3 1 false := ⟨fun w => Tryz.isAgg3 w, fun w => Tryz.sizeOf3 w⟩
instance : IntT Tryz.prog 3 .i64 := ⟨Tryz.underlying3⟩
instance : TyT Tryz.prog 4 1 false := ⟨fun w => Tryz.isAgg4 w, fun w => Tryz.sizeOf4 w⟩
instance : SlT Tryz.prog 22 35 1 24 (.slice none 0 0) := ⟨by kernel_rfl, by kernel_rfl, rfl, by decide, by decide⟩
instance : TyT Tryz.prog 23 1 false := ⟨fun w => Tryz.isAgg23 w, fun w => Tryz.sizeOf23 w⟩
instance : SlT Tryz.prog 23 45 15 112 (.agg #[.int .i64 0, .int .i64 0, .int .i64 0, .int .i64 0, .int .i64 0, .int .i64 0, .int .i64 0, .int .i64 0, .int .i64 0, .int .i64 0, .int .i64 0, .int .i64 0, .bool false, .bool false, .int .i64 0]) := ⟨by kernel_rfl, by kernel_rfl, rfl, by decide, by decide⟩
instance : SlT Tryz.prog 24 41 7 72 (.agg #[.int .i64 0, .int .i64 0, .int .i64 0, .int .i64 0, .int .i64 0, .int .i64 0, .slice none 0 0]) := ⟨by kernel_rfl, by kernel_rfl, rfl, by decide, by decide⟩
instance : IfT Tryz.prog 27 := ⟨⟨_, Tryz.underlying27⟩⟩
instance : FdT Tryz.prog 33 0 0 3 := ⟨fun a w => by kernel_rfl, fun cs w => by kernel_rfl⟩
instance : FdT Tryz.prog 33 1 1 3 := ⟨fun a w => by kernel_rfl, fun cs w => by kernel_rfl⟩
instance : FdT Tryz.prog 33 2 2 23 := ⟨fun a w => by kernel_rfl, fun cs w => by kernel_rfl⟩
instance : BldT Tryz.prog 33 [(0, 1), (1, 1), (2, 1)] [.int .i64 0, .int .i64 0, .slice none 0 0] := ⟨fun parts => by kernel_rfl⟩
instance : ZvT Tryz.prog 34 (.agg #[.int .i64 0, .int .i64 0, .int .i64 0, .int .i64 0]) := ⟨fun w => Tryz.zeroValue34 w⟩
instance : ArT Tryz.prog 34 4 3 1 := ⟨Tryz.underlying34, fun w => Tryz.sizeOf3 w⟩
instance : TyT Tryz.prog 35 1 false := ⟨fun w => Tryz.isAgg35 w, fun w => Tryz.sizeOf35 w⟩
instance : SlT Tryz.prog 35 3 1 8 (.int .i64 0) := ⟨by kernel_rfl, by kernel_rfl, rfl, by decide, by decide⟩
instance : TyT Tryz.prog 37 5 true := ⟨fun w => Tryz.isAgg37 w, fun w => Tryz.sizeOf37 w⟩
instance : ZvT Tryz.prog 37 (.agg #[.int .i64 0, .int .i64 0, .int .i64 0, .int .i64 0, .int .i64 0]) := ⟨fun w => Tryz.zeroValue37 w⟩
instance : FdT Tryz.prog 37 0 0 3 := ⟨fun a w => by kernel_rfl, fun cs w => by kernel_rfl⟩
instance : FdT Tryz.prog 37 1 1 3 := ⟨fun a w => by kernel_rfl, fun cs w => by kernel_rfl⟩
instance : FdT Tryz.prog 37 2 2 3 := ⟨fun a w => by kernel_rfl, fun cs w => by kernel_rfl⟩
instance : FdT Tryz.prog 37 3 3 3 := ⟨fun a w => by kernel_rfl, fun cs w => by kernel_rfl⟩
instance : FdT Tryz.prog 37 4 4 3 := ⟨fun a w => by kernel_rfl, fun cs w => by kernel_rfl⟩
instance : BldT Tryz.prog 37 [(0, 1), (1, 1), (2, 1), (3, 1), (4, 1)] [.int .i64 0, .int .i64 0, .int .i64 0, .int .i64 0, .int .i64 0] := ⟨fun parts => by kernel_rfl⟩
instance : TyT Tryz.prog 39 1 false := ⟨fun w => Tryz.isAgg39 w, fun w => Tryz.sizeOf39 w⟩
instance : SlT Tryz.prog 39 5 1 1 (.int .u8 0) := ⟨by kernel_rfl, by kernel_rfl, rfl, by decide, by decide⟩
instance : TyT Tryz.prog 41 7 true := ⟨fun w => Tryz.isAgg41 w, fun w => Tryz.sizeOf41 w⟩
instance : ZvT Tryz.prog 41 (.agg #[.int .i64 0, .int .i64 0, .int .i64 0, .int .i64 0, .int .i64 0, .int .i64 0, .slice none 0 0]) := ⟨fun w => Tryz.zeroValue41 w⟩
instance : FdT Tryz.prog 41 0 0 3 := ⟨fun a w => by kernel_rfl, fun cs w => by kernel_rfl⟩
instance : FdT Tryz.prog 41 1 1 3 := ⟨fun a w => by kernel_rfl, fun cs w => by kernel_rfl⟩
instance : FdT Tryz.prog 41 2 2 3 := ⟨fun a w => by kernel_rfl, fun cs w => by kernel_rfl⟩
instance : FdT Tryz.prog 41 3 3 3 := ⟨fun a w => by kernel_rfl, fun cs w => by kernel_rfl⟩
instance : FdT Tryz.prog 41 4 4 3 := ⟨fun a w => by kernel_rfl, fun cs w => by kernel_rfl⟩
instance : FdT Tryz.prog 41 5 5 3 := ⟨fun a w => by kernel_rfl, fun cs w => by kernel_rfl⟩
instance : FdT Tryz.prog 41 6 6 39 := ⟨fun a w => by kernel_rfl, fun cs w => by kernel_rfl⟩
instance : TyT Tryz.prog 42 2 true := ⟨fun w => Tryz.isAgg42 w, fun w => Tryz.sizeOf42 w⟩
instance : ArT Tryz.prog 42 2 3 1 := ⟨Tryz.underlying42, fun w => Tryz.sizeOf3 w⟩
instance : TyT Tryz.prog 43 2 true := ⟨fun w => Tryz.isAgg43 w, fun w => Tryz.sizeOf43 w⟩
instance : ArT Tryz.prog 43 2 4 1 := ⟨Tryz.underlying43, fun w => Tryz.sizeOf4 w⟩
instance : TyT Tryz.prog 45 15 true := ⟨fun w => Tryz.isAgg45 w, fun w => Tryz.sizeOf45 w⟩
instance : ZvT Tryz.prog 45 (.agg #[.int .i64 0, .int .i64 0, .int .i64 0, .int .i64 0, .int .i64 0, .int .i64 0, .int .i64 0, .int .i64 0, .int .i64 0, .int .i64 0, .int .i64 0, .int .i64 0, .bool false, .bool false, .int .i64 0]) := ⟨fun w => Tryz.zeroValue45 w⟩
instance : FdT Tryz.prog 45 0 0 37 := ⟨fun a w => by kernel_rfl, fun cs w => by kernel_rfl⟩
instance : FdT Tryz.prog 45 1 5 3 := ⟨fun a w => by kernel_rfl, fun cs w => by kernel_rfl⟩
instance : FdT Tryz.prog 45 2 6 3 := ⟨fun a w => by kernel_rfl, fun cs w => by kernel_rfl⟩
instance : FdT Tryz.prog 45 3 7 3 := ⟨fun a w => by kernel_rfl, fun cs w => by kernel_rfl⟩
instance : FdT Tryz.prog 45 4 8 42 := ⟨fun a w => by kernel_rfl, fun cs w => by kernel_rfl⟩
instance : FdT Tryz.prog 45 5 10 42 := ⟨fun a w => by kernel_rfl, fun cs w => by kernel_rfl⟩
instance : FdT Tryz.prog 45 6 12 43 := ⟨fun a w => by kernel_rfl, fun cs w => by kernel_rfl⟩
instance : FdT Tryz.prog 45 7 14 3 := ⟨fun a w => by kernel_rfl, fun cs w => by kernel_rfl⟩
instance : BldT Tryz.prog 45 [(0, 5), (5, 1), (6, 1), (7, 1), (8, 2), (10, 2), (12, 2), (14, 1)] [.int .i64 0, .int .i64 0, .int .i64 0, .int .i64 0, .int .i64 0, .int .i64 0, .int .i64 0, .int .i64 0, .int .i64 0, .int .i64 0, .int .i64 0, .int .i64 0, .bool false, .bool false, .int .i64 0] := ⟨fun parts => by kernel_rfl⟩
instance : SlT Tryz.prog 58 37 5 40 (.agg #[.int .i64 0, .int .i64 0, .int .i64 0, .int .i64 0, .int .i64 0]) := ⟨by kernel_rfl, by kernel_rfl, rfl, by decide, by decide⟩
instance : MkI Tryz.prog 71 := ⟨fun v w => by kernel_rfl⟩
instance : TyT Tryz.prog 72 1 false := ⟨fun w => Tryz.isAgg72 w, fun w => Tryz.sizeOf72 w⟩
instance : FdT Tryz.prog 74 0 0 3 := ⟨fun a w => by kernel_rfl, fun cs w => by kernel_rfl⟩
instance : FdT Tryz.prog 74 1 1 3 := ⟨fun a w => by kernel_rfl, fun cs w => by kernel_rfl⟩
instance : FdT Tryz.prog 74 2 2 72 := ⟨fun a w => by kernel_rfl, fun cs w => by kernel_rfl⟩
instance : BldT Tryz.prog 74 [(0, 1), (1, 1), (2, 1)] [.int .i64 0, .int .i64 0, .map none] := ⟨fun parts => by kernel_rfl⟩
instance : IntT Tryz.prog 104 .u64 := ⟨Tryz.underlying104⟩
instance : IntT Tryz.prog 132 .u32 := ⟨Tryz.underlying132⟩
/- Functions with a body. -/
instance : CalT Tryz.prog 4 := ⟨fun args w => Tryz.call4 args w⟩
instance : CalT Tryz.prog 5 := ⟨fun args w => Tryz.call5 args w⟩
instance : CalT Tryz.prog 6 := ⟨fun args w => Tryz.call6 args w⟩
instance : CalT Tryz.prog 7 := ⟨fun args w => Tryz.call7 args w⟩
instance : CalT Tryz.prog 8 := ⟨fun args w => Tryz.call8 args w⟩
instance : CalT Tryz.prog 9 := ⟨fun args w => Tryz.call9 args w⟩
instance : CalT Tryz.prog 10 := ⟨fun args w => Tryz.call10 args w⟩
instance : CalT Tryz.prog 11 := ⟨fun args w => Tryz.call11 args w⟩
instance : CalT Tryz.prog 12 := ⟨fun args w => Tryz.call12 args w⟩
instance : CalT Tryz.prog 13 := ⟨fun args w => Tryz.call13 args w⟩
instance : CalT Tryz.prog 14 := ⟨fun args w => Tryz.call14 args w⟩
instance : CalT Tryz.prog 15 := ⟨fun args w => Tryz.call15 args w⟩
instance : CalT Tryz.prog 16 := ⟨fun args w => Tryz.call16 args w⟩
instance : CalT Tryz.prog 17 := ⟨fun args w => Tryz.call17 args w⟩
instance : CalT Tryz.prog 18 := ⟨fun args w => Tryz.call18 args w⟩
instance : CalT Tryz.prog 19 := ⟨fun args w => Tryz.call19 args w⟩
instance : CalT Tryz.prog 20 := ⟨fun args w => Tryz.call20 args w⟩
instance : CalT Tryz.prog 21 := ⟨fun args w => Tryz.call21 args w⟩
instance : CalT Tryz.prog 22 := ⟨fun args w => Tryz.call22 args w⟩
instance : CalT Tryz.prog 23 := ⟨fun args w => Tryz.call23 args w⟩
instance : CalT Tryz.prog 24 := ⟨fun args w => Tryz.call24 args w⟩
instance : CalT Tryz.prog 25 := ⟨fun args w => Tryz.call25 args w⟩
instance : CalT Tryz.prog 26 := ⟨fun args w => Tryz.call26 args w⟩
instance : CalT Tryz.prog 27 := ⟨fun args w => Tryz.call27 args w⟩
instance : CalT Tryz.prog 28 := ⟨fun args w => Tryz.call28 args w⟩
instance : CalT Tryz.prog 29 := ⟨fun args w => Tryz.call29 args w⟩
instance : CalT Tryz.prog 30 := ⟨fun args w => Tryz.call30 args w⟩
instance : CalT Tryz.prog 31 := ⟨fun args w => Tryz.call31 args w⟩
instance : CalT Tryz.prog 32 := ⟨fun args w => Tryz.call32 args w⟩
instance : CalT Tryz.prog 33 := ⟨fun args w => Tryz.call33 args w⟩
instance : CalT Tryz.prog 34 := ⟨fun args w => Tryz.call34 args w⟩
instance : CalT Tryz.prog 35 := ⟨fun args w => Tryz.call35 args w⟩
instance : CalT Tryz.prog 36 := ⟨fun args w => Tryz.call36 args w⟩
instance : CalT Tryz.prog 37 := ⟨fun args w => Tryz.call37 args w⟩
instance : CalT Tryz.prog 38 := ⟨fun args w => Tryz.call38 args w⟩
instance : CalT Tryz.prog 39 := ⟨fun args w => Tryz.call39 args w⟩
instance : CalT Tryz.prog 40 := ⟨fun args w => Tryz.call40 args w⟩
instance : CalT Tryz.prog 41 := ⟨fun args w => Tryz.call41 args w⟩
instance : CalT Tryz.prog 42 := ⟨fun args w => Tryz.call42 args w⟩
instance : CalT Tryz.prog 45 := ⟨fun args w => Tryz.call45 args w⟩
instance : CalT Tryz.prog 46 := ⟨fun args w => Tryz.call46 args w⟩
instance : CalT Tryz.prog 47 := ⟨fun args w => Tryz.call47 args w⟩
instance : CalT Tryz.prog 48 := ⟨fun args w => Tryz.call48 args w⟩
instance : CalT Tryz.prog 49 := ⟨fun args w => Tryz.call49 args w⟩
instance : CalT Tryz.prog 50 := ⟨fun args w => Tryz.call50 args w⟩
instance : CalT Tryz.prog 51 := ⟨fun args w => Tryz.call51 args w⟩
instance : CalT Tryz.prog 52 := ⟨fun args w => Tryz.call52 args w⟩
instance : CalT Tryz.prog 53 := ⟨fun args w => Tryz.call53 args w⟩
instance : CalT Tryz.prog 54 := ⟨fun args w => Tryz.call54 args w⟩
instance : CalT Tryz.prog 55 := ⟨fun args w => Tryz.call55 args w⟩
instance : CalT Tryz.prog 56 := ⟨fun args w => Tryz.call56 args w⟩
instance : CalT Tryz.prog 57 := ⟨fun args w => Tryz.call57 args w⟩
instance : CalT Tryz.prog 58 := ⟨fun args w => Tryz.call58 args w⟩
instance : CalT Tryz.prog 59 := ⟨fun args w => Tryz.call59 args w⟩
instance : CalT Tryz.prog 60 := ⟨fun args w => Tryz.call60 args w⟩
instance : CalT Tryz.prog 61 := ⟨fun args w => Tryz.call61 args w⟩
instance : CalT Tryz.prog 62 := ⟨fun args w => Tryz.call62 args w⟩
instance : CalT Tryz.prog 63 := ⟨fun args w => Tryz.call63 args w⟩
instance : CalT Tryz.prog 64 := ⟨fun args w => Tryz.call64 args w⟩
instance : CalT Tryz.prog 65 := ⟨fun args w => Tryz.call65 args w⟩
instance : CalT Tryz.prog 66 := ⟨fun args w => Tryz.call66 args w⟩
instance : CalT Tryz.prog 67 := ⟨fun args w => Tryz.call67 args w⟩
instance : CalT Tryz.prog 68 := ⟨fun args w => Tryz.call68 args w⟩
instance : CalT Tryz.prog 69 := ⟨fun args w => Tryz.call69 args w⟩
instance : CalT Tryz.prog 70 := ⟨fun args w => Tryz.call70 args w⟩
instance : CalT Tryz.prog 71 := ⟨fun args w => Tryz.call71 args w⟩
instance : CalT Tryz.prog 76 := ⟨fun args w => Tryz.call76 args w⟩
instance : CalT Tryz.prog 77 := ⟨fun args w => Tryz.call77 args w⟩
instance : CalT Tryz.prog 78 := ⟨fun args w => Tryz.call78 args w⟩
instance : CalT Tryz.prog 79 := ⟨fun args w => Tryz.call79 args w⟩
instance : CalT Tryz.prog 80 := ⟨fun args w => Tryz.call80 args w⟩
instance : CalT Tryz.prog 81 := ⟨fun args w => Tryz.call81 args w⟩
instance : CalT Tryz.prog 82 := ⟨fun args w => Tryz.call82 args w⟩
instance : CalT Tryz.prog 83 := ⟨fun args w => Tryz.call83 args w⟩
instance : CalT Tryz.prog 84 := ⟨fun args w => Tryz.call84 args w⟩
instance : CalT Tryz.prog 85 := ⟨fun args w => Tryz.call85 args w⟩
instance : CalT Tryz.prog 95 := ⟨fun args w => Tryz.call95 args w⟩
instance : CalT Tryz.prog 96 := ⟨fun args w => Tryz.call96 args w⟩
instance : CalT Tryz.prog 107 := ⟨fun args w => Tryz.call107 args w⟩
end Go.Proofs.YtghnjmjdaggopaaGreatDoor

set_option linter.unusedSimpArgs false
set_option linter.unusedVariables false
namespace Go.Proofs.YtghnjmjdaggopaaGreatDoor
open Go.RowKit Go.Port
/-- An error. -/
abbrev er (k : Int) : Value := errV 71 k
theorem er_ok {e : Int} (h : e = 0) : Value.nilIface = er e := by rw [h, er, errV_zero]
theorem er_is {e k : Int} (h : e = k) (hk : k ≠ 0) : Value.iface 71 (.int .i64 k) = er e := by rw [h, er, errV_ne hk]
end Go.Proofs.YtghnjmjdaggopaaGreatDoor

set_option linter.unusedSimpArgs false
set_option linter.unusedVariables false
set_option maxRecDepth 100000
namespace Go.Proofs.YtghnjmjdaggopaaGreatDoor
open Go.RowKit Go.Port
attribute [local irreducible] Calls
set_option maxHeartbeats 1000000 in
theorem track_kind (x : Int) (w : World) : Calls Tryz.prog 52 #[.int .i64 x] w (Ret w [] (isV (.bool (decide (1 ≤ x) && decide (x ≤ 3))))) := by
  refine cx_enter (args := [.int .i64 x]) (F := [(0, .int .i64 x)]) _ [] Tryz.func52 rfl Tryz.ntmps52 (by simp) rfl (Mem.refl _) (fun g => ?_)
  repeat' (first | ((with_reducible refine at_op ?_); first | ((with_reducible refine at_guard ?_); first | refine sx_want rfl rfl rfl ras ?_ | refine sx_skip rfl rfl rfl ras ?_ | (refine sx_andG rfl rfl rfl rfl rfl rfl ?_ (fun hb K hK => ?_); apply Exists.intro; refine And.intro (fun hb K hK => ?_) (fun g => ?_))) | ((with_reducible refine at_move ?_); refine sx_move _ vf ?_) | ((with_reducible refine at_bin ?_); first | refine sx_leq rfl rfl ?_ | refine sx_geq rfl rfl ?_) | ((with_reducible refine at_assign ?_); refine sx_assign _ vf ?_)) | refine sx_nil ?_ | ((with_reducible refine at_grp ?_); refine sx_grpC rfl ?_) | ((with_reducible refine at_aft ?_); first | refine sx_aftN rfl ?_ | refine sx_aftC rfl ?_) | ((with_reducible refine at_code ?_); first | refine cx_seq ?_ | refine cx_region ?_ | refine cx_ret ?_) | ((with_reducible refine at_exit ?_); first | refine qx_then ?_ | ((with_reducible refine at_K ?_); first | exact hK _ _ _ rfl ⟨rfl, rfl⟩ rfl | exact hK _ _ _ rfl rfl ⟨rfl, rfl⟩ rfl)))
  exact qx_ret1 (v := .bool _) [] rfl rfl ⟨rfl, rfl⟩ (fun w hm => hm.nil)
set_option maxHeartbeats 1000000 in
theorem track_number (x : Int) (w : World) : Calls Tryz.prog 53 #[.int .i64 x] w (Ret w [] (isV (.bool (decide (-1 ≤ x) && decide (x ≤ 200))))) := by
  refine cx_enter (args := [.int .i64 x]) (F := [(0, .int .i64 x)]) _ [] Tryz.func53 rfl Tryz.ntmps53 (by simp) rfl (Mem.refl _) (fun g => ?_)
  repeat' (first | ((with_reducible refine at_op ?_); first | ((with_reducible refine at_guard ?_); first | refine sx_want rfl rfl rfl ras ?_ | refine sx_skip rfl rfl rfl ras ?_ | (refine sx_andG rfl rfl rfl rfl rfl rfl ?_ (fun hb K hK => ?_); apply Exists.intro; refine And.intro (fun hb K hK => ?_) (fun g => ?_))) | ((with_reducible refine at_move ?_); refine sx_move _ vf ?_) | ((with_reducible refine at_bin ?_); first | refine sx_leq rfl rfl ?_ | refine sx_geq rfl rfl ?_) | ((with_reducible refine at_assign ?_); refine sx_assign _ vf ?_)) | refine sx_nil ?_ | ((with_reducible refine at_grp ?_); refine sx_grpC rfl ?_) | ((with_reducible refine at_aft ?_); first | refine sx_aftN rfl ?_ | refine sx_aftC rfl ?_) | ((with_reducible refine at_code ?_); first | refine cx_seq ?_ | refine cx_region ?_ | refine cx_ret ?_) | ((with_reducible refine at_exit ?_); first | refine qx_then ?_ | ((with_reducible refine at_K ?_); first | exact hK _ _ _ rfl ⟨rfl, rfl⟩ rfl | exact hK _ _ _ rfl rfl ⟨rfl, rfl⟩ rfl)))
  exact qx_ret1 (v := .bool _) [] rfl rfl ⟨rfl, rfl⟩ (fun w hm => hm.nil)
set_option maxHeartbeats 1000000 in
theorem track_Time (x : Int) (w : World) : Calls Tryz.prog 39 #[.int .i64 x] w (Ret w [] (isV (.bool (decide (0 ≤ x) && decide (x ≤ 1000000))))) := by
  refine cx_enter (args := [.int .i64 x]) (F := [(0, .int .i64 x)]) _ [] Tryz.func39 rfl Tryz.ntmps39 (by simp) rfl (Mem.refl _) (fun g => ?_)
  repeat' (first | ((with_reducible refine at_op ?_); first | ((with_reducible refine at_guard ?_); first | refine sx_want rfl rfl rfl ras ?_ | refine sx_skip rfl rfl rfl ras ?_ | (refine sx_andG rfl rfl rfl rfl rfl rfl ?_ (fun hb K hK => ?_); apply Exists.intro; refine And.intro (fun hb K hK => ?_) (fun g => ?_))) | ((with_reducible refine at_move ?_); refine sx_move _ vf ?_) | ((with_reducible refine at_bin ?_); first | refine sx_leq rfl rfl ?_ | refine sx_geq rfl rfl ?_) | ((with_reducible refine at_assign ?_); refine sx_assign _ vf ?_)) | refine sx_nil ?_ | ((with_reducible refine at_grp ?_); refine sx_grpC rfl ?_) | ((with_reducible refine at_aft ?_); first | refine sx_aftN rfl ?_ | refine sx_aftC rfl ?_) | ((with_reducible refine at_code ?_); first | refine cx_seq ?_ | refine cx_region ?_ | refine cx_ret ?_) | ((with_reducible refine at_exit ?_); first | refine qx_then ?_ | ((with_reducible refine at_K ?_); first | exact hK _ _ _ rfl ⟨rfl, rfl⟩ rfl | exact hK _ _ _ rfl rfl ⟨rfl, rfl⟩ rfl)))
  exact qx_ret1 (v := .bool _) [] rfl rfl ⟨rfl, rfl⟩ (fun w hm => hm.nil)
end Go.Proofs.YtghnjmjdaggopaaGreatDoor

set_option linter.unusedSimpArgs false
set_option linter.unusedVariables false
namespace Go.Port
open Go.RowKit
section
variable {κ : Type} {kv : κ → Value}
variable {P : Program} {w0 : World} {D : List Nat} {n q : Nat} {ops : Array Oper} {Q : Exit → Act → World → Prop} {g : Nat → Value} {F : List (Nat × Value)} {L : List Ch}
variable {rest : List Oper} {ty : TypeId} {pos : String} {af : Array Edge} {d : Nat}
theorem sx_rangeKW {T K E : Nat} [MpK P T K E] {x : Operand} {r ck : Nat} {M : MK κ} (hx : evn n (get g F) x = .map (some r)) (hL : ∀ w, Mem w0 w D L → w.heap[r]? = some (kObj kv M ck)) (h : ∀ b, SX P w0 D n 0 ops Q rest g ((d, .pointer (some ⟨b, 0, none⟩)) :: F) ([(b, itObj r ck [] ck)] :: L)) :
    SX P w0 D n 0 ops Q ({ dst := some d, op := .range T x, type := ty, pos := pos, after := af, guard := none } :: rest) g F L :=
  .mk fun w hm => wpList_plain rfl fun KK hK => by
    have h1 := MpK.und (P := P) (T := T) (K := K) (E := E)
    have hb : w.heap[r]? = some (.map (M.map (kEnt kv)).toArray ck) := hL w hm
    have hr : (Instr.range T (.map (some r))).run P w = .ok (.pointer (some ⟨w.heap.size, 0, none⟩)) (w.alloc (itObj r ck [] ck)) := by
      unfold Instr.range
      rw [Sem.run_bind, run_underlying h1]
      simp only [Result.andThen_ok, Sem.run_bind, mget hb, Sem.run_pure]
      rfl
    unfold Oper.wp
    rw [Fr.evn]
    have hr' : (execOp (evn n (get g F)) { dst := some d, op := .range T x, type := ty, pos := pos, after := af, guard := none }).run P w = .ok (.value (.pointer (some ⟨w.heap.size, 0, none⟩))) (w.alloc (itObj r ck [] ck)) := by
      show ((do pure (Next.value (← Instr.range T (evn n (get g F) x)))) : Sem Next).run P w = _
      rw [hx]; exact run_v hr
    rw [hr', Oper.upon_value, Fr.put, get_put]
    exact hK _ _ ((h w.heap.size).out _ (hm.new _))
theorem sx_nextKW {x : Operand} {it r since c0 ck : Nat} {S : List Nat} {M : MK κ} (hx : evn n (get g F) x = .pointer (some ⟨it, 0, none⟩)) (hL : ∀ w, Mem w0 w D ([(it, itObj r since S c0)] :: L) → w.heap[r]? = some (kObj kv M ck)) (hold : ∀ e ∈ M, e.2.2 < since) (hsc : since ≤ c0)
    (hdone : leftK M S = [] → SX P w0 D n 0 ops Q rest g ((d, .tuple #[.bool false]) :: F) ([(it, itObj r since S c0)] :: L))
    (hmore : ∀ e ∈ M, e.2.2 ∉ S → SX P w0 D n 0 ops Q rest g ((d, .tuple #[.bool true, kv e.1, e.2.1]) :: F) ([(it, itObj r since (S ++ [e.2.2]) ck)] :: L)) :
    SX P w0 D n 0 ops Q ({ dst := some d, op := .next x false, type := ty, pos := pos, after := af, guard := none } :: rest) g F ([(it, itObj r since S c0)] :: L) :=
  .mk fun w hm => wpList_plain rfl fun KK hK => by
    have hb : w.heap[r]? = some (.map (M.map (kEnt kv)).toArray ck) := hL w hm
    have hr : w.heap[it]? = some (.mapIter (some r) since S.toArray c0) := hm.blk 0 rfl
    unfold Oper.wp
    rw [Fr.evn]
    have hx' : (execOp (evn n (get g F)) { dst := some d, op := .next x false, type := ty, pos := pos, after := af, guard := none }) = (do pure (Next.value (← Instr.next (.pointer (some ⟨it, 0, none⟩)) false ty))) := by
      show (do pure (Next.value (← Instr.next (evn n (get g F) x) false ty))) = _
      rw [hx]
    rw [hx']
    rcases run_next_at (P := P) w ty it r since c0 S.toArray _ ck hr hb (fun y hy => by
        rw [List.toList_toArray] at hy
        obtain ⟨e, he, rfl⟩ := List.mem_map.1 hy
        exact hold e he) hsc with ⟨h0, hrun⟩ | ⟨y, hy, w1, hw1, hrun⟩
    · rw [run_v hrun, Oper.upon_value, Fr.put, get_put]
      refine hK _ _ ((hdone ?_).out _ hm)
      rw [leftOf_K, List.size_toArray, List.length_map] at h0
      exact List.eq_nil_of_length_eq_zero h0
    · rw [leftOf_K, List.toList_toArray] at hy
      obtain ⟨e, he, rfl⟩ := List.mem_map.1 hy
      obtain ⟨heM, heS⟩ := leftK_mem.1 he
      rw [run_v hrun, Oper.upon_value, Fr.put, get_put]
      refine hK _ _ ((hmore e heM heS).out _ ?_)
      have hm1 : Mem w0 w1 D ([(it, itObj r since S c0)] :: L) := by
        rcases hw1 with rfl | rfl
        · exact hm
        · exact hm.drew
      have hr1 : w1.heap[it]? = some (itObj r since S c0) := hm1.blk 0 rfl
      have e1 : itObj r since (S ++ [e.2.2]) ck = .mapIter (some r) since (S.toArray.push (kEnt kv e).born) ck := by simp [itObj, kEnt]
      rw [e1]
      exact Mem.upd hm1 rfl rfl rfl (by simp [Go.ChangeMaps.setBlock]) (heap_set_self hr1) (fun j hj _ => heap_set_other hj)
theorem sx_itEntryKW (i : Nat) {x : Operand} {it r since ck : Nat} {S : List Nat} {M : MK κ} {e : κ × Value × Nat} (hx : evn n (get g F) x = .pointer (some ⟨it, 0, none⟩)) (hI : L[i]? = some [(it, itObj r since (S ++ [e.2.2]) ck)]) (hL : ∀ w, Mem w0 w D L → w.heap[r]? = some (kObj kv M ck)) (he : e ∈ M) (hn : (M.map (·.2.2)).Nodup)
    (h : SX P w0 D n q ops Q rest g ((d, .tuple #[kv e.1, e.2.1]) :: F) L) : SX P w0 D n q ops Q ({ dst := some d, op := .entry x, type := ty, pos := pos, after := af, guard := none } :: rest) g F L :=
  sx_run _ rfl rfl (fun w hm => by
    have hr : w.heap[it]? = some (.mapIter (some r) since (S.toArray.push (kEnt kv e).born) ck) := by
      have h1 := hm.blk i hI
      rw [h1]
      simp [itObj, kEnt]
    have h1 := run_entry_at (P := P) w it r since S.toArray _ ck (kEnt kv e) hr (hL w hm) (by rw [List.toList_toArray]; exact List.mem_map_of_mem he) (by rw [List.toList_toArray, List.map_map]; exact hn)
    show ((do pure (Next.value (← Instr.entry (evn n (get g F) x)))) : Sem Next).run P w = _
    rw [hx]; exact run_v h1) h
/-- A key that is there is put again. -/
theorem sx_putYW [DecidableEq κ] {T K E : Nat} [MpK P T K E] [KeyV P K κ kv] {m x y : Operand} {r ck j b : Nat} {k : κ} {M : MK κ} {v u : Value} (hm' : evn n (get g F) m = .map (some r)) (hx : evn n (get g F) x = kv k) (hy : evn n (get g F) y = v) (hk : lkK M k = some (j, u)) (hj : M[j]? = some (k, u, b))
    (h : SX P w0 D n 0 ops Q rest g F ([(r, kObj kv (M.set j (k, v, b)) ck)] :: L)) : SX P w0 D n 0 ops Q ({ dst := none, op := .mapUpdate T m x y, type := ty, pos := pos, after := af, guard := none } :: rest) g F ([(r, kObj kv M ck)] :: L) :=
  .mk fun w hm => wpList_plain rfl fun KK hK => by
    have h1 := MpK.und (P := P) (T := T) (K := _) (E := E)
    have hb : w.heap[r]? = some (.map (M.map (kEnt kv)).toArray ck) := hm.blk 0 rfl
    have hmod : (M.map (kEnt kv)).toArray.modify j (fun e => { e with key := kv k, val := v }) = ((M.set j (k, v, b)).map (kEnt kv)).toArray := by
      apply Array.ext
      · simp
      · intro i h1 h2
        rw [Array.getElem_modify]
        simp only [List.getElem_toArray, List.getElem_map, List.getElem_set]
        split
        · rename_i e
          subst e
          have h3 : M[j]'(by simpa using h2) = (k, u, b) := by
            have := List.getElem?_eq_getElem (l := M) (i := j) (by simpa using h2)
            rw [hj] at this
            exact (Option.some.inj this).symm
          rw [h3]
          rfl
        · rfl
    have hr : (Instr.mapUpdate T (.map (some r)) (kv k) v).run P w = .ok () { w with heap := w.heap.setIfInBounds r (kObj kv (M.set j (k, v, b)) ck) } := by
      unfold Instr.mapUpdate
      rw [Sem.run_bind, run_underlying h1]
      simp only [Result.andThen_ok, Sem.run_bind, mget hb, KeyV.check (P := P) (K := K) (kv := kv), KeyV.find (P := P) (K := K) (kv := kv), hk]
      have h2 : (Instr.keyThatStays (kv k) (kv k)).run P w = .ok (kv k) w := by
        unfold Instr.keyThatStays
        rw [if_pos (KeyV.same (P := P) (K := K) (kv := kv) k)]
        rfl
      have hj' : (M.map (kEnt kv))[j]? = some (kEnt kv (k, u, b)) := by rw [List.getElem?_map, hj]; rfl
      simp only [List.getElem?_toArray, hj', Option.map_some, Option.getD_some]
      rw [show (kEnt kv (k, u, b)).key = kv k from rfl, h2, Result.andThen_ok, hmod, mset _ hb]
      rfl
    unfold Oper.wp
    rw [Fr.evn]
    have hr' : (execOp (evn n (get g F)) { dst := none, op := .mapUpdate T m x y, type := ty, pos := pos, after := af, guard := none }).run P w = .ok .skip { w with heap := w.heap.setIfInBounds r (kObj kv (M.set j (k, v, b)) ck) } := by
      show ((do Instr.mapUpdate T (evn n (get g F) m) (evn n (get g F) x) (evn n (get g F) y); pure Next.skip) : Sem Next).run P w = _
      rw [hm', hx, hy]; exact run_u hr
    rw [hr', Oper.upon_skip]
    exact hK _ _ (h.out _ (hm.upd rfl rfl rfl (by simp) (heap_set_self hb) fun j hj _ => heap_set_other hj))
theorem sx_lenKW {T K E : Nat} [MpK P T K E] {x : Operand} {r ck : Nat} {M : MK κ} (hx : evn n (get g F) x = .map (some r)) (hv : ∀ w, Mem w0 w D L → w.heap[r]? = some (kObj kv M ck)) (h : SX P w0 D n q ops Q rest g ((d, .int .i64 M.length) :: F) L) :
    SX P w0 D n q ops Q ({ dst := some d, op := .call { callee := .builtin .len, args := #[x], argTypes := #[T] }, type := ty, pos := pos, after := af, guard := none } :: rest) g F L :=
  sx_run _ rfl rfl (fun w hm => by
    have h1 := MpK.und (P := P) (T := T) (K := K) (E := E)
    have hb : w.heap[r]? = some (.map (M.map (kEnt kv)).toArray ck) := hv w hm
    simp only [execOp, resolve]
    simp [hx, invoke, builtin, Builtin.len_, run_underlying h1, mget hb, goInt, go_sem]) h
/-- What a map holds of a key, and whether, as the world tells. -/
theorem sx_lookKCW [DecidableEq κ] {T K E : Nat} [MpK P T K E] [KeyV P K κ kv] {z : Value} [ZvT P E z] {x y : Operand} {r ck : Nat} {k : κ} {M : MK κ} {v : Value} {b : Bool} (hx : evn n (get g F) x = .map (some r)) (hy : evn n (get g F) y = kv k) (hL : ∀ w, Mem w0 w D L → w.heap[r]? = some (kObj kv M ck)) (hv : ((lkK M k).map (·.2)).getD z = v) (hb : (lkK M k).isSome = b)
    (h : SX P w0 D n q ops Q rest g ((d, .tuple #[v, .bool b]) :: F) L) : SX P w0 D n q ops Q ({ dst := some d, op := .lookup T x y true, type := ty, pos := pos, after := af, guard := none } :: rest) g F L :=
  sx_run _ rfl rfl (fun w hm => by
    have h1 := lookup_runK (P := P) (T := T) (z := z) (k := k) true (hL w hm)
    rw [hv, hb] at h1
    show ((do pure (Next.value (← Instr.lookup T (evn n (get g F) x) (evn n (get g F) y) true))) : Sem Next).run P w = _
    rw [hx, hy]; exact run_v h1) h
end
end Go.Port

set_option linter.unusedSimpArgs false
set_option linter.unusedVariables false
set_option maxRecDepth 100000
namespace Go.Proofs.YtghnjmjdaggopaaGreatDoor
open Go.RowKit Go.Port
attribute [local irreducible] Calls
theorem eq_key5 (a b : K5) (w : World) : (Op.equal 37 (kv5 a) (kv5 b)).run Tryz.prog w = .ok (decide (a = b)) w := by
  obtain ⟨k, s, f, d, t⟩ := a
  obtain ⟨k', s', f', d', t'⟩ := b
  have u3 := Tryz.underlying3
  have a3 := Tryz.isAgg3
  have z3 := Tryz.sizeOf3
  have hS : Tryz.prog.underlying 37 = some (.struct (Tryz.prog.fieldsOf 37)) := by kernel_rfl
  unfold Op.equal
  rw [show Op.maxDepth = 9999 + 1 from rfl]
  unfold kv5
  rw [run_equalIn_agg w 9999 37 _ _ hS (by kernel_rfl)]
  simp only [Program.fieldsOf, Tryz.underlying37]
  go_simp
  by_cases h1 : k = k' <;> by_cases h2 : s = s' <;> by_cases h3 : f = f' <;> by_cases h4 : d = d' <;> by_cases h5 : t = t' <;> simp [h1, h2, h3, h4, h5]
theorem check_key5 (e : Bool) (a : K5) (w : World) : (Instr.checkKey e 10000 37 (kv5 a)).run Tryz.prog w = .ok () w := by
  obtain ⟨k, s, f, d, t⟩ := a
  have u3 := Tryz.underlying3
  have a3 := Tryz.isAgg3
  have z3 := Tryz.sizeOf3
  have hS : Tryz.prog.underlying 37 = some (.struct (Tryz.prog.fieldsOf 37)) := by kernel_rfl
  have hc : ∀ (v : Value) (w : World), (Instr.checkKey e 9999 3 v).run Tryz.prog w = .ok () w := fun v w => by
    rw [show (9999 : Nat) = 9998 + 1 from rfl, Instr.checkKey, Sem.run_bind, run_underlying u3]
    rfl
  rw [show (10000 : Nat) = 9999 + 1 from rfl]
  unfold kv5
  rw [Instr.checkKey, Sem.run_bind, run_underlying hS, Result.andThen_ok]
  simp only [Program.fieldsOf, Tryz.underlying37]
  generalize 9999 = N at hc
  go_simp
instance : KeyV Tryz.prog 37 K5 kv5 where
  check := check_key5
  find := fun M k w => find_key (d := .struct (Tryz.prog.fieldsOf 37)) (by kernel_rfl) (fun a b => rfl) eq_key5 M k w
  same := fun k => by
    rw [show (10000 : Nat) = 9998 + 1 + 1 from rfl]
    unfold kv5
    simp [Instr.sameBits]
instance : MpK Tryz.prog 72 37 45 := ⟨Tryz.underlying72⟩
/-- A table as one piece. -/
def tbC (max now : Int) (tb r ck : Nat) (C : Tb) : Ch := [(tb, .cells [.int .i64 max, .int .i64 now, .map (some r)].toArray 74 (0, 0)), (r, kObj kv5 (gM fval C) ck)]
set_option maxHeartbeats 4000000 in
theorem table_New (max : Int) (w : World) :
    Calls Tryz.prog 4 #[.int .i64 max] w (Ret w [] (fun v L => (¬ (1 ≤ max ∧ max ≤ 30) ∧ v = .tuple #[.pointer none, er 1] ∧ L = []) ∨ ((1 ≤ max ∧ max ≤ 30) ∧ ∃ tb r : Nat, v = .tuple #[.pointer (some ⟨tb, 0, none⟩), .nilIface] ∧ L = [tbC max 0 tb r 0 []]))) := by
  refine cx_enter (args := [.int .i64 max]) (F := [(0, .int .i64 max)]) _ [] Tryz.func4 rfl Tryz.ntmps4 (by simp) rfl (Mem.refl _) (fun g => ?_)
  repeat' (first | (refine sx_makeMapK kv5 ?_; intro r) | ((with_reducible refine at_build ?_); refine sx_build [.int .i64 max, .int .i64 0, .map (some r)] rfl ?_) | ((with_reducible refine at_op ?_); first | ((with_reducible refine at_guard ?_); first | refine sx_want rfl rfl rfl ras ?_ | refine sx_skip rfl rfl rfl ras ?_ | (refine sx_orG rfl rfl rfl rfl rfl rfl ?_ (fun hb K hK => ?_); apply Exists.intro; refine And.intro (fun hb K hK => ?_) (fun g => ?_))) | ((with_reducible refine at_move ?_); refine sx_move _ vf ?_) | ((with_reducible refine at_bin ?_); first | refine sx_lss rfl rfl ?_ | refine sx_gtr rfl rfl ?_) | ((with_reducible refine at_assign ?_); refine sx_assign _ vf ?_) | ((with_reducible refine at_iface ?_); refine sx_iface _ vf ?_) | (refine sx_box rfl ?_; intro b)) | refine sx_nil ?_ | ((with_reducible refine at_grp ?_); refine sx_grpC rfl ?_) | ((with_reducible refine at_code ?_); first | refine cx_seq ?_ | refine cx_region ?_ | refine cx_skip ?_ | refine cx_ret ?_ | (refine cx_cond rfl (fun h => ?_) (fun h => ?_) <;> (try simp only [decide_eq_true_eq, decide_eq_false_iff_not, Bool.and_eq_true, Bool.or_eq_true, Bool.and_eq_false_iff, Bool.or_eq_false_iff, Bool.not_eq_true', Bool.not_eq_false', Bool.not_true, Bool.not_false, Bool.true_or, Bool.or_true, Bool.false_or, Bool.or_false, Bool.and_true, Bool.true_and, Bool.false_and, Bool.and_false, reduceCtorEq, Classical.not_not, beq_self_eq_true, bne_self_eq_false, not_true_eq_false, not_false_eq_true, or_false, false_or, or_true, true_or, and_true, true_and, and_false, false_and, or_self, and_self] at h) <;> (try (exfalso; omega)))) | ((with_reducible refine at_exit ?_); first | refine qx_then ?_ | ((with_reducible refine at_K ?_); first | exact hK _ _ _ rfl ⟨rfl, rfl⟩ rfl | exact hK _ _ _ rfl rfl ⟨rfl, rfl⟩ rfl) | refine qx_then_ret ?_))
  all_goals try (exfalso; omega)
  all_goals first
    | (refine qx_ret2 (v := .pointer none) (x := .iface _ _) [] rfl rfl rfl (.inl ⟨by omega, ?_, rfl⟩) (fun w hm => hm.nil)
       rw [er, errV_ne (by decide)])
    | exact qx_ret2 (v := .pointer _) (x := .nilIface) [tbC max 0 _ r 0 []] rfl rfl rfl (.inr ⟨by omega, _, r, rfl, rfl⟩) (fun w hm => hm.perm (.refl _))
theorem table_Len {max now : Int} {tb r ck : Nat} {C : Tb} {w : World} (h : Has w (tbC max now tb r ck C)) : Calls Tryz.prog 23 #[.pointer (some ⟨tb, 0, none⟩)] w (Ret w [] (isV (.int .i64 C.length))) := by
  have h0 : w.heap[tb]? = some (.cells [.int .i64 max, .int .i64 now, .map (some r)].toArray 74 (0, 0)) := h _ (List.Mem.head _)
  have h1 : w.heap[r]? = some (kObj kv5 (gM fval C) ck) := h _ (List.Mem.tail _ (List.Mem.head _))
  refine cx_enter (args := [.pointer (some ⟨tb, 0, none⟩)]) (F := [(0, .pointer (some ⟨tb, 0, none⟩))]) _ [] Tryz.func23 rfl Tryz.ntmps23 (by simp) rfl (Mem.refl _) (fun g => ?_)
  repeat' (first | ((with_reducible refine at_load ?_); refine sx_loadB rfl h0 rfl ?_) | (refine sx_lenKW (kv := kv5) (M := gM fval C) (ck := ck) rfl (fun w hm => hm.old0 h1) ?_) | ((with_reducible refine at_op ?_); first | ((with_reducible refine at_move ?_); refine sx_move _ vf ?_) | ((with_reducible refine at_assign ?_); refine sx_assign _ vf ?_) | refine sx_nilCheck rfl ?_ | refine sx_fieldAddr rfl ?_) | refine sx_nil ?_ | ((with_reducible refine at_code ?_); first | refine cx_seq ?_ | refine cx_region ?_ | refine cx_ret ?_) | ((with_reducible refine at_exit ?_); refine qx_then ?_))
  rw [gM_len]
  exact qx_ret1 (v := .int _ _) [] rfl rfl ⟨rfl, rfl⟩ (fun w hm => hm.nil)
/-- What is wrong with a time. -/
def timE (tnow now : Int) : Int := if ¬ (0 ≤ now ∧ now ≤ 1000000) then 1 else if now < tnow then 6 else 0
set_option maxHeartbeats 4000000 in
theorem table_time {max tnow : Int} {tb r ck : Nat} {C : Tb} (now : Int) {w : World} (h : Has w (tbC max tnow tb r ck C)) : Calls Tryz.prog 30 #[.pointer (some ⟨tb, 0, none⟩), .int .i64 now] w (Ret w [] (isV (er (timE tnow now)))) := by
  have h0 : w.heap[tb]? = some (.cells [.int .i64 max, .int .i64 tnow, .map (some r)].toArray 74 (0, 0)) := h _ (List.Mem.head _)
  refine cx_enter (args := [.pointer (some ⟨tb, 0, none⟩), .int .i64 now]) (F := [(0, .pointer (some ⟨tb, 0, none⟩)), (1, .int .i64 now)]) _ [] Tryz.func30 rfl Tryz.ntmps30 (by simp) rfl (Mem.refl _) (fun g => ?_)
  repeat' (first | ((with_reducible refine at_load ?_); refine sx_loadB rfl h0 rfl ?_) | ((with_reducible refine at_call 39 ?_); refine sx_callv (fun w hm => track_Time _ _) ?_ rfl) | ((with_reducible refine at_op ?_); first | ((with_reducible refine at_move ?_); refine sx_move _ vf ?_) | ((with_reducible refine at_bin ?_); refine sx_lss rfl rfl ?_) | ((with_reducible refine at_assign ?_); refine sx_assign _ vf ?_) | refine sx_nilCheck rfl ?_ | refine sx_fieldAddr rfl ?_ | refine sx_not rfl ?_ | ((with_reducible refine at_iface ?_); refine sx_iface _ vf ?_)) | refine sx_nil ?_ | ((with_reducible refine at_code ?_); first | refine cx_seq ?_ | refine cx_region ?_ | refine cx_skip ?_ | refine cx_ret ?_ | refine cx_block ?_ | (refine cx_cond rfl (fun h => ?_) (fun h => ?_) <;> (try simp only [decide_eq_true_eq, decide_eq_false_iff_not, Bool.and_eq_true, Bool.or_eq_true, Bool.and_eq_false_iff, Bool.or_eq_false_iff, Bool.not_eq_true', Bool.not_eq_false', Bool.not_true, Bool.not_false, Bool.true_or, Bool.or_true, Bool.false_or, Bool.or_false, Bool.and_true, Bool.true_and, Bool.false_and, Bool.and_false, reduceCtorEq, Classical.not_not, beq_self_eq_true, bne_self_eq_false, not_true_eq_false, not_false_eq_true, or_false, false_or, or_true, true_or, and_true, true_and, and_false, false_and, or_self, and_self] at h) <;> (try (exfalso; omega)))) | ((with_reducible refine at_exit ?_); first | refine qx_then ?_ | refine qx_in_normal ?_ | refine qx_in_ret ?_ | refine qx_then_ret ?_))
  all_goals try (exfalso; omega)
  all_goals first
    | (have e : timE tnow now = 1 := by unfold timE; rw [if_pos (by omega)]
       exact qx_ret1 (v := .iface _ _) [] rfl rfl ⟨by rw [e, er, errV_ne (by decide)], rfl⟩ (fun w hm => hm.nil))
    | (have e : timE tnow now = 6 := by unfold timE; rw [if_neg (by omega), if_pos (by omega)]
       exact qx_ret1 (v := .iface _ _) [] rfl rfl ⟨by rw [e, er, errV_ne (by decide)], rfl⟩ (fun w hm => hm.nil))
    | (have e : timE tnow now = 0 := by unfold timE; rw [if_neg (by omega), if_neg (by omega)]
       exact qx_ret1 (v := .nilIface) [] rfl rfl ⟨by rw [e, er, errV_zero], rfl⟩ (fun w hm => hm.nil))
end Go.Proofs.YtghnjmjdaggopaaGreatDoor

set_option linter.unusedSimpArgs false
set_option linter.unusedVariables false
namespace Go.Proofs.YtghnjmjdaggopaaGreatDoor
open Go.RowKit Go.Port
theorem eq_key (k s f d t k' s' f' d' t' : Int) (w : World) : (Op.equalIn 10000 37 (.agg #[.int .i64 k, .int .i64 s, .int .i64 f, .int .i64 d, .int .i64 t]) (.agg #[.int .i64 k', .int .i64 s', .int .i64 f', .int .i64 d', .int .i64 t'])).run Tryz.prog w = .ok (decide (k = k' ∧ s = s' ∧ f = f' ∧ d = d' ∧ t = t')) w := by
  have u3 := Tryz.underlying3
  have a3 := Tryz.isAgg3
  have z3 := Tryz.sizeOf3
  have hS : Tryz.prog.underlying 37 = some (.struct (Tryz.prog.fieldsOf 37)) := by kernel_rfl
  rw [show (10000 : Nat) = 9999 + 1 from rfl, run_equalIn_agg w 9999 37 _ _ hS (by kernel_rfl)]
  simp only [Program.fieldsOf, Tryz.underlying37]
  go_simp
  by_cases h1 : k = k' <;> by_cases h2 : s = s' <;> by_cases h3 : f = f' <;> by_cases h4 : d = d' <;> by_cases h5 : t = t' <;> simp [h1, h2, h3, h4, h5]
section
variable {w0 : World} {D : List Nat} {n q : Nat} {ops : Array Oper} {Q : Exit → Act → World → Prop} {g : Nat → Value} {F : List (Nat × Value)} {L : List Ch}
variable {rest : List Oper} {ty : TypeId} {pos : String} {af : Array Edge} {d : Nat}
theorem sx_eqlK {x y : Operand} {k s f e t k' s' f' e' t' : Int} {t2 : TypeId} (hx : evn n (get g F) x = .agg #[.int .i64 k, .int .i64 s, .int .i64 f, .int .i64 e, .int .i64 t]) (hy : evn n (get g F) y = .agg #[.int .i64 k', .int .i64 s', .int .i64 f', .int .i64 e', .int .i64 t'])
    (h : SX Tryz.prog w0 D n q ops Q rest g ((d, .bool (decide (k = k' ∧ s = s' ∧ f = f' ∧ e = e' ∧ t = t'))) :: F) L) :
    SX Tryz.prog w0 D n q ops Q ({ dst := some d, op := .binOp .eql 37 x y t2, type := ty, pos := pos, after := af, guard := none } :: rest) g F L :=
  sx_run _ rfl rfl (fun w _ => by
    have h1 := run_eqGuard_agg (P := Tryz.prog) w .eql 37 x y #[.int .i64 k, .int .i64 s, .int .i64 f, .int .i64 e, .int .i64 t] #[.int .i64 k', .int .i64 s', .int .i64 f', .int .i64 e', .int .i64 t'] (by kernel_rfl)
    simp only [execOp, hx, hy, Sem.run_bind, h1, Result.andThen_ok, run_eql_struct, eq_key]
    rfl) h
theorem sx_neqK {x y : Operand} {k s f e t k' s' f' e' t' : Int} {t2 : TypeId} (hx : evn n (get g F) x = .agg #[.int .i64 k, .int .i64 s, .int .i64 f, .int .i64 e, .int .i64 t]) (hy : evn n (get g F) y = .agg #[.int .i64 k', .int .i64 s', .int .i64 f', .int .i64 e', .int .i64 t'])
    (h : SX Tryz.prog w0 D n q ops Q rest g ((d, .bool (!decide (k = k' ∧ s = s' ∧ f = f' ∧ e = e' ∧ t = t'))) :: F) L) :
    SX Tryz.prog w0 D n q ops Q ({ dst := some d, op := .binOp .neq 37 x y t2, type := ty, pos := pos, after := af, guard := none } :: rest) g F L :=
  sx_run _ rfl rfl (fun w _ => by
    have h1 := run_eqGuard_agg (P := Tryz.prog) w .neq 37 x y #[.int .i64 k, .int .i64 s, .int .i64 f, .int .i64 e, .int .i64 t] #[.int .i64 k', .int .i64 s', .int .i64 f', .int .i64 e', .int .i64 t'] (by kernel_rfl)
    simp only [execOp, hx, hy, Sem.run_bind, h1, Result.andThen_ok, run_neq_struct, eq_key]
    rfl) h
/-- Of a key and itself. -/
theorem sx_neqSame {x y : Operand} {k s f e t : Int} {t2 : TypeId} (hx : evn n (get g F) x = .agg #[.int .i64 k, .int .i64 s, .int .i64 f, .int .i64 e, .int .i64 t]) (hy : evn n (get g F) y = .agg #[.int .i64 k, .int .i64 s, .int .i64 f, .int .i64 e, .int .i64 t])
    (h : SX Tryz.prog w0 D n q ops Q rest g ((d, .bool false) :: F) L) :
    SX Tryz.prog w0 D n q ops Q ({ dst := some d, op := .binOp .neq 37 x y t2, type := ty, pos := pos, after := af, guard := none } :: rest) g F L :=
  sx_neqK hx hy (by simpa using h)
end
end Go.Proofs.YtghnjmjdaggopaaGreatDoor

set_option linter.unusedSimpArgs false
set_option linter.unusedVariables false
namespace Go.Proofs.YtghnjmjdaggopaaGreatDoor
open Go.RowKit Go.Port
section
variable {P : Program} {w0 : World} {D : List Nat} {n q : Nat} {ops : Array Oper} {Q : Exit → Act → World → Prop} {g : Nat → Value} {F : List (Nat × Value)} {L : List Ch}
variable {rest : List Oper} {ty : TypeId} {pos : String} {af : Array Edge} {d : Nat}
theorem sx_subU32 {x y : Operand} {a b : Int} {t1 t2 : TypeId} (hx : evn n (get g F) x = .int .u32 a) (hy : evn n (get g F) y = .int .u32 b) (h : SX P w0 D n q ops Q rest g ((d, .int .u32 ((a - b) % 4294967296)) :: F) L) :
    SX P w0 D n q ops Q ({ dst := some d, op := .binOp .sub t1 x y t2, type := ty, pos := pos, after := af, guard := none } :: rest) g F L :=
  sx_run (.int .u32 ((a - b) % 4294967296)) rfl rfl (fun w _ => by
    simp only [execOp, hx, hy, eqGuard, binOp, Op.intArith, IntKind.wrap_u32]; rfl) h
theorem sx_negU32 {x : Operand} {a : Int} {t1 : TypeId} (hx : evn n (get g F) x = .int .u32 a) (h : SX P w0 D n q ops Q rest g ((d, .int .u32 ((-a) % 4294967296)) :: F) L) :
    SX P w0 D n q ops Q ({ dst := some d, op := .unOp .neg t1 x, type := ty, pos := pos, after := af, guard := none } :: rest) g F L :=
  sx_run (.int .u32 ((-a) % 4294967296)) rfl rfl (fun w _ => by simp only [execOp, hx, Op.unary, Op.intArith, Int.zero_sub, IntKind.wrap_u32]; rfl) h
end
end Go.Proofs.YtghnjmjdaggopaaGreatDoor

/- Texts in walks: two texts are compared. No program here. -/
set_option linter.unusedSimpArgs false
set_option linter.unusedVariables false
namespace Go.Port
open Go.RowKit
/-- A text as a value. -/
def tx (l : List UInt8) : Value := .string ⟨l.toArray⟩
section
variable {P : Program} {w0 : World} {D : List Nat} {n q : Nat} {ops : Array Oper} {Q : Exit → Act → World → Prop} {g : Nat → Value} {F : List (Nat × Value)} {L : List Ch}
variable {rest : List Oper} {ty : TypeId} {pos : String} {af : Array Edge} {d : Nat}
end
end Go.Port
/- Texts in walks: one behind the other, their length, their bytes, their parts. No program here. -/
set_option linter.unusedSimpArgs false
set_option linter.unusedVariables false
namespace Go.Port
open Go.RowKit
section
variable {P : Program} {w0 : World} {D : List Nat} {n q : Nat} {ops : Array Oper} {Q : Exit → Act → World → Prop} {g : Nat → Value} {F : List (Nat × Value)} {L : List Ch}
variable {rest : List Oper} {ty : TypeId} {pos : String} {af : Array Edge} {d : Nat}
end
end Go.Port
/- Texts in walks: two that are the same, or not. No program here. -/
set_option linter.unusedSimpArgs false
set_option linter.unusedVariables false
namespace Go.Port
open Go.RowKit
section
variable {P : Program} {w0 : World} {D : List Nat} {n q : Nat} {ops : Array Oper} {Q : Exit → Act → World → Prop} {g : Nat → Value} {F : List (Nat × Value)} {L : List Ch}
variable {rest : List Oper} {ty : TypeId} {pos : String} {af : Array Edge} {d : Nat}
end
end Go.Port
/- A result that lies in a cell. No program here. -/
set_option linter.unusedSimpArgs false
set_option linter.unusedVariables false
namespace Go.Port
open Go.RowKit
theorem qx_retC1 {P : Program} {w0 : World} {D : List Nat} {n : Nat} {g : Nat → Value} {F : List (Nat × Value)} {L : List Ch} {fn : Func} {R : Value → List Ch → Prop} {t b : Nat} {T sz : Nat} [TyT P T sz true] {cs : List Value} {T' : TypeId} {fr : Nat × Nat} (i : Nat) (L' : List Ch) (h : fn.results = #[.cell t T])
    (ht : evn n (get g F) (.tmp t) = .pointer (some ⟨b, 0, none⟩)) (hL : L[i]? = some [(b, .cells cs.toArray T' fr)]) (hl : cs.length = sz) (hR : R (.agg cs.toArray) L') (hM : ∀ w, Mem w0 w D L → Mem w0 w D L') :
    QX w0 D n (bodyPost P fn (Ret w0 D R)) .ret g F L :=
  .mk fun w hm => by
    have h1 : (Fr n (get g F)).tmps.getD t undef = .pointer (some ⟨b, 0, none⟩) := by rw [← ht, ← Fr.evn]; rfl
    have h4 := loadVar_agg (P := P) (T := T) (w := w) (b := b) (off := 0) hl (fun j v hj => cell_of_cells (hm.at i hL (b, .cells cs.toArray T' fr) (by simp)) (by rw [Nat.zero_add]; exact hj))
    refine bodyPost_ret (v := .agg cs.toArray) ?_ Fr.defers ⟨_, L', rfl, hM w hm, hR⟩
    generalize (Fr n (get g F)).tmps = tm at h1
    simp [results, h, h1, h4, asAddr, -Array.getD_eq_getD_getElem?]
end Go.Port
/- Steps of a call: append of a make onto nil. No program here. -/
set_option linter.unusedSimpArgs false
set_option linter.unusedVariables false
namespace Go.Port
open Go.RowKit Go.Lib
section
variable {P : Program} {w0 : World} {D : List Nat} {n q : Nat} {ops : Array Oper} {Q : Exit → Act → World → Prop} {g : Nat → Value} {F : List (Nat × Value)} {L : List Ch}
variable {rest : List Oper} {ty : TypeId} {pos : String} {af : Array Edge} {d : Nat}
end
end Go.Port

set_option linter.unusedSimpArgs false
set_option linter.unusedVariables false
set_option maxRecDepth 100000
namespace Go.Proofs.YtghnjmjdaggopaaGreatDoor
open Go.RowKit Go.Port
attribute [local irreducible] Calls
set_option maxHeartbeats 1000000 in
theorem seg_Turn (k s f d t : Int) (w : World) : Calls Tryz.prog 58 #[.agg #[.int .i64 k, .int .i64 s, .int .i64 f, .int .i64 d, .int .i64 t]] w (Ret w [] (isV (.agg #[.int .i64 k, .int .i64 d, .int .i64 t, .int .i64 s, .int .i64 f]))) := by
  refine cx_enter (args := [.agg #[.int .i64 k, .int .i64 s, .int .i64 f, .int .i64 d, .int .i64 t]]) (F := [(0, .agg #[.int .i64 k, .int .i64 s, .int .i64 f, .int .i64 d, .int .i64 t])]) _ [] Tryz.func58 rfl Tryz.ntmps58 (by simp) rfl (Mem.refl _) (fun g => ?_)
  repeat' (first | ((with_reducible refine at_any ?_); first | (refine ax_pure (o := ⟨_, _, _, _, _, _⟩) rfl dk rfl rfl rfl rfl ?_; apply Exists.intro; refine And.intro (fun w => ?_) ?_) | refine ax_skip (o := ⟨_, _, _, _, _, _⟩) dk rfl rfl rfl rfl rfl rfl ras ?_ | refine ax_lone (o := ⟨_, _, _, _, _, _⟩) dk rfl ?_ | refine ax_over dk ?_) | ((with_reducible refine at_op ?_); first | ((with_reducible refine at_guard ?_); first | refine sx_want rfl rfl rfl ras ?_ | refine sx_skip rfl rfl rfl ras ?_ | refine sx_skipu rfl rfl rfl ?_ | refine sx_skip' rfl rfl rfl ras ?_ | refine sx_lit true rfl rfl rfl dec ?_ | refine sx_lit false rfl rfl rfl dec ?_ | (refine sx_orG rfl rfl rfl rfl rfl rfl ?_ (fun hb K hK => ?_); apply Exists.intro; refine And.intro (fun hb K hK => ?_) (fun g => ?_)) | (refine sx_andG rfl rfl rfl rfl rfl rfl ?_ (fun hb K hK => ?_); apply Exists.intro; refine And.intro (fun hb K hK => ?_) (fun g => ?_))) | ((with_reducible refine at_move ?_); first | refine sx_move _ vf ?_) | ((with_reducible refine at_bin ?_); first | refine sx_lss rfl rfl ?_ | refine sx_leq rfl rfl ?_ | refine sx_gtr rfl rfl ?_ | refine sx_geq rfl rfl ?_ | refine sx_eql rfl rfl ?_ | refine sx_neq rfl rfl ?_ | refine sx_add rfl rfl bnd ?_ | refine sx_sub rfl rfl bnd ?_ | refine sx_mul rfl rfl bnd ?_ | refine sx_quo rfl rfl bnd ?_ | refine sx_rem rfl rfl bnd ?_ | refine sx_subU8 rfl rfl bnd ?_ | refine sx_shr rfl rfl bnd ?_ | refine sx_shl8 rfl rfl bnd ?_ | refine sx_or8 rfl rfl bnd ?_ | refine sx_or15 rfl rfl bnd ?_ | refine sx_not15 rfl rfl bnd ?_ | refine sx_andI rfl rfl bnd ?_ | refine sx_remT rfl rfl bnd ?_ | refine sx_err_ne rfl ?_ | refine sx_err_eq rfl ?_ | refine sx_errn_ne rfl ?_ | refine sx_errn_eq rfl ?_ | refine sx_pure (v := .bool _) rfl ?_ | refine sx_pure (v := .int _ _) rfl ?_) | ((with_reducible refine at_assign ?_); first | refine sx_assign _ vf ?_) | ((with_reducible refine at_load ?_); first | refine sx_load 0 rfl rfl rfl ?_ | refine sx_load 1 rfl rfl rfl ?_ | refine sx_load 2 rfl rfl rfl ?_ | refine sx_load 3 rfl rfl rfl ?_ | refine sx_load 4 rfl rfl rfl ?_ | refine sx_load 5 rfl rfl rfl ?_ | refine sx_load 6 rfl rfl rfl ?_ | refine sx_load 7 rfl rfl rfl ?_ | refine sx_loadW 0 rfl rfl rfl ?_ | refine sx_loadW 1 rfl rfl rfl ?_ | refine sx_loadW 2 rfl rfl rfl ?_ | refine sx_loadW 3 rfl rfl rfl ?_ | refine sx_loadW 4 rfl rfl rfl ?_ | refine sx_loadW 5 rfl rfl rfl ?_ | refine sx_loadW 6 rfl rfl rfl ?_ | refine sx_loadW 7 rfl rfl rfl ?_ | (apply sx_loadB rfl; assumption; rfl) | (apply sx_loadBW rfl; assumption; rfl)) | ((with_reducible refine at_stores ?_); first | refine sx_stval _ vf ?_ | (apply sx_store rfl rfl rfl rfl; (repeat (first | exact set_z rfl | apply set_succ))) | (refine sx_rot rot1 ?_; (apply sx_store rfl rfl rfl rfl; (repeat (first | exact set_z rfl | apply set_succ)))) | (refine sx_rot rot2 ?_; (apply sx_store rfl rfl rfl rfl; (repeat (first | exact set_z rfl | apply set_succ)))) | (refine sx_rot rot3 ?_; (apply sx_store rfl rfl rfl rfl; (repeat (first | exact set_z rfl | apply set_succ)))) | (refine sx_rot rot4 ?_; (apply sx_store rfl rfl rfl rfl; (repeat (first | exact set_z rfl | apply set_succ)))) | (refine sx_rot rot5 ?_; (apply sx_store rfl rfl rfl rfl; (repeat (first | exact set_z rfl | apply set_succ)))) | (refine sx_rot rot6 ?_; (apply sx_store rfl rfl rfl rfl; (repeat (first | exact set_z rfl | apply set_succ)))) | (refine sx_rot rot7 ?_; (apply sx_store rfl rfl rfl rfl; (repeat (first | exact set_z rfl | apply set_succ)))) | refine sx_storeW rfl rfl rfl rfl ?_ | (refine sx_rot rot1 ?_; refine sx_storeW rfl rfl rfl rfl ?_) | (refine sx_rot rot2 ?_; refine sx_storeW rfl rfl rfl rfl ?_) | (refine sx_rot rot3 ?_; refine sx_storeW rfl rfl rfl rfl ?_) | (refine sx_rot rot4 ?_; refine sx_storeW rfl rfl rfl rfl ?_) | (refine sx_rot rot5 ?_; refine sx_storeW rfl rfl rfl rfl ?_) | (refine sx_rot rot6 ?_; refine sx_storeW rfl rfl rfl rfl ?_) | (refine sx_rot rot7 ?_; refine sx_storeW rfl rfl rfl rfl ?_)) | refine sx_nilCheck rfl ?_ | refine sx_fieldAddr rfl ?_ | refine sx_not rfl ?_ | refine sx_neg rfl bnd ?_ | ((with_reducible refine at_build ?_); first | refine sx_build [_] rfl ?_ | refine sx_build [_, _] rfl ?_ | refine sx_build [_, _, _] rfl ?_ | refine sx_build [_, _, _, _] rfl ?_ | refine sx_build [_, _, _, _, _] rfl ?_ | refine sx_build [_, _, _, _, _, _] rfl ?_ | refine sx_build [_, _, _, _, _, _, _] rfl ?_ | refine sx_build [_, _, _, _, _, _, _, _] rfl ?_ | refine sx_build [_, _, _, _, _, _, _, _, _] rfl ?_ | refine sx_build [_, _, _, _, _, _, _, _, _, _] rfl ?_ | refine sx_build [_, _, _, _, _, _, _, _, _, _, _] rfl ?_ | refine sx_build [_, _, _, _, _, _, _, _, _, _, _, _] rfl ?_ | refine sx_build [_, _, _, _, _, _, _, _, _, _, _, _, _] rfl ?_ | refine sx_build [_, _, _, _, _, _, _, _, _, _, _, _, _, _] rfl ?_ | refine sx_build [_, _, _, _, _, _, _, _, _, _, _, _, _, _, _] rfl ?_) | refine sx_extract rfl rfl ?_ | ((with_reducible refine at_pick ?_); first | refine sx_pickT (.int _ _) rfl dec rfl ?_ | refine sx_pickT (.bool _) rfl dec rfl ?_ | refine sx_pickF (.int _ _) rfl dec rfl ?_ | refine sx_pickF (.bool _) rfl dec rfl ?_) | ((with_reducible refine at_iface ?_); first | refine sx_iface _ vf ?_) | refine sx_index rfl rfl bnd ?_ | ((with_reducible refine at_ixaddr ?_); first | refine sx_place 0 rfl rfl bnd rfl ?_ | refine sx_place 1 rfl rfl bnd rfl ?_ | refine sx_place 2 rfl rfl bnd rfl ?_ | refine sx_place 3 rfl rfl bnd rfl ?_ | refine sx_place 4 rfl rfl bnd rfl ?_ | refine sx_place 5 rfl rfl bnd rfl ?_ | refine sx_place 6 rfl rfl bnd rfl ?_ | refine sx_place 7 rfl rfl bnd rfl ?_) | refine sx_sliceFrom rfl rfl bnd ?_ | refine sx_sliceTo rfl rfl bnd ?_ | refine sx_sliceBoth rfl rfl rfl bnd ?_ | refine sx_sliceFull rfl rfl rfl bnd ?_ | ((with_reducible refine at_conv ?_); first | refine sx_convIn rfl bnd ?_ | refine sx_convU8 rfl bnd ?_ | refine sx_convU8m rfl ?_ | refine sx_convU32m rfl ?_ | refine sx_convU64m rfl ?_) | refine sx_len rfl ?_ | refine sx_min rfl rfl ?_ | refine sx_max rfl rfl ?_ | refine sx_field rfl rfl ?_ | (refine sx_box rfl ?_; intro b) | (refine sx_box1 rfl rfl ?_; intro b) | (refine sx_alloc ?_; intro b) | (refine sx_alloc1 rfl ?_; intro b) | refine sx_pure (v := .int _ _) rfl ?_ | refine sx_pure (v := .bool _) rfl ?_ | refine sx_pure (v := .pointer (some ⟨_, _, none⟩)) rfl ?_ | refine sx_pure (v := .slice _ _ _) rfl ?_ | refine sx_pure (v := .string _) rfl ?_ | refine sx_pure (v := .nilIface) rfl ?_ | refine sx_pure (v := errV _ _) rfl ?_ | refine sx_pure (v := .iface _ _) rfl ?_ | refine sx_pure (v := .agg _) rfl ?_ | refine sx_pure (v := .tuple _) rfl ?_ | refine sx_pure (v := .pointer none) rfl ?_ | refine sx_pure (v := .map _) rfl ?_ | refine sx_pure (v := .func _ _ _) rfl ?_ | refine sx_pure (v := .nilFunc) rfl ?_) | refine sx_nil ?_ | ((with_reducible refine at_grp ?_); first | refine sx_grpN rfl ?_ | refine sx_grpC rfl ?_) | ((with_reducible refine at_aft ?_); first | refine sx_aftN rfl ?_ | refine sx_aftC rfl ?_) | ((with_reducible refine at_code ?_); first | refine cx_seq ?_ | refine cx_quiet rfl dk dk ?_ | refine cx_any dk ?_ | refine cx_region ?_ | refine cx_skip ?_ | refine cx_ret ?_ | refine cx_exit ?_ | refine cx_block ?_ | refine cx_true rfl ?_ | refine cx_false rfl ?_ | (refine cx_cond rfl (fun h => ?_) (fun h => ?_) <;> (try simp only [decide_eq_true_eq, decide_eq_false_iff_not, Bool.and_eq_true, Bool.or_eq_true, Bool.and_eq_false_iff, Bool.or_eq_false_iff, Bool.not_eq_true', Bool.not_eq_false', Bool.not_true, Bool.not_false, Bool.true_or, Bool.or_true, Bool.false_or, Bool.or_false, Bool.and_true, Bool.true_and, Bool.false_and, Bool.and_false, reduceCtorEq, Classical.not_not, beq_self_eq_true, bne_self_eq_false, not_true_eq_false, not_false_eq_true, or_false, false_or, or_true, true_or, and_true, true_and, and_false, false_and, or_self, and_self] at h) <;> (try (exfalso; omega)))) | ((with_reducible refine at_exit ?_); first | refine qx_then ?_ | exact qx_isF | refine qx_any ?_ | ((with_reducible refine at_K ?_); first | exact hK _ _ _ rfl ⟨rfl, rfl⟩ rfl | exact hK _ _ _ rfl rfl ⟨rfl, rfl⟩ rfl) | refine qx_in_here ?_ | refine qx_in_normal ?_ | refine qx_in_ret ?_ | refine qx_in_out rfl ?_ | refine qx_then_ret ?_ | refine qx_then_exit ?_))
  exact qx_retC1 0 [] rfl rfl rfl rfl ⟨rfl, rfl⟩ (fun w hm => hm.nil)
end Go.Proofs.YtghnjmjdaggopaaGreatDoor

set_option linter.unusedSimpArgs false
set_option linter.unusedVariables false
set_option maxRecDepth 100000
namespace Go.Proofs.YtghnjmjdaggopaaGreatDoor
open Go.RowKit Go.Port
attribute [local irreducible] Calls
set_option maxHeartbeats 1000000 in
theorem addr_Ok (x : Int) (w : World) : Calls Tryz.prog 65 #[.int .i64 x] w (Ret w [] (isV (.bool (decide (0 ≤ x) && decide (x ≤ 4294967295))))) := by
  refine cx_enter (args := [.int .i64 x]) (F := [(0, .int .i64 x)]) _ [] Tryz.func65 rfl Tryz.ntmps65 (by simp) rfl (Mem.refl _) (fun g => ?_)
  repeat' (first | refine qx_ret1 [] rfl rfl ⟨rfl, rfl⟩ (fun w hm => hm.nil) | ((with_reducible refine at_any ?_); first | (refine ax_pure (o := ⟨_, _, _, _, _, _⟩) rfl dk rfl rfl rfl rfl ?_; apply Exists.intro; refine And.intro (fun w => ?_) ?_) | refine ax_skip (o := ⟨_, _, _, _, _, _⟩) dk rfl rfl rfl rfl rfl rfl ras ?_ | refine ax_lone (o := ⟨_, _, _, _, _, _⟩) dk rfl ?_ | refine ax_over dk ?_) | ((with_reducible refine at_op ?_); first | ((with_reducible refine at_guard ?_); first | refine sx_want rfl rfl rfl ras ?_ | refine sx_skip rfl rfl rfl ras ?_ | refine sx_skipu rfl rfl rfl ?_ | refine sx_skip' rfl rfl rfl ras ?_ | refine sx_lit true rfl rfl rfl dec ?_ | refine sx_lit false rfl rfl rfl dec ?_ | (refine sx_orG rfl rfl rfl rfl rfl rfl ?_ (fun hb K hK => ?_); apply Exists.intro; refine And.intro (fun hb K hK => ?_) (fun g => ?_)) | (refine sx_andG rfl rfl rfl rfl rfl rfl ?_ (fun hb K hK => ?_); apply Exists.intro; refine And.intro (fun hb K hK => ?_) (fun g => ?_))) | ((with_reducible refine at_move ?_); first | refine sx_move _ vf ?_) | ((with_reducible refine at_bin ?_); first | refine sx_lss rfl rfl ?_ | refine sx_leq rfl rfl ?_ | refine sx_gtr rfl rfl ?_ | refine sx_geq rfl rfl ?_ | refine sx_eql rfl rfl ?_ | refine sx_neq rfl rfl ?_ | refine sx_add rfl rfl bnd ?_ | refine sx_sub rfl rfl bnd ?_ | refine sx_mul rfl rfl bnd ?_ | refine sx_quo rfl rfl bnd ?_ | refine sx_rem rfl rfl bnd ?_ | refine sx_subU8 rfl rfl bnd ?_ | refine sx_shr rfl rfl bnd ?_ | refine sx_shl8 rfl rfl bnd ?_ | refine sx_or8 rfl rfl bnd ?_ | refine sx_or15 rfl rfl bnd ?_ | refine sx_not15 rfl rfl bnd ?_ | refine sx_andI rfl rfl bnd ?_ | refine sx_remT rfl rfl bnd ?_ | refine sx_err_ne rfl ?_ | refine sx_err_eq rfl ?_ | refine sx_errn_ne rfl ?_ | refine sx_errn_eq rfl ?_ | refine sx_pure (v := .bool _) rfl ?_ | refine sx_pure (v := .int _ _) rfl ?_) | ((with_reducible refine at_assign ?_); first | refine sx_assign _ vf ?_) | ((with_reducible refine at_load ?_); first | refine sx_load 0 rfl rfl rfl ?_ | refine sx_load 1 rfl rfl rfl ?_ | refine sx_load 2 rfl rfl rfl ?_ | refine sx_load 3 rfl rfl rfl ?_ | refine sx_load 4 rfl rfl rfl ?_ | refine sx_load 5 rfl rfl rfl ?_ | refine sx_load 6 rfl rfl rfl ?_ | refine sx_load 7 rfl rfl rfl ?_ | refine sx_loadW 0 rfl rfl rfl ?_ | refine sx_loadW 1 rfl rfl rfl ?_ | refine sx_loadW 2 rfl rfl rfl ?_ | refine sx_loadW 3 rfl rfl rfl ?_ | refine sx_loadW 4 rfl rfl rfl ?_ | refine sx_loadW 5 rfl rfl rfl ?_ | refine sx_loadW 6 rfl rfl rfl ?_ | refine sx_loadW 7 rfl rfl rfl ?_ | (apply sx_loadB rfl; assumption; rfl) | (apply sx_loadBW rfl; assumption; rfl)) | ((with_reducible refine at_stores ?_); first | refine sx_stval _ vf ?_ | (apply sx_store rfl rfl rfl rfl; (repeat (first | exact set_z rfl | apply set_succ))) | (refine sx_rot rot1 ?_; (apply sx_store rfl rfl rfl rfl; (repeat (first | exact set_z rfl | apply set_succ)))) | (refine sx_rot rot2 ?_; (apply sx_store rfl rfl rfl rfl; (repeat (first | exact set_z rfl | apply set_succ)))) | (refine sx_rot rot3 ?_; (apply sx_store rfl rfl rfl rfl; (repeat (first | exact set_z rfl | apply set_succ)))) | (refine sx_rot rot4 ?_; (apply sx_store rfl rfl rfl rfl; (repeat (first | exact set_z rfl | apply set_succ)))) | (refine sx_rot rot5 ?_; (apply sx_store rfl rfl rfl rfl; (repeat (first | exact set_z rfl | apply set_succ)))) | (refine sx_rot rot6 ?_; (apply sx_store rfl rfl rfl rfl; (repeat (first | exact set_z rfl | apply set_succ)))) | (refine sx_rot rot7 ?_; (apply sx_store rfl rfl rfl rfl; (repeat (first | exact set_z rfl | apply set_succ)))) | refine sx_storeW rfl rfl rfl rfl ?_ | (refine sx_rot rot1 ?_; refine sx_storeW rfl rfl rfl rfl ?_) | (refine sx_rot rot2 ?_; refine sx_storeW rfl rfl rfl rfl ?_) | (refine sx_rot rot3 ?_; refine sx_storeW rfl rfl rfl rfl ?_) | (refine sx_rot rot4 ?_; refine sx_storeW rfl rfl rfl rfl ?_) | (refine sx_rot rot5 ?_; refine sx_storeW rfl rfl rfl rfl ?_) | (refine sx_rot rot6 ?_; refine sx_storeW rfl rfl rfl rfl ?_) | (refine sx_rot rot7 ?_; refine sx_storeW rfl rfl rfl rfl ?_)) | refine sx_nilCheck rfl ?_ | refine sx_fieldAddr rfl ?_ | refine sx_not rfl ?_ | refine sx_neg rfl bnd ?_ | ((with_reducible refine at_build ?_); first | refine sx_build [_] rfl ?_ | refine sx_build [_, _] rfl ?_ | refine sx_build [_, _, _] rfl ?_ | refine sx_build [_, _, _, _] rfl ?_ | refine sx_build [_, _, _, _, _] rfl ?_ | refine sx_build [_, _, _, _, _, _] rfl ?_ | refine sx_build [_, _, _, _, _, _, _] rfl ?_ | refine sx_build [_, _, _, _, _, _, _, _] rfl ?_ | refine sx_build [_, _, _, _, _, _, _, _, _] rfl ?_ | refine sx_build [_, _, _, _, _, _, _, _, _, _] rfl ?_ | refine sx_build [_, _, _, _, _, _, _, _, _, _, _] rfl ?_ | refine sx_build [_, _, _, _, _, _, _, _, _, _, _, _] rfl ?_ | refine sx_build [_, _, _, _, _, _, _, _, _, _, _, _, _] rfl ?_ | refine sx_build [_, _, _, _, _, _, _, _, _, _, _, _, _, _] rfl ?_ | refine sx_build [_, _, _, _, _, _, _, _, _, _, _, _, _, _, _] rfl ?_) | refine sx_extract rfl rfl ?_ | ((with_reducible refine at_pick ?_); first | refine sx_pickT (.int _ _) rfl dec rfl ?_ | refine sx_pickT (.bool _) rfl dec rfl ?_ | refine sx_pickF (.int _ _) rfl dec rfl ?_ | refine sx_pickF (.bool _) rfl dec rfl ?_) | ((with_reducible refine at_iface ?_); first | refine sx_iface _ vf ?_) | refine sx_index rfl rfl bnd ?_ | ((with_reducible refine at_ixaddr ?_); first | refine sx_place 0 rfl rfl bnd rfl ?_ | refine sx_place 1 rfl rfl bnd rfl ?_ | refine sx_place 2 rfl rfl bnd rfl ?_ | refine sx_place 3 rfl rfl bnd rfl ?_ | refine sx_place 4 rfl rfl bnd rfl ?_ | refine sx_place 5 rfl rfl bnd rfl ?_ | refine sx_place 6 rfl rfl bnd rfl ?_ | refine sx_place 7 rfl rfl bnd rfl ?_) | refine sx_sliceFrom rfl rfl bnd ?_ | refine sx_sliceTo rfl rfl bnd ?_ | refine sx_sliceBoth rfl rfl rfl bnd ?_ | refine sx_sliceFull rfl rfl rfl bnd ?_ | ((with_reducible refine at_conv ?_); first | refine sx_convIn rfl bnd ?_ | refine sx_convU8 rfl bnd ?_ | refine sx_convU8m rfl ?_ | refine sx_convU32m rfl ?_ | refine sx_convU64m rfl ?_) | refine sx_len rfl ?_ | refine sx_min rfl rfl ?_ | refine sx_max rfl rfl ?_ | refine sx_field rfl rfl ?_ | (refine sx_box rfl ?_; intro b) | (refine sx_box1 rfl rfl ?_; intro b) | (refine sx_alloc ?_; intro b) | (refine sx_alloc1 rfl ?_; intro b) | refine sx_pure (v := .int _ _) rfl ?_ | refine sx_pure (v := .bool _) rfl ?_ | refine sx_pure (v := .pointer (some ⟨_, _, none⟩)) rfl ?_ | refine sx_pure (v := .slice _ _ _) rfl ?_ | refine sx_pure (v := .string _) rfl ?_ | refine sx_pure (v := .nilIface) rfl ?_ | refine sx_pure (v := errV _ _) rfl ?_ | refine sx_pure (v := .iface _ _) rfl ?_ | refine sx_pure (v := .agg _) rfl ?_ | refine sx_pure (v := .tuple _) rfl ?_ | refine sx_pure (v := .pointer none) rfl ?_ | refine sx_pure (v := .map _) rfl ?_ | refine sx_pure (v := .func _ _ _) rfl ?_ | refine sx_pure (v := .nilFunc) rfl ?_) | refine sx_nil ?_ | ((with_reducible refine at_grp ?_); first | refine sx_grpN rfl ?_ | refine sx_grpC rfl ?_) | ((with_reducible refine at_aft ?_); first | refine sx_aftN rfl ?_ | refine sx_aftC rfl ?_) | ((with_reducible refine at_code ?_); first | refine cx_seq ?_ | refine cx_quiet rfl dk dk ?_ | refine cx_any dk ?_ | refine cx_region ?_ | refine cx_skip ?_ | refine cx_ret ?_ | refine cx_exit ?_ | refine cx_block ?_ | refine cx_true rfl ?_ | refine cx_false rfl ?_ | (refine cx_cond rfl (fun h => ?_) (fun h => ?_) <;> (try simp only [decide_eq_true_eq, decide_eq_false_iff_not, Bool.and_eq_true, Bool.or_eq_true, Bool.and_eq_false_iff, Bool.or_eq_false_iff, Bool.not_eq_true', Bool.not_eq_false', Bool.not_true, Bool.not_false, Bool.true_or, Bool.or_true, Bool.false_or, Bool.or_false, Bool.and_true, Bool.true_and, Bool.false_and, Bool.and_false, reduceCtorEq, Classical.not_not, beq_self_eq_true, bne_self_eq_false, not_true_eq_false, not_false_eq_true, or_false, false_or, or_true, true_or, and_true, true_and, and_false, false_and, or_self, and_self] at h) <;> (try (exfalso; omega)))) | ((with_reducible refine at_exit ?_); first | refine qx_then ?_ | exact qx_isF | refine qx_any ?_ | ((with_reducible refine at_K ?_); first | exact hK _ _ _ rfl ⟨rfl, rfl⟩ rfl | exact hK _ _ _ rfl rfl ⟨rfl, rfl⟩ rfl) | refine qx_in_here ?_ | refine qx_in_normal ?_ | refine qx_in_ret ?_ | refine qx_in_out rfl ?_ | refine qx_then_ret ?_ | refine qx_then_exit ?_))
end Go.Proofs.YtghnjmjdaggopaaGreatDoor
