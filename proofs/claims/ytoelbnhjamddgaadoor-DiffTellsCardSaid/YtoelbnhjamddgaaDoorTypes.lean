/- The seat's types and functions, as instances. Printed by wip/tools/types.py. -/
import Derived.Test.YtoelbnhjamddgaaDoorEngB
import Derived.Test.YtoelbnhjamddgaaDoorProg
import Derived.KernelRfl
namespace Go.Proofs.YtoelbnhjamddgaaDoor
open Go.Port
instance : TyT Tryd.prog 2 1 false := ⟨fun w => Tryd.isAgg2 w, fun w => Tryd.sizeOf2 w⟩
instance : MkI Tryd.prog 2 := ⟨fun v w => by kernel_rfl⟩
instance : IntT Tryd.prog 2 .i64 := ⟨Tryd.underlying2⟩
instance : ZvT Tryd.prog 2 (.int .i64 0) := ⟨fun w => Tryd.zeroValue2 w⟩
instance : TyT Tryd.prog 3 1 false := ⟨fun w => Tryd.isAgg3 w, fun w => Tryd.sizeOf3 w⟩
instance : MkI Tryd.prog 3 := ⟨fun v w => by kernel_rfl⟩
instance : IntT Tryd.prog 3 .i64 := ⟨Tryd.underlying3⟩
instance : ZvT Tryd.prog 3 (.int .i64 0) := ⟨fun w => Tryd.zeroValue3 w⟩
instance : TyT Tryd.prog 4 1 false := ⟨fun w => Tryd.isAgg4 w, fun w => Tryd.sizeOf4 w⟩
instance : MkI Tryd.prog 4 := ⟨fun v w => by kernel_rfl⟩
instance : ZvT Tryd.prog 4 (.bool false) := ⟨fun w => Tryd.zeroValue4 w⟩
instance : TyT Tryd.prog 5 1 false := ⟨fun w => Tryd.isAgg5 w, fun w => Tryd.sizeOf5 w⟩
instance : MkI Tryd.prog 5 := ⟨fun v w => by kernel_rfl⟩
instance : IntT Tryd.prog 5 .u8 := ⟨Tryd.underlying5⟩
instance : ZvT Tryd.prog 5 (.int .u8 0) := ⟨fun w => Tryd.zeroValue5 w⟩
instance : TyT Tryd.prog 6 1 false := ⟨fun w => Tryd.isAgg6 w, fun w => Tryd.sizeOf6 w⟩
instance : MkI Tryd.prog 6 := ⟨fun v w => by kernel_rfl⟩
instance : IntT Tryd.prog 6 .u8 := ⟨Tryd.underlying6⟩
instance : ZvT Tryd.prog 6 (.int .u8 0) := ⟨fun w => Tryd.zeroValue6 w⟩
instance : TyT Tryd.prog 7 4 true := ⟨fun w => Tryd.isAgg7 w, fun w => Tryd.sizeOf7 w⟩
instance : MkI Tryd.prog 7 := ⟨fun v w => by kernel_rfl⟩
instance : ZvT Tryd.prog 7 (.agg #[.int .i64 0, .int .i64 0, .bool false, .int .u8 0]) := ⟨fun w => Tryd.zeroValue7 w⟩
instance : FdT Tryd.prog 7 0 0 2 := ⟨fun a w => by kernel_rfl, fun cs w => by kernel_rfl⟩
instance : FdT Tryd.prog 7 1 1 3 := ⟨fun a w => by kernel_rfl, fun cs w => by kernel_rfl⟩
instance : FdT Tryd.prog 7 2 2 4 := ⟨fun a w => by kernel_rfl, fun cs w => by kernel_rfl⟩
instance : FdT Tryd.prog 7 3 3 6 := ⟨fun a w => by kernel_rfl, fun cs w => by kernel_rfl⟩
instance : BldT Tryd.prog 7 [(0, 1), (1, 1), (2, 1), (3, 1)] [.int .i64 0, .int .i64 0, .bool false, .int .u8 0] := ⟨fun parts => by kernel_rfl⟩
instance : TyT Tryd.prog 8 4 true := ⟨fun w => Tryd.isAgg8 w, fun w => Tryd.sizeOf8 w⟩
instance : MkI Tryd.prog 8 := ⟨fun v w => by kernel_rfl⟩
instance : ZvT Tryd.prog 8 (.agg #[.int .i64 0, .int .i64 0, .bool false, .int .u8 0]) := ⟨fun w => Tryd.zeroValue8 w⟩
instance : FdT Tryd.prog 8 0 0 2 := ⟨fun a w => by kernel_rfl, fun cs w => by kernel_rfl⟩
instance : FdT Tryd.prog 8 1 1 3 := ⟨fun a w => by kernel_rfl, fun cs w => by kernel_rfl⟩
instance : FdT Tryd.prog 8 2 2 4 := ⟨fun a w => by kernel_rfl, fun cs w => by kernel_rfl⟩
instance : FdT Tryd.prog 8 3 3 6 := ⟨fun a w => by kernel_rfl, fun cs w => by kernel_rfl⟩
instance : BldT Tryd.prog 8 [(0, 1), (1, 1), (2, 1), (3, 1)] [.int .i64 0, .int .i64 0, .bool false, .int .u8 0] := ⟨fun parts => by kernel_rfl⟩
instance : TyT Tryd.prog 9 1 false := ⟨fun w => Tryd.isAgg9 w, fun w => Tryd.sizeOf9 w⟩
instance : MkI Tryd.prog 9 := ⟨fun v w => by kernel_rfl⟩
instance : StrT Tryd.prog 9 := ⟨Tryd.underlying9⟩
instance : ZvT Tryd.prog 9 (.string ⟨#[]⟩) := ⟨fun w => Tryd.zeroValue9 w⟩
instance : TyT Tryd.prog 10 1 false := ⟨fun w => Tryd.isAgg10 w, fun w => Tryd.sizeOf10 w⟩
instance : MkI Tryd.prog 10 := ⟨fun v w => by kernel_rfl⟩
instance : StrT Tryd.prog 10 := ⟨Tryd.underlying10⟩
instance : ZvT Tryd.prog 10 (.string ⟨#[]⟩) := ⟨fun w => Tryd.zeroValue10 w⟩
instance : TyT Tryd.prog 11 1 false := ⟨fun w => Tryd.isAgg11 w, fun w => Tryd.sizeOf11 w⟩
instance : MkI Tryd.prog 11 := ⟨fun v w => by kernel_rfl⟩
instance : StrT Tryd.prog 11 := ⟨Tryd.underlying11⟩
instance : ZvT Tryd.prog 11 (.string ⟨#[]⟩) := ⟨fun w => Tryd.zeroValue11 w⟩
instance : TyT Tryd.prog 12 1 false := ⟨fun w => Tryd.isAgg12 w, fun w => Tryd.sizeOf12 w⟩
instance : MkI Tryd.prog 12 := ⟨fun v w => by kernel_rfl⟩
instance : IntT Tryd.prog 12 .u64 := ⟨Tryd.underlying12⟩
instance : ZvT Tryd.prog 12 (.int .u64 0) := ⟨fun w => Tryd.zeroValue12 w⟩
instance : TyT Tryd.prog 13 2 true := ⟨fun w => Tryd.isAgg13 w, fun w => Tryd.sizeOf13 w⟩
instance : MkI Tryd.prog 13 := ⟨fun v w => by kernel_rfl⟩
instance : ZvT Tryd.prog 13 (.agg #[.string ⟨#[]⟩, .int .u64 0]) := ⟨fun w => Tryd.zeroValue13 w⟩
instance : FdT Tryd.prog 13 0 0 9 := ⟨fun a w => by kernel_rfl, fun cs w => by kernel_rfl⟩
instance : FdT Tryd.prog 13 1 1 12 := ⟨fun a w => by kernel_rfl, fun cs w => by kernel_rfl⟩
instance : BldT Tryd.prog 13 [(0, 1), (1, 1)] [.string ⟨#[]⟩, .int .u64 0] := ⟨fun parts => by kernel_rfl⟩
instance : TyT Tryd.prog 14 2 true := ⟨fun w => Tryd.isAgg14 w, fun w => Tryd.sizeOf14 w⟩
instance : MkI Tryd.prog 14 := ⟨fun v w => by kernel_rfl⟩
instance : ZvT Tryd.prog 14 (.agg #[.string ⟨#[]⟩, .int .u64 0]) := ⟨fun w => Tryd.zeroValue14 w⟩
instance : FdT Tryd.prog 14 0 0 9 := ⟨fun a w => by kernel_rfl, fun cs w => by kernel_rfl⟩
instance : FdT Tryd.prog 14 1 1 12 := ⟨fun a w => by kernel_rfl, fun cs w => by kernel_rfl⟩
instance : BldT Tryd.prog 14 [(0, 1), (1, 1)] [.string ⟨#[]⟩, .int .u64 0] := ⟨fun parts => by kernel_rfl⟩
instance : TyT Tryd.prog 15 1 false := ⟨fun w => Tryd.isAgg15 w, fun w => Tryd.sizeOf15 w⟩
instance : MkI Tryd.prog 15 := ⟨fun v w => by kernel_rfl⟩
instance : ZvT Tryd.prog 15 (.pointer none) := ⟨fun w => Tryd.zeroValue15 w⟩
instance : TyT Tryd.prog 16 1 false := ⟨fun w => Tryd.isAgg16 w, fun w => Tryd.sizeOf16 w⟩
instance : MkI Tryd.prog 16 := ⟨fun v w => by kernel_rfl⟩
instance : ZvT Tryd.prog 16 (.pointer none) := ⟨fun w => Tryd.zeroValue16 w⟩
instance : TyT Tryd.prog 17 1 false := ⟨fun w => Tryd.isAgg17 w, fun w => Tryd.sizeOf17 w⟩
instance : MkI Tryd.prog 17 := ⟨fun v w => by kernel_rfl⟩
instance : ZvT Tryd.prog 17 (.pointer none) := ⟨fun w => Tryd.zeroValue17 w⟩
instance : TyT Tryd.prog 18 1 true := ⟨fun w => Tryd.isAgg18 w, fun w => Tryd.sizeOf18 w⟩
instance : MkI Tryd.prog 18 := ⟨fun v w => by kernel_rfl⟩
instance : ZvT Tryd.prog 18 (.agg #[.pointer none]) := ⟨fun w => Tryd.zeroValue18 w⟩
instance : FdT Tryd.prog 18 0 0 17 := ⟨fun a w => by kernel_rfl, fun cs w => by kernel_rfl⟩
instance : BldT Tryd.prog 18 [(0, 1)] [.pointer none] := ⟨fun parts => by kernel_rfl⟩
instance : TyT Tryd.prog 19 1 true := ⟨fun w => Tryd.isAgg19 w, fun w => Tryd.sizeOf19 w⟩
instance : MkI Tryd.prog 19 := ⟨fun v w => by kernel_rfl⟩
instance : ZvT Tryd.prog 19 (.agg #[.pointer none]) := ⟨fun w => Tryd.zeroValue19 w⟩
instance : FdT Tryd.prog 19 0 0 17 := ⟨fun a w => by kernel_rfl, fun cs w => by kernel_rfl⟩
instance : BldT Tryd.prog 19 [(0, 1)] [.pointer none] := ⟨fun parts => by kernel_rfl⟩
instance : TyT Tryd.prog 20 1 false := ⟨fun w => Tryd.isAgg20 w, fun w => Tryd.sizeOf20 w⟩
instance : IfT Tryd.prog 20 := ⟨⟨_, Tryd.underlying20⟩⟩
instance : ZvT Tryd.prog 20 (.nilIface) := ⟨fun w => Tryd.zeroValue20 w⟩
instance : TyT Tryd.prog 21 1 false := ⟨fun w => Tryd.isAgg21 w, fun w => Tryd.sizeOf21 w⟩
instance : MkI Tryd.prog 21 := ⟨fun v w => by kernel_rfl⟩
instance : IntT Tryd.prog 21 .i32 := ⟨Tryd.underlying21⟩
instance : ZvT Tryd.prog 21 (.int .i32 0) := ⟨fun w => Tryd.zeroValue21 w⟩
instance : TyT Tryd.prog 22 1 false := ⟨fun w => Tryd.isAgg22 w, fun w => Tryd.sizeOf22 w⟩
instance : MkI Tryd.prog 22 := ⟨fun v w => by kernel_rfl⟩
instance : ZvT Tryd.prog 22 (.slice none 0 0) := ⟨fun w => Tryd.zeroValue22 w⟩
instance : SlT Tryd.prog 22 28 2 16 (.agg #[.int .i64 0, .int .i64 0]) := ⟨by kernel_rfl, by kernel_rfl, rfl, by decide, by decide⟩
instance : TyT Tryd.prog 23 1 false := ⟨fun w => Tryd.isAgg23 w, fun w => Tryd.sizeOf23 w⟩
instance : IfT Tryd.prog 23 := ⟨⟨_, Tryd.underlying23⟩⟩
instance : ZvT Tryd.prog 23 (.nilIface) := ⟨fun w => Tryd.zeroValue23 w⟩
instance : TyT Tryd.prog 24 1 false := ⟨fun w => Tryd.isAgg24 w, fun w => Tryd.sizeOf24 w⟩
instance : IfT Tryd.prog 24 := ⟨⟨_, Tryd.underlying24⟩⟩
instance : ZvT Tryd.prog 24 (.nilIface) := ⟨fun w => Tryd.zeroValue24 w⟩
instance : TyT Tryd.prog 27 2 true := ⟨fun w => Tryd.isAgg27 w, fun w => Tryd.sizeOf27 w⟩
instance : MkI Tryd.prog 27 := ⟨fun v w => by kernel_rfl⟩
instance : ZvT Tryd.prog 27 (.agg #[.int .i64 0, .int .i64 0]) := ⟨fun w => Tryd.zeroValue27 w⟩
instance : FdT Tryd.prog 27 0 0 3 := ⟨fun a w => by kernel_rfl, fun cs w => by kernel_rfl⟩
instance : FdT Tryd.prog 27 1 1 3 := ⟨fun a w => by kernel_rfl, fun cs w => by kernel_rfl⟩
instance : BldT Tryd.prog 27 [(0, 1), (1, 1)] [.int .i64 0, .int .i64 0] := ⟨fun parts => by kernel_rfl⟩
instance : TyT Tryd.prog 28 2 true := ⟨fun w => Tryd.isAgg28 w, fun w => Tryd.sizeOf28 w⟩
instance : MkI Tryd.prog 28 := ⟨fun v w => by kernel_rfl⟩
instance : ZvT Tryd.prog 28 (.agg #[.int .i64 0, .int .i64 0]) := ⟨fun w => Tryd.zeroValue28 w⟩
instance : FdT Tryd.prog 28 0 0 3 := ⟨fun a w => by kernel_rfl, fun cs w => by kernel_rfl⟩
instance : FdT Tryd.prog 28 1 1 3 := ⟨fun a w => by kernel_rfl, fun cs w => by kernel_rfl⟩
instance : BldT Tryd.prog 28 [(0, 1), (1, 1)] [.int .i64 0, .int .i64 0] := ⟨fun parts => by kernel_rfl⟩
instance : TyT Tryd.prog 43 1 false := ⟨fun w => Tryd.isAgg43 w, fun w => Tryd.sizeOf43 w⟩
instance : MkI Tryd.prog 43 := ⟨fun v w => by kernel_rfl⟩
instance : ZvT Tryd.prog 43 (.slice none 0 0) := ⟨fun w => Tryd.zeroValue43 w⟩
instance : SlT Tryd.prog 43 55 11 104 (.agg #[.bool false, .bool false, .bool false, .int .i64 0, .int .i64 0, .int .i64 0, .int .i64 0, .int .i64 0, .int .i64 0, .slice none 0 0, .slice none 0 0]) := ⟨by kernel_rfl, by kernel_rfl, rfl, by decide, by decide⟩
instance : TyT Tryd.prog 45 1 false := ⟨fun w => Tryd.isAgg45 w, fun w => Tryd.sizeOf45 w⟩
instance : MkI Tryd.prog 45 := ⟨fun v w => by kernel_rfl⟩
instance : ZvT Tryd.prog 45 (.slice none 0 0) := ⟨fun w => Tryd.zeroValue45 w⟩
instance : SlT Tryd.prog 45 57 13 120 (.agg #[.int .i64 0, .bool false, .bool false, .bool false, .bool false, .int .i64 0, .int .i64 0, .int .i64 0, .int .i64 0, .int .i64 0, .int .i64 0, .slice none 0 0, .slice none 0 0]) := ⟨by kernel_rfl, by kernel_rfl, rfl, by decide, by decide⟩
instance : TyT Tryd.prog 53 1 false := ⟨fun w => Tryd.isAgg53 w, fun w => Tryd.sizeOf53 w⟩
instance : MkI Tryd.prog 53 := ⟨fun v w => by kernel_rfl⟩
instance : ZvT Tryd.prog 53 (.slice none 0 0) := ⟨fun w => Tryd.zeroValue53 w⟩
instance : SlT Tryd.prog 53 99 2 16 (.agg #[.int .i64 0, .int .i64 0]) := ⟨by kernel_rfl, by kernel_rfl, rfl, by decide, by decide⟩
instance : TyT Tryd.prog 54 11 true := ⟨fun w => Tryd.isAgg54 w, fun w => Tryd.sizeOf54 w⟩
instance : MkI Tryd.prog 54 := ⟨fun v w => by kernel_rfl⟩
instance : ZvT Tryd.prog 54 (.agg #[.bool false, .bool false, .bool false, .int .i64 0, .int .i64 0, .int .i64 0, .int .i64 0, .int .i64 0, .int .i64 0, .slice none 0 0, .slice none 0 0]) := ⟨fun w => Tryd.zeroValue54 w⟩
instance : FdT Tryd.prog 54 0 0 4 := ⟨fun a w => by kernel_rfl, fun cs w => by kernel_rfl⟩
instance : FdT Tryd.prog 54 1 1 4 := ⟨fun a w => by kernel_rfl, fun cs w => by kernel_rfl⟩
instance : FdT Tryd.prog 54 2 2 4 := ⟨fun a w => by kernel_rfl, fun cs w => by kernel_rfl⟩
instance : FdT Tryd.prog 54 3 3 3 := ⟨fun a w => by kernel_rfl, fun cs w => by kernel_rfl⟩
instance : FdT Tryd.prog 54 4 4 3 := ⟨fun a w => by kernel_rfl, fun cs w => by kernel_rfl⟩
instance : FdT Tryd.prog 54 5 5 28 := ⟨fun a w => by kernel_rfl, fun cs w => by kernel_rfl⟩
instance : FdT Tryd.prog 54 6 7 28 := ⟨fun a w => by kernel_rfl, fun cs w => by kernel_rfl⟩
instance : FdT Tryd.prog 54 7 9 53 := ⟨fun a w => by kernel_rfl, fun cs w => by kernel_rfl⟩
instance : FdT Tryd.prog 54 8 10 53 := ⟨fun a w => by kernel_rfl, fun cs w => by kernel_rfl⟩
instance : BldT Tryd.prog 54 [(0, 1), (1, 1), (2, 1), (3, 1), (4, 1), (5, 2), (7, 2), (9, 1), (10, 1)] [.bool false, .bool false, .bool false, .int .i64 0, .int .i64 0, .int .i64 0, .int .i64 0, .int .i64 0, .int .i64 0, .slice none 0 0, .slice none 0 0] := ⟨fun parts => by kernel_rfl⟩
instance : TyT Tryd.prog 55 11 true := ⟨fun w => Tryd.isAgg55 w, fun w => Tryd.sizeOf55 w⟩
instance : MkI Tryd.prog 55 := ⟨fun v w => by kernel_rfl⟩
instance : ZvT Tryd.prog 55 (.agg #[.bool false, .bool false, .bool false, .int .i64 0, .int .i64 0, .int .i64 0, .int .i64 0, .int .i64 0, .int .i64 0, .slice none 0 0, .slice none 0 0]) := ⟨fun w => Tryd.zeroValue55 w⟩
instance : FdT Tryd.prog 55 0 0 4 := ⟨fun a w => by kernel_rfl, fun cs w => by kernel_rfl⟩
instance : FdT Tryd.prog 55 1 1 4 := ⟨fun a w => by kernel_rfl, fun cs w => by kernel_rfl⟩
instance : FdT Tryd.prog 55 2 2 4 := ⟨fun a w => by kernel_rfl, fun cs w => by kernel_rfl⟩
instance : FdT Tryd.prog 55 3 3 3 := ⟨fun a w => by kernel_rfl, fun cs w => by kernel_rfl⟩
instance : FdT Tryd.prog 55 4 4 3 := ⟨fun a w => by kernel_rfl, fun cs w => by kernel_rfl⟩
instance : FdT Tryd.prog 55 5 5 28 := ⟨fun a w => by kernel_rfl, fun cs w => by kernel_rfl⟩
instance : FdT Tryd.prog 55 6 7 28 := ⟨fun a w => by kernel_rfl, fun cs w => by kernel_rfl⟩
instance : FdT Tryd.prog 55 7 9 53 := ⟨fun a w => by kernel_rfl, fun cs w => by kernel_rfl⟩
instance : FdT Tryd.prog 55 8 10 53 := ⟨fun a w => by kernel_rfl, fun cs w => by kernel_rfl⟩
instance : BldT Tryd.prog 55 [(0, 1), (1, 1), (2, 1), (3, 1), (4, 1), (5, 2), (7, 2), (9, 1), (10, 1)] [.bool false, .bool false, .bool false, .int .i64 0, .int .i64 0, .int .i64 0, .int .i64 0, .int .i64 0, .int .i64 0, .slice none 0 0, .slice none 0 0] := ⟨fun parts => by kernel_rfl⟩
instance : TyT Tryd.prog 56 13 true := ⟨fun w => Tryd.isAgg56 w, fun w => Tryd.sizeOf56 w⟩
instance : MkI Tryd.prog 56 := ⟨fun v w => by kernel_rfl⟩
instance : ZvT Tryd.prog 56 (.agg #[.int .i64 0, .bool false, .bool false, .bool false, .bool false, .int .i64 0, .int .i64 0, .int .i64 0, .int .i64 0, .int .i64 0, .int .i64 0, .slice none 0 0, .slice none 0 0]) := ⟨fun w => Tryd.zeroValue56 w⟩
instance : FdT Tryd.prog 56 0 0 3 := ⟨fun a w => by kernel_rfl, fun cs w => by kernel_rfl⟩
instance : FdT Tryd.prog 56 1 1 4 := ⟨fun a w => by kernel_rfl, fun cs w => by kernel_rfl⟩
instance : FdT Tryd.prog 56 2 2 55 := ⟨fun a w => by kernel_rfl, fun cs w => by kernel_rfl⟩
instance : BldT Tryd.prog 56 [(0, 1), (1, 1), (2, 11)] [.int .i64 0, .bool false, .bool false, .bool false, .bool false, .int .i64 0, .int .i64 0, .int .i64 0, .int .i64 0, .int .i64 0, .int .i64 0, .slice none 0 0, .slice none 0 0] := ⟨fun parts => by kernel_rfl⟩
instance : TyT Tryd.prog 57 13 true := ⟨fun w => Tryd.isAgg57 w, fun w => Tryd.sizeOf57 w⟩
instance : MkI Tryd.prog 57 := ⟨fun v w => by kernel_rfl⟩
instance : ZvT Tryd.prog 57 (.agg #[.int .i64 0, .bool false, .bool false, .bool false, .bool false, .int .i64 0, .int .i64 0, .int .i64 0, .int .i64 0, .int .i64 0, .int .i64 0, .slice none 0 0, .slice none 0 0]) := ⟨fun w => Tryd.zeroValue57 w⟩
instance : FdT Tryd.prog 57 0 0 3 := ⟨fun a w => by kernel_rfl, fun cs w => by kernel_rfl⟩
instance : FdT Tryd.prog 57 1 1 4 := ⟨fun a w => by kernel_rfl, fun cs w => by kernel_rfl⟩
instance : FdT Tryd.prog 57 2 2 55 := ⟨fun a w => by kernel_rfl, fun cs w => by kernel_rfl⟩
instance : BldT Tryd.prog 57 [(0, 1), (1, 1), (2, 11)] [.int .i64 0, .bool false, .bool false, .bool false, .bool false, .int .i64 0, .int .i64 0, .int .i64 0, .int .i64 0, .int .i64 0, .int .i64 0, .slice none 0 0, .slice none 0 0] := ⟨fun parts => by kernel_rfl⟩
instance : TyT Tryd.prog 60 1 false := ⟨fun w => Tryd.isAgg60 w, fun w => Tryd.sizeOf60 w⟩
instance : MkI Tryd.prog 60 := ⟨fun v w => by kernel_rfl⟩
instance : IntT Tryd.prog 60 .i64 := ⟨Tryd.underlying60⟩
instance : ZvT Tryd.prog 60 (.int .i64 0) := ⟨fun w => Tryd.zeroValue60 w⟩
instance : TyT Tryd.prog 70 1 false := ⟨fun w => Tryd.isAgg70 w, fun w => Tryd.sizeOf70 w⟩
instance : MkI Tryd.prog 70 := ⟨fun v w => by kernel_rfl⟩
instance : ZvT Tryd.prog 70 (.slice none 0 0) := ⟨fun w => Tryd.zeroValue70 w⟩
instance : SlT Tryd.prog 70 9 1 16 (.string ⟨#[]⟩) := ⟨by kernel_rfl, by kernel_rfl, rfl, by decide, by decide⟩
instance : TyT Tryd.prog 72 1 false := ⟨fun w => Tryd.isAgg72 w, fun w => Tryd.sizeOf72 w⟩
instance : MkI Tryd.prog 72 := ⟨fun v w => by kernel_rfl⟩
instance : IntT Tryd.prog 72 .u64 := ⟨Tryd.underlying72⟩
instance : ZvT Tryd.prog 72 (.int .u64 0) := ⟨fun w => Tryd.zeroValue72 w⟩
instance : TyT Tryd.prog 75 1 false := ⟨fun w => Tryd.isAgg75 w, fun w => Tryd.sizeOf75 w⟩
instance : MkI Tryd.prog 75 := ⟨fun v w => by kernel_rfl⟩
instance : ZvT Tryd.prog 75 (.slice none 0 0) := ⟨fun w => Tryd.zeroValue75 w⟩
instance : SlT Tryd.prog 75 3 1 8 (.int .i64 0) := ⟨by kernel_rfl, by kernel_rfl, rfl, by decide, by decide⟩
instance : TyT Tryd.prog 77 1 false := ⟨fun w => Tryd.isAgg77 w, fun w => Tryd.sizeOf77 w⟩
instance : MkI Tryd.prog 77 := ⟨fun v w => by kernel_rfl⟩
instance : ZvT Tryd.prog 77 (.slice none 0 0) := ⟨fun w => Tryd.zeroValue77 w⟩
instance : SlT Tryd.prog 77 75 1 24 (.slice none 0 0) := ⟨by kernel_rfl, by kernel_rfl, rfl, by decide, by decide⟩
instance : TyT Tryd.prog 88 1 false := ⟨fun w => Tryd.isAgg88 w, fun w => Tryd.sizeOf88 w⟩
instance : MkI Tryd.prog 88 := ⟨fun v w => by kernel_rfl⟩
instance : ZvT Tryd.prog 88 (.pointer none) := ⟨fun w => Tryd.zeroValue88 w⟩
instance : TyT Tryd.prog 89 1 false := ⟨fun w => Tryd.isAgg89 w, fun w => Tryd.sizeOf89 w⟩
instance : MkI Tryd.prog 89 := ⟨fun v w => by kernel_rfl⟩
instance : ZvT Tryd.prog 89 (.slice none 0 0) := ⟨fun w => Tryd.zeroValue89 w⟩
instance : SlT Tryd.prog 89 5 1 1 (.int .u8 0) := ⟨by kernel_rfl, by kernel_rfl, rfl, by decide, by decide⟩
instance : TyT Tryd.prog 90 2 true := ⟨fun w => Tryd.isAgg90 w, fun w => Tryd.sizeOf90 w⟩
instance : MkI Tryd.prog 90 := ⟨fun v w => by kernel_rfl⟩
instance : ZvT Tryd.prog 90 (.agg #[.pointer none, .slice none 0 0]) := ⟨fun w => Tryd.zeroValue90 w⟩
instance : FdT Tryd.prog 90 0 0 88 := ⟨fun a w => by kernel_rfl, fun cs w => by kernel_rfl⟩
instance : FdT Tryd.prog 90 1 1 89 := ⟨fun a w => by kernel_rfl, fun cs w => by kernel_rfl⟩
instance : BldT Tryd.prog 90 [(0, 1), (1, 1)] [.pointer none, .slice none 0 0] := ⟨fun parts => by kernel_rfl⟩
instance : TyT Tryd.prog 91 2 true := ⟨fun w => Tryd.isAgg91 w, fun w => Tryd.sizeOf91 w⟩
instance : MkI Tryd.prog 91 := ⟨fun v w => by kernel_rfl⟩
instance : ZvT Tryd.prog 91 (.agg #[.pointer none, .slice none 0 0]) := ⟨fun w => Tryd.zeroValue91 w⟩
instance : FdT Tryd.prog 91 0 0 88 := ⟨fun a w => by kernel_rfl, fun cs w => by kernel_rfl⟩
instance : FdT Tryd.prog 91 1 1 89 := ⟨fun a w => by kernel_rfl, fun cs w => by kernel_rfl⟩
instance : BldT Tryd.prog 91 [(0, 1), (1, 1)] [.pointer none, .slice none 0 0] := ⟨fun parts => by kernel_rfl⟩
instance : TyT Tryd.prog 99 2 true := ⟨fun w => Tryd.isAgg99 w, fun w => Tryd.sizeOf99 w⟩
instance : MkI Tryd.prog 99 := ⟨fun v w => by kernel_rfl⟩
instance : ZvT Tryd.prog 99 (.agg #[.int .i64 0, .int .i64 0]) := ⟨fun w => Tryd.zeroValue99 w⟩
instance : ArT Tryd.prog 99 2 3 1 := ⟨Tryd.underlying99, fun w => Tryd.sizeOf3 w⟩
instance : TyT Tryd.prog 102 1 false := ⟨fun w => Tryd.isAgg102 w, fun w => Tryd.sizeOf102 w⟩
instance : MkI Tryd.prog 102 := ⟨fun v w => by kernel_rfl⟩
instance : ZvT Tryd.prog 102 (.pointer none) := ⟨fun w => Tryd.zeroValue102 w⟩
instance : TyT Tryd.prog 104 1 false := ⟨fun w => Tryd.isAgg104 w, fun w => Tryd.sizeOf104 w⟩
instance : MkI Tryd.prog 104 := ⟨fun v w => by kernel_rfl⟩
instance : IntT Tryd.prog 104 .i64 := ⟨Tryd.underlying104⟩
instance : ZvT Tryd.prog 104 (.int .i64 0) := ⟨fun w => Tryd.zeroValue104 w⟩
instance : TyT Tryd.prog 112 1 false := ⟨fun w => Tryd.isAgg112 w, fun w => Tryd.sizeOf112 w⟩
instance : MkI Tryd.prog 112 := ⟨fun v w => by kernel_rfl⟩
instance : IntT Tryd.prog 112 .u32 := ⟨Tryd.underlying112⟩
instance : ZvT Tryd.prog 112 (.int .u32 0) := ⟨fun w => Tryd.zeroValue112 w⟩
instance : TyT Tryd.prog 114 1 false := ⟨fun w => Tryd.isAgg114 w, fun w => Tryd.sizeOf114 w⟩
instance : MkI Tryd.prog 114 := ⟨fun v w => by kernel_rfl⟩
instance : IntT Tryd.prog 114 .u64 := ⟨Tryd.underlying114⟩
instance : ZvT Tryd.prog 114 (.int .u64 0) := ⟨fun w => Tryd.zeroValue114 w⟩
instance : TyT Tryd.prog 116 1 false := ⟨fun w => Tryd.isAgg116 w, fun w => Tryd.sizeOf116 w⟩
instance : MkI Tryd.prog 116 := ⟨fun v w => by kernel_rfl⟩
instance : IntT Tryd.prog 116 .i64 := ⟨Tryd.underlying116⟩
instance : ZvT Tryd.prog 116 (.int .i64 0) := ⟨fun w => Tryd.zeroValue116 w⟩
instance : TyT Tryd.prog 119 1 false := ⟨fun w => Tryd.isAgg119 w, fun w => Tryd.sizeOf119 w⟩
instance : MkI Tryd.prog 119 := ⟨fun v w => by kernel_rfl⟩
instance : ZvT Tryd.prog 119 (.pointer none) := ⟨fun w => Tryd.zeroValue119 w⟩
instance : TyT Tryd.prog 124 1 false := ⟨fun w => Tryd.isAgg124 w, fun w => Tryd.sizeOf124 w⟩
instance : MkI Tryd.prog 124 := ⟨fun v w => by kernel_rfl⟩
instance : ZvT Tryd.prog 124 (.pointer none) := ⟨fun w => Tryd.zeroValue124 w⟩
instance : TyT Tryd.prog 128 1 false := ⟨fun w => Tryd.isAgg128 w, fun w => Tryd.sizeOf128 w⟩
instance : MkI Tryd.prog 128 := ⟨fun v w => by kernel_rfl⟩
instance : ZvT Tryd.prog 128 (.pointer none) := ⟨fun w => Tryd.zeroValue128 w⟩
instance : TyT Tryd.prog 129 1 false := ⟨fun w => Tryd.isAgg129 w, fun w => Tryd.sizeOf129 w⟩
instance : MkI Tryd.prog 129 := ⟨fun v w => by kernel_rfl⟩
instance : IntT Tryd.prog 129 .u64 := ⟨Tryd.underlying129⟩
instance : ZvT Tryd.prog 129 (.int .u64 0) := ⟨fun w => Tryd.zeroValue129 w⟩
instance : TyT Tryd.prog 130 3 true := ⟨fun w => Tryd.isAgg130 w, fun w => Tryd.sizeOf130 w⟩
instance : MkI Tryd.prog 130 := ⟨fun v w => by kernel_rfl⟩
instance : ZvT Tryd.prog 130 (.agg #[.pointer none, .pointer none, .int .u64 0]) := ⟨fun w => Tryd.zeroValue130 w⟩
instance : FdT Tryd.prog 130 0 0 17 := ⟨fun a w => by kernel_rfl, fun cs w => by kernel_rfl⟩
instance : FdT Tryd.prog 130 1 1 128 := ⟨fun a w => by kernel_rfl, fun cs w => by kernel_rfl⟩
instance : FdT Tryd.prog 130 2 2 129 := ⟨fun a w => by kernel_rfl, fun cs w => by kernel_rfl⟩
instance : BldT Tryd.prog 130 [(0, 1), (1, 1), (2, 1)] [.pointer none, .pointer none, .int .u64 0] := ⟨fun parts => by kernel_rfl⟩
instance : TyT Tryd.prog 131 3 true := ⟨fun w => Tryd.isAgg131 w, fun w => Tryd.sizeOf131 w⟩
instance : MkI Tryd.prog 131 := ⟨fun v w => by kernel_rfl⟩
instance : ZvT Tryd.prog 131 (.agg #[.pointer none, .pointer none, .int .u64 0]) := ⟨fun w => Tryd.zeroValue131 w⟩
instance : FdT Tryd.prog 131 0 0 17 := ⟨fun a w => by kernel_rfl, fun cs w => by kernel_rfl⟩
instance : FdT Tryd.prog 131 1 1 128 := ⟨fun a w => by kernel_rfl, fun cs w => by kernel_rfl⟩
instance : FdT Tryd.prog 131 2 2 129 := ⟨fun a w => by kernel_rfl, fun cs w => by kernel_rfl⟩
instance : BldT Tryd.prog 131 [(0, 1), (1, 1), (2, 1)] [.pointer none, .pointer none, .int .u64 0] := ⟨fun parts => by kernel_rfl⟩
instance : TyT Tryd.prog 133 1 false := ⟨fun w => Tryd.isAgg133 w, fun w => Tryd.sizeOf133 w⟩
instance : IfT Tryd.prog 133 := ⟨⟨_, Tryd.underlying133⟩⟩
instance : ZvT Tryd.prog 133 (.nilIface) := ⟨fun w => Tryd.zeroValue133 w⟩
instance : TyT Tryd.prog 134 1 false := ⟨fun w => Tryd.isAgg134 w, fun w => Tryd.sizeOf134 w⟩
instance : IfT Tryd.prog 134 := ⟨⟨_, Tryd.underlying134⟩⟩
instance : ZvT Tryd.prog 134 (.nilIface) := ⟨fun w => Tryd.zeroValue134 w⟩
instance : TyT Tryd.prog 136 1 false := ⟨fun w => Tryd.isAgg136 w, fun w => Tryd.sizeOf136 w⟩
instance : MkI Tryd.prog 136 := ⟨fun v w => by kernel_rfl⟩
instance : IntT Tryd.prog 136 .u8 := ⟨Tryd.underlying136⟩
instance : ZvT Tryd.prog 136 (.int .u8 0) := ⟨fun w => Tryd.zeroValue136 w⟩
instance : TyT Tryd.prog 141 1 false := ⟨fun w => Tryd.isAgg141 w, fun w => Tryd.sizeOf141 w⟩
instance : MkI Tryd.prog 141 := ⟨fun v w => by kernel_rfl⟩
instance : IntT Tryd.prog 141 .u64 := ⟨Tryd.underlying141⟩
instance : ZvT Tryd.prog 141 (.int .u64 0) := ⟨fun w => Tryd.zeroValue141 w⟩
instance : TyT Tryd.prog 145 1 false := ⟨fun w => Tryd.isAgg145 w, fun w => Tryd.sizeOf145 w⟩
instance : MkI Tryd.prog 145 := ⟨fun v w => by kernel_rfl⟩
instance : ZvT Tryd.prog 145 (.pointer none) := ⟨fun w => Tryd.zeroValue145 w⟩
instance : TyT Tryd.prog 151 3 true := ⟨fun w => Tryd.isAgg151 w, fun w => Tryd.sizeOf151 w⟩
instance : MkI Tryd.prog 151 := ⟨fun v w => by kernel_rfl⟩
instance : ZvT Tryd.prog 151 (.agg #[.string ⟨#[]⟩, .string ⟨#[]⟩, .nilIface]) := ⟨fun w => Tryd.zeroValue151 w⟩
instance : FdT Tryd.prog 151 0 0 9 := ⟨fun a w => by kernel_rfl, fun cs w => by kernel_rfl⟩
instance : FdT Tryd.prog 151 1 1 9 := ⟨fun a w => by kernel_rfl, fun cs w => by kernel_rfl⟩
instance : FdT Tryd.prog 151 2 2 24 := ⟨fun a w => by kernel_rfl, fun cs w => by kernel_rfl⟩
instance : BldT Tryd.prog 151 [(0, 1), (1, 1), (2, 1)] [.string ⟨#[]⟩, .string ⟨#[]⟩, .nilIface] := ⟨fun parts => by kernel_rfl⟩
instance : TyT Tryd.prog 152 3 true := ⟨fun w => Tryd.isAgg152 w, fun w => Tryd.sizeOf152 w⟩
instance : MkI Tryd.prog 152 := ⟨fun v w => by kernel_rfl⟩
instance : ZvT Tryd.prog 152 (.agg #[.string ⟨#[]⟩, .string ⟨#[]⟩, .nilIface]) := ⟨fun w => Tryd.zeroValue152 w⟩
instance : FdT Tryd.prog 152 0 0 9 := ⟨fun a w => by kernel_rfl, fun cs w => by kernel_rfl⟩
instance : FdT Tryd.prog 152 1 1 9 := ⟨fun a w => by kernel_rfl, fun cs w => by kernel_rfl⟩
instance : FdT Tryd.prog 152 2 2 24 := ⟨fun a w => by kernel_rfl, fun cs w => by kernel_rfl⟩
instance : BldT Tryd.prog 152 [(0, 1), (1, 1), (2, 1)] [.string ⟨#[]⟩, .string ⟨#[]⟩, .nilIface] := ⟨fun parts => by kernel_rfl⟩
instance : TyT Tryd.prog 154 24 true := ⟨fun w => Tryd.isAgg154 w, fun w => Tryd.sizeOf154 w⟩
instance : MkI Tryd.prog 154 := ⟨fun v w => by kernel_rfl⟩
instance : ZvT Tryd.prog 154 (.agg #[.int .u8 0, .int .u8 0, .int .u8 0, .int .u8 0, .int .u8 0, .int .u8 0, .int .u8 0, .int .u8 0, .int .u8 0, .int .u8 0, .int .u8 0, .int .u8 0, .int .u8 0, .int .u8 0, .int .u8 0, .int .u8 0, .int .u8 0, .int .u8 0, .int .u8 0, .int .u8 0, .int .u8 0, .int .u8 0, .int .u8 0, .int .u8 0]) := ⟨fun w => Tryd.zeroValue154 w⟩
instance : ArT Tryd.prog 154 24 5 1 := ⟨Tryd.underlying154, fun w => Tryd.sizeOf5 w⟩
instance : TyT Tryd.prog 163 1 false := ⟨fun w => Tryd.isAgg163 w, fun w => Tryd.sizeOf163 w⟩
instance : MkI Tryd.prog 163 := ⟨fun v w => by kernel_rfl⟩
instance : ZvT Tryd.prog 163 (.slice none 0 0) := ⟨fun w => Tryd.zeroValue163 w⟩
instance : SlT Tryd.prog 163 53 1 24 (.slice none 0 0) := ⟨by kernel_rfl, by kernel_rfl, rfl, by decide, by decide⟩
instance : TyT Tryd.prog 165 1 true := ⟨fun w => Tryd.isAgg165 w, fun w => Tryd.sizeOf165 w⟩
instance : MkI Tryd.prog 165 := ⟨fun v w => by kernel_rfl⟩
instance : ZvT Tryd.prog 165 (.agg #[.pointer none]) := ⟨fun w => Tryd.zeroValue165 w⟩
instance : FdT Tryd.prog 165 0 0 17 := ⟨fun a w => by kernel_rfl, fun cs w => by kernel_rfl⟩
instance : BldT Tryd.prog 165 [(0, 1)] [.pointer none] := ⟨fun parts => by kernel_rfl⟩
instance : TyT Tryd.prog 166 1 true := ⟨fun w => Tryd.isAgg166 w, fun w => Tryd.sizeOf166 w⟩
instance : MkI Tryd.prog 166 := ⟨fun v w => by kernel_rfl⟩
instance : ZvT Tryd.prog 166 (.agg #[.pointer none]) := ⟨fun w => Tryd.zeroValue166 w⟩
instance : FdT Tryd.prog 166 0 0 17 := ⟨fun a w => by kernel_rfl, fun cs w => by kernel_rfl⟩
instance : BldT Tryd.prog 166 [(0, 1)] [.pointer none] := ⟨fun parts => by kernel_rfl⟩
instance : TyT Tryd.prog 167 1 false := ⟨fun w => Tryd.isAgg167 w, fun w => Tryd.sizeOf167 w⟩
instance : MkI Tryd.prog 167 := ⟨fun v w => by kernel_rfl⟩
instance : ZvT Tryd.prog 167 (.pointer none) := ⟨fun w => Tryd.zeroValue167 w⟩
instance : TyT Tryd.prog 171 1 false := ⟨fun w => Tryd.isAgg171 w, fun w => Tryd.sizeOf171 w⟩
instance : IfT Tryd.prog 171 := ⟨⟨_, Tryd.underlying171⟩⟩
instance : ZvT Tryd.prog 171 (.nilIface) := ⟨fun w => Tryd.zeroValue171 w⟩
instance : TyT Tryd.prog 174 1 false := ⟨fun w => Tryd.isAgg174 w, fun w => Tryd.sizeOf174 w⟩
instance : IfT Tryd.prog 174 := ⟨⟨_, Tryd.underlying174⟩⟩
instance : ZvT Tryd.prog 174 (.nilIface) := ⟨fun w => Tryd.zeroValue174 w⟩
instance : TyT Tryd.prog 176 1 false := ⟨fun w => Tryd.isAgg176 w, fun w => Tryd.sizeOf176 w⟩
instance : IfT Tryd.prog 176 := ⟨⟨_, Tryd.underlying176⟩⟩
instance : ZvT Tryd.prog 176 (.nilIface) := ⟨fun w => Tryd.zeroValue176 w⟩
instance : TyT Tryd.prog 177 1 false := ⟨fun w => Tryd.isAgg177 w, fun w => Tryd.sizeOf177 w⟩
instance : MkI Tryd.prog 177 := ⟨fun v w => by kernel_rfl⟩
instance : ZvT Tryd.prog 177 (.slice none 0 0) := ⟨fun w => Tryd.zeroValue177 w⟩
instance : SlT Tryd.prog 177 24 1 16 (.nilIface) := ⟨by kernel_rfl, by kernel_rfl, rfl, by decide, by decide⟩
instance : TyT Tryd.prog 179 1 false := ⟨fun w => Tryd.isAgg179 w, fun w => Tryd.sizeOf179 w⟩
instance : MkI Tryd.prog 179 := ⟨fun v w => by kernel_rfl⟩
instance : ZvT Tryd.prog 179 (.pointer none) := ⟨fun w => Tryd.zeroValue179 w⟩
instance : TyT Tryd.prog 185 1 false := ⟨fun w => Tryd.isAgg185 w, fun w => Tryd.sizeOf185 w⟩
instance : MkI Tryd.prog 185 := ⟨fun v w => by kernel_rfl⟩
instance : ZvT Tryd.prog 185 (.pointer none) := ⟨fun w => Tryd.zeroValue185 w⟩
instance : TyT Tryd.prog 186 1 true := ⟨fun w => Tryd.isAgg186 w, fun w => Tryd.sizeOf186 w⟩
instance : MkI Tryd.prog 186 := ⟨fun v w => by kernel_rfl⟩
instance : ZvT Tryd.prog 186 (.agg #[.string ⟨#[]⟩]) := ⟨fun w => Tryd.zeroValue186 w⟩
instance : FdT Tryd.prog 186 0 0 9 := ⟨fun a w => by kernel_rfl, fun cs w => by kernel_rfl⟩
instance : BldT Tryd.prog 186 [(0, 1)] [.string ⟨#[]⟩] := ⟨fun parts => by kernel_rfl⟩
instance : TyT Tryd.prog 187 1 true := ⟨fun w => Tryd.isAgg187 w, fun w => Tryd.sizeOf187 w⟩
instance : MkI Tryd.prog 187 := ⟨fun v w => by kernel_rfl⟩
instance : ZvT Tryd.prog 187 (.agg #[.string ⟨#[]⟩]) := ⟨fun w => Tryd.zeroValue187 w⟩
instance : FdT Tryd.prog 187 0 0 9 := ⟨fun a w => by kernel_rfl, fun cs w => by kernel_rfl⟩
instance : BldT Tryd.prog 187 [(0, 1)] [.string ⟨#[]⟩] := ⟨fun parts => by kernel_rfl⟩
instance : TyT Tryd.prog 189 20 true := ⟨fun w => Tryd.isAgg189 w, fun w => Tryd.sizeOf189 w⟩
instance : MkI Tryd.prog 189 := ⟨fun v w => by kernel_rfl⟩
instance : ZvT Tryd.prog 189 (.agg #[.int .u64 0, .int .u64 0, .int .u64 0, .int .u64 0, .int .u64 0, .int .u64 0, .int .u64 0, .int .u64 0, .int .u64 0, .int .u64 0, .int .u64 0, .int .u64 0, .int .u64 0, .int .u64 0, .int .u64 0, .int .u64 0, .int .u64 0, .int .u64 0, .int .u64 0, .int .u64 0]) := ⟨fun w => Tryd.zeroValue189 w⟩
instance : ArT Tryd.prog 189 20 114 1 := ⟨Tryd.underlying189, fun w => Tryd.sizeOf114 w⟩
instance : TyT Tryd.prog 190 65 true := ⟨fun w => Tryd.isAgg190 w, fun w => Tryd.sizeOf190 w⟩
instance : MkI Tryd.prog 190 := ⟨fun v w => by kernel_rfl⟩
instance : ArT Tryd.prog 190 65 5 1 := ⟨Tryd.underlying190, fun w => Tryd.sizeOf5 w⟩
instance : TyT Tryd.prog 191 256 true := ⟨fun w => Tryd.isAgg191 w, fun w => Tryd.sizeOf191 w⟩
instance : MkI Tryd.prog 191 := ⟨fun v w => by kernel_rfl⟩
instance : ArT Tryd.prog 191 256 5 1 := ⟨Tryd.underlying191, fun w => Tryd.sizeOf5 w⟩
instance : TyT Tryd.prog 192 2 true := ⟨fun w => Tryd.isAgg192 w, fun w => Tryd.sizeOf192 w⟩
instance : MkI Tryd.prog 192 := ⟨fun v w => by kernel_rfl⟩
instance : ZvT Tryd.prog 192 (.agg #[.int .u8 0, .int .u8 0]) := ⟨fun w => Tryd.zeroValue192 w⟩
instance : FdT Tryd.prog 192 0 0 5 := ⟨fun a w => by kernel_rfl, fun cs w => by kernel_rfl⟩
instance : FdT Tryd.prog 192 1 1 5 := ⟨fun a w => by kernel_rfl, fun cs w => by kernel_rfl⟩
instance : BldT Tryd.prog 192 [(0, 1), (1, 1)] [.int .u8 0, .int .u8 0] := ⟨fun parts => by kernel_rfl⟩
instance : TyT Tryd.prog 193 2 true := ⟨fun w => Tryd.isAgg193 w, fun w => Tryd.sizeOf193 w⟩
instance : MkI Tryd.prog 193 := ⟨fun v w => by kernel_rfl⟩
instance : ZvT Tryd.prog 193 (.agg #[.int .u8 0, .int .u8 0]) := ⟨fun w => Tryd.zeroValue193 w⟩
instance : FdT Tryd.prog 193 0 0 5 := ⟨fun a w => by kernel_rfl, fun cs w => by kernel_rfl⟩
instance : FdT Tryd.prog 193 1 1 5 := ⟨fun a w => by kernel_rfl, fun cs w => by kernel_rfl⟩
instance : BldT Tryd.prog 193 [(0, 1), (1, 1)] [.int .u8 0, .int .u8 0] := ⟨fun parts => by kernel_rfl⟩
instance : TyT Tryd.prog 194 32 true := ⟨fun w => Tryd.isAgg194 w, fun w => Tryd.sizeOf194 w⟩
instance : MkI Tryd.prog 194 := ⟨fun v w => by kernel_rfl⟩
instance : ZvT Tryd.prog 194 (.agg #[.int .u8 0, .int .u8 0, .int .u8 0, .int .u8 0, .int .u8 0, .int .u8 0, .int .u8 0, .int .u8 0, .int .u8 0, .int .u8 0, .int .u8 0, .int .u8 0, .int .u8 0, .int .u8 0, .int .u8 0, .int .u8 0, .int .u8 0, .int .u8 0, .int .u8 0, .int .u8 0, .int .u8 0, .int .u8 0, .int .u8 0, .int .u8 0, .int .u8 0, .int .u8 0, .int .u8 0, .int .u8 0, .int .u8 0, .int .u8 0, .int .u8 0, .int .u8 0]) := ⟨fun w => Tryd.zeroValue194 w⟩
instance : ArT Tryd.prog 194 16 193 2 := ⟨Tryd.underlying194, fun w => Tryd.sizeOf193 w⟩
instance : TyT Tryd.prog 197 32 true := ⟨fun w => Tryd.isAgg197 w, fun w => Tryd.sizeOf197 w⟩
instance : MkI Tryd.prog 197 := ⟨fun v w => by kernel_rfl⟩
instance : ZvT Tryd.prog 197 (.agg #[.int .u8 0, .int .u8 0, .int .u8 0, .int .u8 0, .int .u8 0, .int .u8 0, .int .u8 0, .int .u8 0, .int .u8 0, .int .u8 0, .int .u8 0, .int .u8 0, .int .u8 0, .int .u8 0, .int .u8 0, .int .u8 0, .int .u8 0, .int .u8 0, .int .u8 0, .int .u8 0, .int .u8 0, .int .u8 0, .int .u8 0, .int .u8 0, .int .u8 0, .int .u8 0, .int .u8 0, .int .u8 0, .int .u8 0, .int .u8 0, .int .u8 0, .int .u8 0]) := ⟨fun w => Tryd.zeroValue197 w⟩
instance : ArT Tryd.prog 197 32 5 1 := ⟨Tryd.underlying197, fun w => Tryd.sizeOf5 w⟩
instance : TyT Tryd.prog 198 64 true := ⟨fun w => Tryd.isAgg198 w, fun w => Tryd.sizeOf198 w⟩
instance : MkI Tryd.prog 198 := ⟨fun v w => by kernel_rfl⟩
instance : ZvT Tryd.prog 198 (.agg #[.int .u8 0, .int .u8 0, .int .u8 0, .int .u8 0, .int .u8 0, .int .u8 0, .int .u8 0, .int .u8 0, .int .u8 0, .int .u8 0, .int .u8 0, .int .u8 0, .int .u8 0, .int .u8 0, .int .u8 0, .int .u8 0, .int .u8 0, .int .u8 0, .int .u8 0, .int .u8 0, .int .u8 0, .int .u8 0, .int .u8 0, .int .u8 0, .int .u8 0, .int .u8 0, .int .u8 0, .int .u8 0, .int .u8 0, .int .u8 0, .int .u8 0, .int .u8 0, .int .u8 0, .int .u8 0, .int .u8 0, .int .u8 0, .int .u8 0, .int .u8 0, .int .u8 0, .int .u8 0, .int .u8 0, .int .u8 0, .int .u8 0, .int .u8 0, .int .u8 0, .int .u8 0, .int .u8 0, .int .u8 0, .int .u8 0, .int .u8 0, .int .u8 0, .int .u8 0, .int .u8 0, .int .u8 0, .int .u8 0, .int .u8 0, .int .u8 0, .int .u8 0, .int .u8 0, .int .u8 0, .int .u8 0, .int .u8 0, .int .u8 0, .int .u8 0]) := ⟨fun w => Tryd.zeroValue198 w⟩
instance : ArT Tryd.prog 198 64 5 1 := ⟨Tryd.underlying198, fun w => Tryd.sizeOf5 w⟩
instance : TyT Tryd.prog 208 4 true := ⟨fun w => Tryd.isAgg208 w, fun w => Tryd.sizeOf208 w⟩
instance : MkI Tryd.prog 208 := ⟨fun v w => by kernel_rfl⟩
instance : ZvT Tryd.prog 208 (.agg #[.pointer none, .pointer none, .pointer none, .string ⟨#[]⟩]) := ⟨fun w => Tryd.zeroValue208 w⟩
instance : FdT Tryd.prog 208 0 0 17 := ⟨fun a w => by kernel_rfl, fun cs w => by kernel_rfl⟩
instance : FdT Tryd.prog 208 1 1 17 := ⟨fun a w => by kernel_rfl, fun cs w => by kernel_rfl⟩
instance : FdT Tryd.prog 208 2 2 17 := ⟨fun a w => by kernel_rfl, fun cs w => by kernel_rfl⟩
instance : FdT Tryd.prog 208 3 3 9 := ⟨fun a w => by kernel_rfl, fun cs w => by kernel_rfl⟩
instance : BldT Tryd.prog 208 [(0, 1), (1, 1), (2, 1), (3, 1)] [.pointer none, .pointer none, .pointer none, .string ⟨#[]⟩] := ⟨fun parts => by kernel_rfl⟩
instance : TyT Tryd.prog 209 4 true := ⟨fun w => Tryd.isAgg209 w, fun w => Tryd.sizeOf209 w⟩
instance : MkI Tryd.prog 209 := ⟨fun v w => by kernel_rfl⟩
instance : ZvT Tryd.prog 209 (.agg #[.pointer none, .pointer none, .pointer none, .string ⟨#[]⟩]) := ⟨fun w => Tryd.zeroValue209 w⟩
instance : FdT Tryd.prog 209 0 0 17 := ⟨fun a w => by kernel_rfl, fun cs w => by kernel_rfl⟩
instance : FdT Tryd.prog 209 1 1 17 := ⟨fun a w => by kernel_rfl, fun cs w => by kernel_rfl⟩
instance : FdT Tryd.prog 209 2 2 17 := ⟨fun a w => by kernel_rfl, fun cs w => by kernel_rfl⟩
instance : FdT Tryd.prog 209 3 3 9 := ⟨fun a w => by kernel_rfl, fun cs w => by kernel_rfl⟩
instance : BldT Tryd.prog 209 [(0, 1), (1, 1), (2, 1), (3, 1)] [.pointer none, .pointer none, .pointer none, .string ⟨#[]⟩] := ⟨fun parts => by kernel_rfl⟩
instance : TyT Tryd.prog 210 0 true := ⟨fun w => Tryd.isAgg210 w, fun w => Tryd.sizeOf210 w⟩
instance : MkI Tryd.prog 210 := ⟨fun v w => by kernel_rfl⟩
instance : ZvT Tryd.prog 210 (.agg #[]) := ⟨fun w => Tryd.zeroValue210 w⟩
instance : ArT Tryd.prog 210 0 16 1 := ⟨Tryd.underlying210, fun w => Tryd.sizeOf16 w⟩
instance : TyT Tryd.prog 211 0 true := ⟨fun w => Tryd.isAgg211 w, fun w => Tryd.sizeOf211 w⟩
instance : MkI Tryd.prog 211 := ⟨fun v w => by kernel_rfl⟩
instance : ZvT Tryd.prog 211 (.agg #[]) := ⟨fun w => Tryd.zeroValue211 w⟩
instance : BldT Tryd.prog 211 [(0, 0)] [] := ⟨fun parts => by kernel_rfl⟩
instance : TyT Tryd.prog 212 0 true := ⟨fun w => Tryd.isAgg212 w, fun w => Tryd.sizeOf212 w⟩
instance : MkI Tryd.prog 212 := ⟨fun v w => by kernel_rfl⟩
instance : ZvT Tryd.prog 212 (.agg #[]) := ⟨fun w => Tryd.zeroValue212 w⟩
instance : BldT Tryd.prog 212 [(0, 0)] [] := ⟨fun parts => by kernel_rfl⟩
instance : TyT Tryd.prog 215 1 false := ⟨fun w => Tryd.isAgg215 w, fun w => Tryd.sizeOf215 w⟩
instance : MkI Tryd.prog 215 := ⟨fun v w => by kernel_rfl⟩
instance : IntT Tryd.prog 215 .u8 := ⟨Tryd.underlying215⟩
instance : ZvT Tryd.prog 215 (.int .u8 0) := ⟨fun w => Tryd.zeroValue215 w⟩
instance : TyT Tryd.prog 217 1 false := ⟨fun w => Tryd.isAgg217 w, fun w => Tryd.sizeOf217 w⟩
instance : MkI Tryd.prog 217 := ⟨fun v w => by kernel_rfl⟩
instance : IntT Tryd.prog 217 .i32 := ⟨Tryd.underlying217⟩
instance : ZvT Tryd.prog 217 (.int .i32 0) := ⟨fun w => Tryd.zeroValue217 w⟩
instance : TyT Tryd.prog 218 1 false := ⟨fun w => Tryd.isAgg218 w, fun w => Tryd.sizeOf218 w⟩
instance : MkI Tryd.prog 218 := ⟨fun v w => by kernel_rfl⟩
instance : IntT Tryd.prog 218 .i32 := ⟨Tryd.underlying218⟩
instance : ZvT Tryd.prog 218 (.int .i32 0) := ⟨fun w => Tryd.zeroValue218 w⟩
instance : TyT Tryd.prog 219 11 true := ⟨fun w => Tryd.isAgg219 w, fun w => Tryd.sizeOf219 w⟩
instance : MkI Tryd.prog 219 := ⟨fun v w => by kernel_rfl⟩
instance : ZvT Tryd.prog 219 (.agg #[.int .u64 0, .int .u64 0, .int .u32 0, .int .u8 0, .int .u8 0, .int .u8 0, .int .u8 0, .nilFunc, .pointer none, .int .i32 0, .int .i32 0]) := ⟨fun w => Tryd.zeroValue219 w⟩
instance : FdT Tryd.prog 219 0 0 12 := ⟨fun a w => by kernel_rfl, fun cs w => by kernel_rfl⟩
instance : FdT Tryd.prog 219 1 1 12 := ⟨fun a w => by kernel_rfl, fun cs w => by kernel_rfl⟩
instance : FdT Tryd.prog 219 2 2 112 := ⟨fun a w => by kernel_rfl, fun cs w => by kernel_rfl⟩
instance : FdT Tryd.prog 219 3 3 215 := ⟨fun a w => by kernel_rfl, fun cs w => by kernel_rfl⟩
instance : FdT Tryd.prog 219 4 4 5 := ⟨fun a w => by kernel_rfl, fun cs w => by kernel_rfl⟩
instance : FdT Tryd.prog 219 5 5 5 := ⟨fun a w => by kernel_rfl, fun cs w => by kernel_rfl⟩
instance : FdT Tryd.prog 219 6 6 136 := ⟨fun a w => by kernel_rfl, fun cs w => by kernel_rfl⟩
instance : FdT Tryd.prog 219 8 8 124 := ⟨fun a w => by kernel_rfl, fun cs w => by kernel_rfl⟩
instance : FdT Tryd.prog 219 9 9 217 := ⟨fun a w => by kernel_rfl, fun cs w => by kernel_rfl⟩
instance : FdT Tryd.prog 219 10 10 218 := ⟨fun a w => by kernel_rfl, fun cs w => by kernel_rfl⟩
instance : TyT Tryd.prog 220 11 true := ⟨fun w => Tryd.isAgg220 w, fun w => Tryd.sizeOf220 w⟩
instance : MkI Tryd.prog 220 := ⟨fun v w => by kernel_rfl⟩
instance : ZvT Tryd.prog 220 (.agg #[.int .u64 0, .int .u64 0, .int .u32 0, .int .u8 0, .int .u8 0, .int .u8 0, .int .u8 0, .nilFunc, .pointer none, .int .i32 0, .int .i32 0]) := ⟨fun w => Tryd.zeroValue220 w⟩
instance : FdT Tryd.prog 220 0 0 12 := ⟨fun a w => by kernel_rfl, fun cs w => by kernel_rfl⟩
instance : FdT Tryd.prog 220 1 1 12 := ⟨fun a w => by kernel_rfl, fun cs w => by kernel_rfl⟩
instance : FdT Tryd.prog 220 2 2 112 := ⟨fun a w => by kernel_rfl, fun cs w => by kernel_rfl⟩
instance : FdT Tryd.prog 220 3 3 215 := ⟨fun a w => by kernel_rfl, fun cs w => by kernel_rfl⟩
instance : FdT Tryd.prog 220 4 4 5 := ⟨fun a w => by kernel_rfl, fun cs w => by kernel_rfl⟩
instance : FdT Tryd.prog 220 5 5 5 := ⟨fun a w => by kernel_rfl, fun cs w => by kernel_rfl⟩
instance : FdT Tryd.prog 220 6 6 136 := ⟨fun a w => by kernel_rfl, fun cs w => by kernel_rfl⟩
instance : FdT Tryd.prog 220 8 8 124 := ⟨fun a w => by kernel_rfl, fun cs w => by kernel_rfl⟩
instance : FdT Tryd.prog 220 9 9 217 := ⟨fun a w => by kernel_rfl, fun cs w => by kernel_rfl⟩
instance : FdT Tryd.prog 220 10 10 218 := ⟨fun a w => by kernel_rfl, fun cs w => by kernel_rfl⟩
instance : TyT Tryd.prog 223 2 true := ⟨fun w => Tryd.isAgg223 w, fun w => Tryd.sizeOf223 w⟩
instance : MkI Tryd.prog 223 := ⟨fun v w => by kernel_rfl⟩
instance : ZvT Tryd.prog 223 (.agg #[.string ⟨#[]⟩, .int .u8 0]) := ⟨fun w => Tryd.zeroValue223 w⟩
instance : FdT Tryd.prog 223 0 0 9 := ⟨fun a w => by kernel_rfl, fun cs w => by kernel_rfl⟩
instance : FdT Tryd.prog 223 1 1 136 := ⟨fun a w => by kernel_rfl, fun cs w => by kernel_rfl⟩
instance : BldT Tryd.prog 223 [(0, 1), (1, 1)] [.string ⟨#[]⟩, .int .u8 0] := ⟨fun parts => by kernel_rfl⟩
instance : TyT Tryd.prog 224 2 true := ⟨fun w => Tryd.isAgg224 w, fun w => Tryd.sizeOf224 w⟩
instance : MkI Tryd.prog 224 := ⟨fun v w => by kernel_rfl⟩
instance : ZvT Tryd.prog 224 (.agg #[.string ⟨#[]⟩, .int .u8 0]) := ⟨fun w => Tryd.zeroValue224 w⟩
instance : FdT Tryd.prog 224 0 0 9 := ⟨fun a w => by kernel_rfl, fun cs w => by kernel_rfl⟩
instance : FdT Tryd.prog 224 1 1 136 := ⟨fun a w => by kernel_rfl, fun cs w => by kernel_rfl⟩
instance : BldT Tryd.prog 224 [(0, 1), (1, 1)] [.string ⟨#[]⟩, .int .u8 0] := ⟨fun parts => by kernel_rfl⟩
instance : TyT Tryd.prog 225 1 false := ⟨fun w => Tryd.isAgg225 w, fun w => Tryd.sizeOf225 w⟩
instance : MkI Tryd.prog 225 := ⟨fun v w => by kernel_rfl⟩
instance : ZvT Tryd.prog 225 (.pointer none) := ⟨fun w => Tryd.zeroValue225 w⟩
instance : TyT Tryd.prog 227 1 false := ⟨fun w => Tryd.isAgg227 w, fun w => Tryd.sizeOf227 w⟩
instance : MkI Tryd.prog 227 := ⟨fun v w => by kernel_rfl⟩
instance : IntT Tryd.prog 227 .u16 := ⟨Tryd.underlying227⟩
instance : ZvT Tryd.prog 227 (.int .u16 0) := ⟨fun w => Tryd.zeroValue227 w⟩
instance : TyT Tryd.prog 228 5 true := ⟨fun w => Tryd.isAgg228 w, fun w => Tryd.sizeOf228 w⟩
instance : MkI Tryd.prog 228 := ⟨fun v w => by kernel_rfl⟩
instance : ZvT Tryd.prog 228 (.agg #[.int .i32 0, .int .u16 0, .int .u16 0, .int .u32 0, .int .u32 0]) := ⟨fun w => Tryd.zeroValue228 w⟩
instance : FdT Tryd.prog 228 0 0 217 := ⟨fun a w => by kernel_rfl, fun cs w => by kernel_rfl⟩
instance : FdT Tryd.prog 228 1 1 227 := ⟨fun a w => by kernel_rfl, fun cs w => by kernel_rfl⟩
instance : FdT Tryd.prog 228 2 2 227 := ⟨fun a w => by kernel_rfl, fun cs w => by kernel_rfl⟩
instance : FdT Tryd.prog 228 3 3 112 := ⟨fun a w => by kernel_rfl, fun cs w => by kernel_rfl⟩
instance : FdT Tryd.prog 228 4 4 112 := ⟨fun a w => by kernel_rfl, fun cs w => by kernel_rfl⟩
instance : BldT Tryd.prog 228 [(0, 1), (1, 1), (2, 1), (3, 1), (4, 1)] [.int .i32 0, .int .u16 0, .int .u16 0, .int .u32 0, .int .u32 0] := ⟨fun parts => by kernel_rfl⟩
instance : TyT Tryd.prog 229 5 true := ⟨fun w => Tryd.isAgg229 w, fun w => Tryd.sizeOf229 w⟩
instance : MkI Tryd.prog 229 := ⟨fun v w => by kernel_rfl⟩
instance : ZvT Tryd.prog 229 (.agg #[.int .i32 0, .int .u16 0, .int .u16 0, .int .u32 0, .int .u32 0]) := ⟨fun w => Tryd.zeroValue229 w⟩
instance : FdT Tryd.prog 229 0 0 217 := ⟨fun a w => by kernel_rfl, fun cs w => by kernel_rfl⟩
instance : FdT Tryd.prog 229 1 1 227 := ⟨fun a w => by kernel_rfl, fun cs w => by kernel_rfl⟩
instance : FdT Tryd.prog 229 2 2 227 := ⟨fun a w => by kernel_rfl, fun cs w => by kernel_rfl⟩
instance : FdT Tryd.prog 229 3 3 112 := ⟨fun a w => by kernel_rfl, fun cs w => by kernel_rfl⟩
instance : FdT Tryd.prog 229 4 4 112 := ⟨fun a w => by kernel_rfl, fun cs w => by kernel_rfl⟩
instance : BldT Tryd.prog 229 [(0, 1), (1, 1), (2, 1), (3, 1), (4, 1)] [.int .i32 0, .int .u16 0, .int .u16 0, .int .u32 0, .int .u32 0] := ⟨fun parts => by kernel_rfl⟩
instance : TyT Tryd.prog 230 1 false := ⟨fun w => Tryd.isAgg230 w, fun w => Tryd.sizeOf230 w⟩
instance : MkI Tryd.prog 230 := ⟨fun v w => by kernel_rfl⟩
instance : ZvT Tryd.prog 230 (.slice none 0 0) := ⟨fun w => Tryd.zeroValue230 w⟩
instance : SlT Tryd.prog 230 233 4 16 (.agg #[.int .i32 0, .int .i32 0, .int .i32 0, .int .i32 0]) := ⟨by kernel_rfl, by kernel_rfl, rfl, by decide, by decide⟩
instance : TyT Tryd.prog 231 1 false := ⟨fun w => Tryd.isAgg231 w, fun w => Tryd.sizeOf231 w⟩
instance : MkI Tryd.prog 231 := ⟨fun v w => by kernel_rfl⟩
instance : IntT Tryd.prog 231 .i32 := ⟨Tryd.underlying231⟩
instance : ZvT Tryd.prog 231 (.int .i32 0) := ⟨fun w => Tryd.zeroValue231 w⟩
instance : TyT Tryd.prog 232 4 true := ⟨fun w => Tryd.isAgg232 w, fun w => Tryd.sizeOf232 w⟩
instance : MkI Tryd.prog 232 := ⟨fun v w => by kernel_rfl⟩
instance : ZvT Tryd.prog 232 (.agg #[.int .i32 0, .int .i32 0, .int .i32 0, .int .i32 0]) := ⟨fun w => Tryd.zeroValue232 w⟩
instance : FdT Tryd.prog 232 0 0 217 := ⟨fun a w => by kernel_rfl, fun cs w => by kernel_rfl⟩
instance : FdT Tryd.prog 232 1 1 218 := ⟨fun a w => by kernel_rfl, fun cs w => by kernel_rfl⟩
instance : FdT Tryd.prog 232 2 2 231 := ⟨fun a w => by kernel_rfl, fun cs w => by kernel_rfl⟩
instance : FdT Tryd.prog 232 3 3 231 := ⟨fun a w => by kernel_rfl, fun cs w => by kernel_rfl⟩
instance : BldT Tryd.prog 232 [(0, 1), (1, 1), (2, 1), (3, 1)] [.int .i32 0, .int .i32 0, .int .i32 0, .int .i32 0] := ⟨fun parts => by kernel_rfl⟩
instance : TyT Tryd.prog 233 4 true := ⟨fun w => Tryd.isAgg233 w, fun w => Tryd.sizeOf233 w⟩
instance : MkI Tryd.prog 233 := ⟨fun v w => by kernel_rfl⟩
instance : ZvT Tryd.prog 233 (.agg #[.int .i32 0, .int .i32 0, .int .i32 0, .int .i32 0]) := ⟨fun w => Tryd.zeroValue233 w⟩
instance : FdT Tryd.prog 233 0 0 217 := ⟨fun a w => by kernel_rfl, fun cs w => by kernel_rfl⟩
instance : FdT Tryd.prog 233 1 1 218 := ⟨fun a w => by kernel_rfl, fun cs w => by kernel_rfl⟩
instance : FdT Tryd.prog 233 2 2 231 := ⟨fun a w => by kernel_rfl, fun cs w => by kernel_rfl⟩
instance : FdT Tryd.prog 233 3 3 231 := ⟨fun a w => by kernel_rfl, fun cs w => by kernel_rfl⟩
instance : BldT Tryd.prog 233 [(0, 1), (1, 1), (2, 1), (3, 1)] [.int .i32 0, .int .i32 0, .int .i32 0, .int .i32 0] := ⟨fun parts => by kernel_rfl⟩
instance : TyT Tryd.prog 234 1 false := ⟨fun w => Tryd.isAgg234 w, fun w => Tryd.sizeOf234 w⟩
instance : MkI Tryd.prog 234 := ⟨fun v w => by kernel_rfl⟩
instance : ZvT Tryd.prog 234 (.pointer none) := ⟨fun w => Tryd.zeroValue234 w⟩
/- Functions with a body. -/
instance : CalT Tryd.prog 2 := ⟨fun args w => Tryd.call2 args w⟩
instance : CalT Tryd.prog 3 := ⟨fun args w => Tryd.call3 args w⟩
instance : CalT Tryd.prog 4 := ⟨fun args w => Tryd.call4 args w⟩
instance : CalT Tryd.prog 5 := ⟨fun args w => Tryd.call5 args w⟩
instance : CalT Tryd.prog 6 := ⟨fun args w => Tryd.call6 args w⟩
instance : CalT Tryd.prog 7 := ⟨fun args w => Tryd.call7 args w⟩
instance : CalT Tryd.prog 8 := ⟨fun args w => Tryd.call8 args w⟩
instance : CalT Tryd.prog 9 := ⟨fun args w => Tryd.call9 args w⟩
instance : CalT Tryd.prog 10 := ⟨fun args w => Tryd.call10 args w⟩
instance : CalT Tryd.prog 11 := ⟨fun args w => Tryd.call11 args w⟩
instance : CalT Tryd.prog 12 := ⟨fun args w => Tryd.call12 args w⟩
instance : CalT Tryd.prog 13 := ⟨fun args w => Tryd.call13 args w⟩
instance : CalT Tryd.prog 14 := ⟨fun args w => Tryd.call14 args w⟩
instance : CalT Tryd.prog 15 := ⟨fun args w => Tryd.call15 args w⟩
instance : CalT Tryd.prog 16 := ⟨fun args w => Tryd.call16 args w⟩
instance : CalT Tryd.prog 17 := ⟨fun args w => Tryd.call17 args w⟩
instance : CalT Tryd.prog 18 := ⟨fun args w => Tryd.call18 args w⟩
instance : CalT Tryd.prog 19 := ⟨fun args w => Tryd.call19 args w⟩
instance : CalT Tryd.prog 20 := ⟨fun args w => Tryd.call20 args w⟩
instance : CalT Tryd.prog 21 := ⟨fun args w => Tryd.call21 args w⟩
instance : CalT Tryd.prog 22 := ⟨fun args w => Tryd.call22 args w⟩
instance : CalT Tryd.prog 23 := ⟨fun args w => Tryd.call23 args w⟩
instance : CalT Tryd.prog 24 := ⟨fun args w => Tryd.call24 args w⟩
instance : CalT Tryd.prog 25 := ⟨fun args w => Tryd.call25 args w⟩
instance : CalT Tryd.prog 26 := ⟨fun args w => Tryd.call26 args w⟩
instance : CalT Tryd.prog 27 := ⟨fun args w => Tryd.call27 args w⟩
instance : CalT Tryd.prog 28 := ⟨fun args w => Tryd.call28 args w⟩
instance : CalT Tryd.prog 29 := ⟨fun args w => Tryd.call29 args w⟩
instance : CalT Tryd.prog 30 := ⟨fun args w => Tryd.call30 args w⟩
instance : CalT Tryd.prog 31 := ⟨fun args w => Tryd.call31 args w⟩
instance : CalT Tryd.prog 32 := ⟨fun args w => Tryd.call32 args w⟩
instance : CalT Tryd.prog 33 := ⟨fun args w => Tryd.call33 args w⟩
instance : CalT Tryd.prog 34 := ⟨fun args w => Tryd.call34 args w⟩
instance : CalT Tryd.prog 35 := ⟨fun args w => Tryd.call35 args w⟩
instance : CalT Tryd.prog 36 := ⟨fun args w => Tryd.call36 args w⟩
instance : CalT Tryd.prog 37 := ⟨fun args w => Tryd.call37 args w⟩
instance : CalT Tryd.prog 38 := ⟨fun args w => Tryd.call38 args w⟩
instance : CalT Tryd.prog 39 := ⟨fun args w => Tryd.call39 args w⟩
instance : CalT Tryd.prog 40 := ⟨fun args w => Tryd.call40 args w⟩
instance : CalT Tryd.prog 41 := ⟨fun args w => Tryd.call41 args w⟩
instance : CalT Tryd.prog 42 := ⟨fun args w => Tryd.call42 args w⟩
instance : CalT Tryd.prog 43 := ⟨fun args w => Tryd.call43 args w⟩
instance : CalT Tryd.prog 44 := ⟨fun args w => Tryd.call44 args w⟩
instance : CalT Tryd.prog 45 := ⟨fun args w => Tryd.call45 args w⟩
instance : CalT Tryd.prog 46 := ⟨fun args w => Tryd.call46 args w⟩
instance : CalT Tryd.prog 47 := ⟨fun args w => Tryd.call47 args w⟩
instance : CalT Tryd.prog 48 := ⟨fun args w => Tryd.call48 args w⟩
instance : CalT Tryd.prog 49 := ⟨fun args w => Tryd.call49 args w⟩
instance : CalT Tryd.prog 50 := ⟨fun args w => Tryd.call50 args w⟩
instance : CalT Tryd.prog 51 := ⟨fun args w => Tryd.call51 args w⟩
instance : CalT Tryd.prog 52 := ⟨fun args w => Tryd.call52 args w⟩
instance : CalT Tryd.prog 53 := ⟨fun args w => Tryd.call53 args w⟩
instance : CalT Tryd.prog 54 := ⟨fun args w => Tryd.call54 args w⟩
instance : CalT Tryd.prog 55 := ⟨fun args w => Tryd.call55 args w⟩
instance : CalT Tryd.prog 56 := ⟨fun args w => Tryd.call56 args w⟩
instance : CalT Tryd.prog 57 := ⟨fun args w => Tryd.call57 args w⟩
instance : CalT Tryd.prog 58 := ⟨fun args w => Tryd.call58 args w⟩
instance : CalT Tryd.prog 59 := ⟨fun args w => Tryd.call59 args w⟩
instance : CalT Tryd.prog 60 := ⟨fun args w => Tryd.call60 args w⟩
instance : CalT Tryd.prog 61 := ⟨fun args w => Tryd.call61 args w⟩
instance : CalT Tryd.prog 62 := ⟨fun args w => Tryd.call62 args w⟩
instance : CalT Tryd.prog 63 := ⟨fun args w => Tryd.call63 args w⟩
instance : CalT Tryd.prog 64 := ⟨fun args w => Tryd.call64 args w⟩
instance : CalT Tryd.prog 65 := ⟨fun args w => Tryd.call65 args w⟩
instance : CalT Tryd.prog 66 := ⟨fun args w => Tryd.call66 args w⟩
instance : CalT Tryd.prog 67 := ⟨fun args w => Tryd.call67 args w⟩
instance : CalT Tryd.prog 68 := ⟨fun args w => Tryd.call68 args w⟩
instance : CalT Tryd.prog 69 := ⟨fun args w => Tryd.call69 args w⟩
instance : CalT Tryd.prog 70 := ⟨fun args w => Tryd.call70 args w⟩
instance : CalT Tryd.prog 71 := ⟨fun args w => Tryd.call71 args w⟩
instance : CalT Tryd.prog 72 := ⟨fun args w => Tryd.call72 args w⟩
instance : CalT Tryd.prog 73 := ⟨fun args w => Tryd.call73 args w⟩
instance : CalT Tryd.prog 74 := ⟨fun args w => Tryd.call74 args w⟩
instance : CalT Tryd.prog 75 := ⟨fun args w => Tryd.call75 args w⟩
instance : CalT Tryd.prog 76 := ⟨fun args w => Tryd.call76 args w⟩
instance : CalT Tryd.prog 77 := ⟨fun args w => Tryd.call77 args w⟩
instance : CalT Tryd.prog 78 := ⟨fun args w => Tryd.call78 args w⟩
instance : CalT Tryd.prog 79 := ⟨fun args w => Tryd.call79 args w⟩
instance : CalT Tryd.prog 80 := ⟨fun args w => Tryd.call80 args w⟩
instance : CalT Tryd.prog 81 := ⟨fun args w => Tryd.call81 args w⟩
instance : CalT Tryd.prog 82 := ⟨fun args w => Tryd.call82 args w⟩
instance : CalT Tryd.prog 83 := ⟨fun args w => Tryd.call83 args w⟩
instance : CalT Tryd.prog 84 := ⟨fun args w => Tryd.call84 args w⟩
instance : CalT Tryd.prog 85 := ⟨fun args w => Tryd.call85 args w⟩
instance : CalT Tryd.prog 86 := ⟨fun args w => Tryd.call86 args w⟩
instance : CalT Tryd.prog 87 := ⟨fun args w => Tryd.call87 args w⟩
instance : CalT Tryd.prog 88 := ⟨fun args w => Tryd.call88 args w⟩
instance : CalT Tryd.prog 89 := ⟨fun args w => Tryd.call89 args w⟩
instance : CalT Tryd.prog 90 := ⟨fun args w => Tryd.call90 args w⟩
instance : CalT Tryd.prog 94 := ⟨fun args w => Tryd.call94 args w⟩
instance : CalT Tryd.prog 95 := ⟨fun args w => Tryd.call95 args w⟩
instance : CalT Tryd.prog 96 := ⟨fun args w => Tryd.call96 args w⟩
instance : CalT Tryd.prog 97 := ⟨fun args w => Tryd.call97 args w⟩
instance : CalT Tryd.prog 98 := ⟨fun args w => Tryd.call98 args w⟩
instance : CalT Tryd.prog 99 := ⟨fun args w => Tryd.call99 args w⟩
instance : CalT Tryd.prog 100 := ⟨fun args w => Tryd.call100 args w⟩
instance : CalT Tryd.prog 102 := ⟨fun args w => Tryd.call102 args w⟩
instance : CalT Tryd.prog 103 := ⟨fun args w => Tryd.call103 args w⟩
instance : CalT Tryd.prog 104 := ⟨fun args w => Tryd.call104 args w⟩
instance : CalT Tryd.prog 105 := ⟨fun args w => Tryd.call105 args w⟩
instance : CalT Tryd.prog 106 := ⟨fun args w => Tryd.call106 args w⟩
instance : CalT Tryd.prog 107 := ⟨fun args w => Tryd.call107 args w⟩
instance : CalT Tryd.prog 108 := ⟨fun args w => Tryd.call108 args w⟩
instance : CalT Tryd.prog 109 := ⟨fun args w => Tryd.call109 args w⟩
instance : CalT Tryd.prog 110 := ⟨fun args w => Tryd.call110 args w⟩
instance : CalT Tryd.prog 111 := ⟨fun args w => Tryd.call111 args w⟩
instance : CalT Tryd.prog 112 := ⟨fun args w => Tryd.call112 args w⟩
instance : CalT Tryd.prog 116 := ⟨fun args w => Tryd.call116 args w⟩
instance : CalT Tryd.prog 117 := ⟨fun args w => Tryd.call117 args w⟩
instance : CalT Tryd.prog 118 := ⟨fun args w => Tryd.call118 args w⟩
instance : CalT Tryd.prog 119 := ⟨fun args w => Tryd.call119 args w⟩
instance : CalT Tryd.prog 123 := ⟨fun args w => Tryd.call123 args w⟩
instance : CalT Tryd.prog 125 := ⟨fun args w => Tryd.call125 args w⟩
instance : CalT Tryd.prog 126 := ⟨fun args w => Tryd.call126 args w⟩
instance : CalT Tryd.prog 127 := ⟨fun args w => Tryd.call127 args w⟩
instance : CalT Tryd.prog 128 := ⟨fun args w => Tryd.call128 args w⟩
instance : CalT Tryd.prog 129 := ⟨fun args w => Tryd.call129 args w⟩
instance : CalT Tryd.prog 130 := ⟨fun args w => Tryd.call130 args w⟩
instance : CalT Tryd.prog 131 := ⟨fun args w => Tryd.call131 args w⟩
instance : CalT Tryd.prog 132 := ⟨fun args w => Tryd.call132 args w⟩
instance : CalT Tryd.prog 133 := ⟨fun args w => Tryd.call133 args w⟩
instance : CalT Tryd.prog 134 := ⟨fun args w => Tryd.call134 args w⟩
instance : CalT Tryd.prog 135 := ⟨fun args w => Tryd.call135 args w⟩
instance : CalT Tryd.prog 136 := ⟨fun args w => Tryd.call136 args w⟩
instance : CalT Tryd.prog 137 := ⟨fun args w => Tryd.call137 args w⟩
instance : CalT Tryd.prog 138 := ⟨fun args w => Tryd.call138 args w⟩
instance : CalT Tryd.prog 139 := ⟨fun args w => Tryd.call139 args w⟩
instance : CalT Tryd.prog 140 := ⟨fun args w => Tryd.call140 args w⟩
instance : CalT Tryd.prog 141 := ⟨fun args w => Tryd.call141 args w⟩
instance : CalT Tryd.prog 142 := ⟨fun args w => Tryd.call142 args w⟩
instance : CalT Tryd.prog 143 := ⟨fun args w => Tryd.call143 args w⟩
instance : CalT Tryd.prog 144 := ⟨fun args w => Tryd.call144 args w⟩
instance : CalT Tryd.prog 145 := ⟨fun args w => Tryd.call145 args w⟩
instance : CalT Tryd.prog 146 := ⟨fun args w => Tryd.call146 args w⟩
instance : CalT Tryd.prog 147 := ⟨fun args w => Tryd.call147 args w⟩
instance : CalT Tryd.prog 148 := ⟨fun args w => Tryd.call148 args w⟩
instance : CalT Tryd.prog 149 := ⟨fun args w => Tryd.call149 args w⟩
instance : CalT Tryd.prog 150 := ⟨fun args w => Tryd.call150 args w⟩
instance : CalT Tryd.prog 151 := ⟨fun args w => Tryd.call151 args w⟩
instance : CalT Tryd.prog 173 := ⟨fun args w => Tryd.call173 args w⟩
instance : CalT Tryd.prog 200 := ⟨fun args w => Tryd.call200 args w⟩
end Go.Proofs.YtoelbnhjamddgaaDoor
