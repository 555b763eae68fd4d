/- The seat's types and functions, as instances. Printed by wip/tools/types.py. -/
import Derived.Test.YtcnnldlpcpcemaaDoorEngB
import Derived.Test.YtcnnldlpcpcemaaDoorProg
import Derived.KernelRfl
namespace Go.Proofs.YtcnnldlpcpcemaaDoor
open Go.Port
instance : TyT Tryd.prog 2 1 false := ⟨fun w => Tryd.isAgg2 w, fun w => Tryd.sizeOf2 w⟩
instance : MkI Tryd.prog 2 := ⟨fun v w => by kernel_rfl⟩
instance : IntT Tryd.prog 2 .i64 := ⟨Tryd.underlying2⟩
instance : ZvT Tryd.prog 2 (.int .i64 0) := ⟨fun w => Tryd.zeroValue2 w⟩
instance : TyT Tryd.prog 3 1 false := ⟨fun w => Tryd.isAgg3 w, fun w => Tryd.sizeOf3 w⟩
instance : MkI Tryd.prog 3 := ⟨fun v w => by kernel_rfl⟩
instance : IntT Tryd.prog 3 .i64 := ⟨Tryd.underlying3⟩
instance : ZvT Tryd.prog 3 (.int .i64 0) := ⟨fun w => Tryd.zeroValue3 w⟩
instance : TyT Tryd.prog 4 1 false := ⟨fun w => Tryd.isAgg4 w, fun w => Tryd.sizeOf4 w⟩
instance : MkI Tryd.prog 4 := ⟨fun v w => by kernel_rfl⟩
instance : ZvT Tryd.prog 4 (.bool false) := ⟨fun w => Tryd.zeroValue4 w⟩
instance : TyT Tryd.prog 5 1 false := ⟨fun w => Tryd.isAgg5 w, fun w => Tryd.sizeOf5 w⟩
instance : MkI Tryd.prog 5 := ⟨fun v w => by kernel_rfl⟩
instance : IntT Tryd.prog 5 .u8 := ⟨Tryd.underlying5⟩
instance : ZvT Tryd.prog 5 (.int .u8 0) := ⟨fun w => Tryd.zeroValue5 w⟩
instance : TyT Tryd.prog 6 1 false := ⟨fun w => Tryd.isAgg6 w, fun w => Tryd.sizeOf6 w⟩
instance : MkI Tryd.prog 6 := ⟨fun v w => by kernel_rfl⟩
instance : IntT Tryd.prog 6 .u8 := ⟨Tryd.underlying6⟩
instance : ZvT Tryd.prog 6 (.int .u8 0) := ⟨fun w => Tryd.zeroValue6 w⟩
instance : TyT Tryd.prog 7 4 true := ⟨fun w => Tryd.isAgg7 w, fun w => Tryd.sizeOf7 w⟩
instance : MkI Tryd.prog 7 := ⟨fun v w => by kernel_rfl⟩
instance : ZvT Tryd.prog 7 (.agg #[.int .i64 0, .int .i64 0, .bool false, .int .u8 0]) := ⟨fun w => Tryd.zeroValue7 w⟩
instance : FdT Tryd.prog 7 0 0 2 := ⟨fun a w => by kernel_rfl, fun cs w => by kernel_rfl⟩
instance : FdT Tryd.prog 7 1 1 3 := ⟨fun a w => by kernel_rfl, fun cs w => by kernel_rfl⟩
instance : FdT Tryd.prog 7 2 2 4 := ⟨fun a w => by kernel_rfl, fun cs w => by kernel_rfl⟩
instance : FdT Tryd.prog 7 3 3 6 := ⟨fun a w => by kernel_rfl, fun cs w => by kernel_rfl⟩
instance : BldT Tryd.prog 7 [(0, 1), (1, 1), (2, 1), (3, 1)] [.int .i64 0, .int .i64 0, .bool false, .int .u8 0] := ⟨fun parts => by kernel_rfl⟩
instance : TyT Tryd.prog 8 4 true := ⟨fun w => Tryd.isAgg8 w, fun w => Tryd.sizeOf8 w⟩
instance : MkI Tryd.prog 8 := ⟨fun v w => by kernel_rfl⟩
instance : ZvT Tryd.prog 8 (.agg #[.int .i64 0, .int .i64 0, .bool false, .int .u8 0]) := ⟨fun w => Tryd.zeroValue8 w⟩
instance : FdT Tryd.prog 8 0 0 2 := ⟨fun a w => by kernel_rfl, fun cs w => by kernel_rfl⟩
instance : FdT Tryd.prog 8 1 1 3 := ⟨fun a w => by kernel_rfl, fun cs w => by kernel_rfl⟩
instance : FdT Tryd.prog 8 2 2 4 := ⟨fun a w => by kernel_rfl, fun cs w => by kernel_rfl⟩
instance : FdT Tryd.prog 8 3 3 6 := ⟨fun a w => by kernel_rfl, fun cs w => by kernel_rfl⟩
instance : BldT Tryd.prog 8 [(0, 1), (1, 1), (2, 1), (3, 1)] [.int .i64 0, .int .i64 0, .bool false, .int .u8 0] := ⟨fun parts => by kernel_rfl⟩
instance : TyT Tryd.prog 9 1 false := ⟨fun w => Tryd.isAgg9 w, fun w => Tryd.sizeOf9 w⟩
instance : MkI Tryd.prog 9 := ⟨fun v w => by kernel_rfl⟩
instance : StrT Tryd.prog 9 := ⟨Tryd.underlying9⟩
instance : ZvT Tryd.prog 9 (.string ⟨#[]⟩) := ⟨fun w => Tryd.zeroValue9 w⟩
instance : TyT Tryd.prog 10 1 false := ⟨fun w => Tryd.isAgg10 w, fun w => Tryd.sizeOf10 w⟩
instance : MkI Tryd.prog 10 := ⟨fun v w => by kernel_rfl⟩
instance : StrT Tryd.prog 10 := ⟨Tryd.underlying10⟩
instance : ZvT Tryd.prog 10 (.string ⟨#[]⟩) := ⟨fun w => Tryd.zeroValue10 w⟩
instance : TyT Tryd.prog 11 1 false := ⟨fun w => Tryd.isAgg11 w, fun w => Tryd.sizeOf11 w⟩
instance : MkI Tryd.prog 11 := ⟨fun v w => by kernel_rfl⟩
instance : StrT Tryd.prog 11 := ⟨Tryd.underlying11⟩
instance : ZvT Tryd.prog 11 (.string ⟨#[]⟩) := ⟨fun w => Tryd.zeroValue11 w⟩
instance : TyT Tryd.prog 12 1 false := ⟨fun w => Tryd.isAgg12 w, fun w => Tryd.sizeOf12 w⟩
instance : MkI Tryd.prog 12 := ⟨fun v w => by kernel_rfl⟩
instance : IntT Tryd.prog 12 .u64 := ⟨Tryd.underlying12⟩
instance : ZvT Tryd.prog 12 (.int .u64 0) := ⟨fun w => Tryd.zeroValue12 w⟩
instance : TyT Tryd.prog 13 2 true := ⟨fun w => Tryd.isAgg13 w, fun w => Tryd.sizeOf13 w⟩
instance : MkI Tryd.prog 13 := ⟨fun v w => by kernel_rfl⟩
instance : ZvT Tryd.prog 13 (.agg #[.string ⟨#[]⟩, .int .u64 0]) := ⟨fun w => Tryd.zeroValue13 w⟩
instance : FdT Tryd.prog 13 0 0 9 := ⟨fun a w => by kernel_rfl, fun cs w => by kernel_rfl⟩
instance : FdT Tryd.prog 13 1 1 12 := ⟨fun a w => by kernel_rfl, fun cs w => by kernel_rfl⟩
instance : BldT Tryd.prog 13 [(0, 1), (1, 1)] [.string ⟨#[]⟩, .int .u64 0] := ⟨fun parts => by kernel_rfl⟩
instance : TyT Tryd.prog 14 2 true := ⟨fun w => Tryd.isAgg14 w, fun w => Tryd.sizeOf14 w⟩
instance : MkI Tryd.prog 14 := ⟨fun v w => by kernel_rfl⟩
instance : ZvT Tryd.prog 14 (.agg #[.string ⟨#[]⟩, .int .u64 0]) := ⟨fun w => Tryd.zeroValue14 w⟩
instance : FdT Tryd.prog 14 0 0 9 := ⟨fun a w => by kernel_rfl, fun cs w => by kernel_rfl⟩
instance : FdT Tryd.prog 14 1 1 12 := ⟨fun a w => by kernel_rfl, fun cs w => by kernel_rfl⟩
instance : BldT Tryd.prog 14 [(0, 1), (1, 1)] [.string ⟨#[]⟩, .int .u64 0] := ⟨fun parts => by kernel_rfl⟩
instance : TyT Tryd.prog 15 1 false := ⟨fun w => Tryd.isAgg15 w, fun w => Tryd.sizeOf15 w⟩
instance : MkI Tryd.prog 15 := ⟨fun v w => by kernel_rfl⟩
instance : ZvT Tryd.prog 15 (.pointer none) := ⟨fun w => Tryd.zeroValue15 w⟩
instance : TyT Tryd.prog 16 1 false := ⟨fun w => Tryd.isAgg16 w, fun w => Tryd.sizeOf16 w⟩
instance : MkI Tryd.prog 16 := ⟨fun v w => by kernel_rfl⟩
instance : ZvT Tryd.prog 16 (.pointer none) := ⟨fun w => Tryd.zeroValue16 w⟩
instance : TyT Tryd.prog 17 1 false := ⟨fun w => Tryd.isAgg17 w, fun w => Tryd.sizeOf17 w⟩
instance : MkI Tryd.prog 17 := ⟨fun v w => by kernel_rfl⟩
instance : ZvT Tryd.prog 17 (.pointer none) := ⟨fun w => Tryd.zeroValue17 w⟩
instance : TyT Tryd.prog 18 1 true := ⟨fun w => Tryd.isAgg18 w, fun w => Tryd.sizeOf18 w⟩
instance : MkI Tryd.prog 18 := ⟨fun v w => by kernel_rfl⟩
instance : ZvT Tryd.prog 18 (.agg #[.pointer none]) := ⟨fun w => Tryd.zeroValue18 w⟩
instance : FdT Tryd.prog 18 0 0 17 := ⟨fun a w => by kernel_rfl, fun cs w => by kernel_rfl⟩
instance : BldT Tryd.prog 18 [(0, 1)] [.pointer none] := ⟨fun parts => by kernel_rfl⟩
instance : TyT Tryd.prog 19 1 true := ⟨fun w => Tryd.isAgg19 w, fun w => Tryd.sizeOf19 w⟩
instance : MkI Tryd.prog 19 := ⟨fun v w => by kernel_rfl⟩
instance : ZvT Tryd.prog 19 (.agg #[.pointer none]) := ⟨fun w => Tryd.zeroValue19 w⟩
instance : FdT Tryd.prog 19 0 0 17 := ⟨fun a w => by kernel_rfl, fun cs w => by kernel_rfl⟩
instance : BldT Tryd.prog 19 [(0, 1)] [.pointer none] := ⟨fun parts => by kernel_rfl⟩
instance : TyT Tryd.prog 20 1 false := ⟨fun w => Tryd.isAgg20 w, fun w => Tryd.sizeOf20 w⟩
instance : IfT Tryd.prog 20 := ⟨⟨_, Tryd.underlying20⟩⟩
instance : ZvT Tryd.prog 20 (.nilIface) := ⟨fun w => Tryd.zeroValue20 w⟩
instance : TyT Tryd.prog 21 1 false := ⟨fun w => Tryd.isAgg21 w, fun w => Tryd.sizeOf21 w⟩
instance : MkI Tryd.prog 21 := ⟨fun v w => by kernel_rfl⟩
instance : IntT Tryd.prog 21 .i32 := ⟨Tryd.underlying21⟩
instance : ZvT Tryd.prog 21 (.int .i32 0) := ⟨fun w => Tryd.zeroValue21 w⟩
instance : TyT Tryd.prog 22 1 false := ⟨fun w => Tryd.isAgg22 w, fun w => Tryd.sizeOf22 w⟩
instance : MkI Tryd.prog 22 := ⟨fun v w => by kernel_rfl⟩
instance : ZvT Tryd.prog 22 (.pointer none) := ⟨fun w => Tryd.zeroValue22 w⟩
instance : TyT Tryd.prog 23 1 false := ⟨fun w => Tryd.isAgg23 w, fun w => Tryd.sizeOf23 w⟩
instance : IfT Tryd.prog 23 := ⟨⟨_, Tryd.underlying23⟩⟩
instance : ZvT Tryd.prog 23 (.nilIface) := ⟨fun w => Tryd.zeroValue23 w⟩
instance : TyT Tryd.prog 24 1 false := ⟨fun w => Tryd.isAgg24 w, fun w => Tryd.sizeOf24 w⟩
instance : IfT Tryd.prog 24 := ⟨⟨_, Tryd.underlying24⟩⟩
instance : ZvT Tryd.prog 24 (.nilIface) := ⟨fun w => Tryd.zeroValue24 w⟩
instance : TyT Tryd.prog 27 5 true := ⟨fun w => Tryd.isAgg27 w, fun w => Tryd.sizeOf27 w⟩
instance : MkI Tryd.prog 27 := ⟨fun v w => by kernel_rfl⟩
instance : ZvT Tryd.prog 27 (.agg #[.int .i64 0, .int .i64 0, .int .i64 0, .int .i64 0, .int .i64 0]) := ⟨fun w => Tryd.zeroValue27 w⟩
instance : FdT Tryd.prog 27 0 0 3 := ⟨fun a w => by kernel_rfl, fun cs w => by kernel_rfl⟩
instance : FdT Tryd.prog 27 1 1 3 := ⟨fun a w => by kernel_rfl, fun cs w => by kernel_rfl⟩
instance : FdT Tryd.prog 27 2 2 3 := ⟨fun a w => by kernel_rfl, fun cs w => by kernel_rfl⟩
instance : FdT Tryd.prog 27 3 3 3 := ⟨fun a w => by kernel_rfl, fun cs w => by kernel_rfl⟩
instance : FdT Tryd.prog 27 4 4 3 := ⟨fun a w => by kernel_rfl, fun cs w => by kernel_rfl⟩
instance : BldT Tryd.prog 27 [(0, 1), (1, 1), (2, 1), (3, 1), (4, 1)] [.int .i64 0, .int .i64 0, .int .i64 0, .int .i64 0, .int .i64 0] := ⟨fun parts => by kernel_rfl⟩
instance : TyT Tryd.prog 28 5 true := ⟨fun w => Tryd.isAgg28 w, fun w => Tryd.sizeOf28 w⟩
instance : MkI Tryd.prog 28 := ⟨fun v w => by kernel_rfl⟩
instance : ZvT Tryd.prog 28 (.agg #[.int .i64 0, .int .i64 0, .int .i64 0, .int .i64 0, .int .i64 0]) := ⟨fun w => Tryd.zeroValue28 w⟩
instance : FdT Tryd.prog 28 0 0 3 := ⟨fun a w => by kernel_rfl, fun cs w => by kernel_rfl⟩
instance : FdT Tryd.prog 28 1 1 3 := ⟨fun a w => by kernel_rfl, fun cs w => by kernel_rfl⟩
instance : FdT Tryd.prog 28 2 2 3 := ⟨fun a w => by kernel_rfl, fun cs w => by kernel_rfl⟩
instance : FdT Tryd.prog 28 3 3 3 := ⟨fun a w => by kernel_rfl, fun cs w => by kernel_rfl⟩
instance : FdT Tryd.prog 28 4 4 3 := ⟨fun a w => by kernel_rfl, fun cs w => by kernel_rfl⟩
instance : BldT Tryd.prog 28 [(0, 1), (1, 1), (2, 1), (3, 1), (4, 1)] [.int .i64 0, .int .i64 0, .int .i64 0, .int .i64 0, .int .i64 0] := ⟨fun parts => by kernel_rfl⟩
instance : TyT Tryd.prog 29 2 true := ⟨fun w => Tryd.isAgg29 w, fun w => Tryd.sizeOf29 w⟩
instance : MkI Tryd.prog 29 := ⟨fun v w => by kernel_rfl⟩
instance : ZvT Tryd.prog 29 (.agg #[.int .i64 0, .int .i64 0]) := ⟨fun w => Tryd.zeroValue29 w⟩
instance : ArT Tryd.prog 29 2 3 1 := ⟨Tryd.underlying29, fun w => Tryd.sizeOf3 w⟩
instance : TyT Tryd.prog 30 2 true := ⟨fun w => Tryd.isAgg30 w, fun w => Tryd.sizeOf30 w⟩
instance : MkI Tryd.prog 30 := ⟨fun v w => by kernel_rfl⟩
instance : ZvT Tryd.prog 30 (.agg #[.bool false, .bool false]) := ⟨fun w => Tryd.zeroValue30 w⟩
instance : ArT Tryd.prog 30 2 4 1 := ⟨Tryd.underlying30, fun w => Tryd.sizeOf4 w⟩
instance : TyT Tryd.prog 31 15 true := ⟨fun w => Tryd.isAgg31 w, fun w => Tryd.sizeOf31 w⟩
instance : MkI Tryd.prog 31 := ⟨fun v w => by kernel_rfl⟩
instance : ZvT Tryd.prog 31 (.agg #[.int .i64 0, .int .i64 0, .int .i64 0, .int .i64 0, .int .i64 0, .int .i64 0, .int .i64 0, .int .i64 0, .int .i64 0, .int .i64 0, .int .i64 0, .int .i64 0, .bool false, .bool false, .int .i64 0]) := ⟨fun w => Tryd.zeroValue31 w⟩
instance : FdT Tryd.prog 31 0 0 28 := ⟨fun a w => by kernel_rfl, fun cs w => by kernel_rfl⟩
instance : FdT Tryd.prog 31 1 5 3 := ⟨fun a w => by kernel_rfl, fun cs w => by kernel_rfl⟩
instance : FdT Tryd.prog 31 2 6 3 := ⟨fun a w => by kernel_rfl, fun cs w => by kernel_rfl⟩
instance : FdT Tryd.prog 31 3 7 3 := ⟨fun a w => by kernel_rfl, fun cs w => by kernel_rfl⟩
instance : FdT Tryd.prog 31 4 8 29 := ⟨fun a w => by kernel_rfl, fun cs w => by kernel_rfl⟩
instance : FdT Tryd.prog 31 5 10 29 := ⟨fun a w => by kernel_rfl, fun cs w => by kernel_rfl⟩
instance : FdT Tryd.prog 31 6 12 30 := ⟨fun a w => by kernel_rfl, fun cs w => by kernel_rfl⟩
instance : FdT Tryd.prog 31 7 14 3 := ⟨fun a w => by kernel_rfl, fun cs w => by kernel_rfl⟩
instance : BldT Tryd.prog 31 [(0, 5), (5, 1), (6, 1), (7, 1), (8, 2), (10, 2), (12, 2), (14, 1)] [.int .i64 0, .int .i64 0, .int .i64 0, .int .i64 0, .int .i64 0, .int .i64 0, .int .i64 0, .int .i64 0, .int .i64 0, .int .i64 0, .int .i64 0, .int .i64 0, .bool false, .bool false, .int .i64 0] := ⟨fun parts => by kernel_rfl⟩
instance : TyT Tryd.prog 32 15 true := ⟨fun w => Tryd.isAgg32 w, fun w => Tryd.sizeOf32 w⟩
instance : MkI Tryd.prog 32 := ⟨fun v w => by kernel_rfl⟩
instance : ZvT Tryd.prog 32 (.agg #[.int .i64 0, .int .i64 0, .int .i64 0, .int .i64 0, .int .i64 0, .int .i64 0, .int .i64 0, .int .i64 0, .int .i64 0, .int .i64 0, .int .i64 0, .int .i64 0, .bool false, .bool false, .int .i64 0]) := ⟨fun w => Tryd.zeroValue32 w⟩
instance : FdT Tryd.prog 32 0 0 28 := ⟨fun a w => by kernel_rfl, fun cs w => by kernel_rfl⟩
instance : FdT Tryd.prog 32 1 5 3 := ⟨fun a w => by kernel_rfl, fun cs w => by kernel_rfl⟩
instance : FdT Tryd.prog 32 2 6 3 := ⟨fun a w => by kernel_rfl, fun cs w => by kernel_rfl⟩
instance : FdT Tryd.prog 32 3 7 3 := ⟨fun a w => by kernel_rfl, fun cs w => by kernel_rfl⟩
instance : FdT Tryd.prog 32 4 8 29 := ⟨fun a w => by kernel_rfl, fun cs w => by kernel_rfl⟩
instance : FdT Tryd.prog 32 5 10 29 := ⟨fun a w => by kernel_rfl, fun cs w => by kernel_rfl⟩
instance : FdT Tryd.prog 32 6 12 30 := ⟨fun a w => by kernel_rfl, fun cs w => by kernel_rfl⟩
instance : FdT Tryd.prog 32 7 14 3 := ⟨fun a w => by kernel_rfl, fun cs w => by kernel_rfl⟩
instance : BldT Tryd.prog 32 [(0, 5), (5, 1), (6, 1), (7, 1), (8, 2), (10, 2), (12, 2), (14, 1)] [.int .i64 0, .int .i64 0, .int .i64 0, .int .i64 0, .int .i64 0, .int .i64 0, .int .i64 0, .int .i64 0, .int .i64 0, .int .i64 0, .int .i64 0, .int .i64 0, .bool false, .bool false, .int .i64 0] := ⟨fun parts => by kernel_rfl⟩
instance : TyT Tryd.prog 35 1 false := ⟨fun w => Tryd.isAgg35 w, fun w => Tryd.sizeOf35 w⟩
instance : MkI Tryd.prog 35 := ⟨fun v w => by kernel_rfl⟩
instance : ZvT Tryd.prog 35 (.slice none 0 0) := ⟨fun w => Tryd.zeroValue35 w⟩
instance : SlT Tryd.prog 35 5 1 1 (.int .u8 0) := ⟨by kernel_rfl, by kernel_rfl, rfl, by decide, by decide⟩
instance : TyT Tryd.prog 36 7 true := ⟨fun w => Tryd.isAgg36 w, fun w => Tryd.sizeOf36 w⟩
instance : MkI Tryd.prog 36 := ⟨fun v w => by kernel_rfl⟩
instance : ZvT Tryd.prog 36 (.agg #[.int .i64 0, .int .i64 0, .int .i64 0, .int .i64 0, .int .i64 0, .int .i64 0, .slice none 0 0]) := ⟨fun w => Tryd.zeroValue36 w⟩
instance : FdT Tryd.prog 36 0 0 3 := ⟨fun a w => by kernel_rfl, fun cs w => by kernel_rfl⟩
instance : FdT Tryd.prog 36 1 1 3 := ⟨fun a w => by kernel_rfl, fun cs w => by kernel_rfl⟩
instance : FdT Tryd.prog 36 2 2 3 := ⟨fun a w => by kernel_rfl, fun cs w => by kernel_rfl⟩
instance : FdT Tryd.prog 36 3 3 3 := ⟨fun a w => by kernel_rfl, fun cs w => by kernel_rfl⟩
instance : FdT Tryd.prog 36 4 4 3 := ⟨fun a w => by kernel_rfl, fun cs w => by kernel_rfl⟩
instance : FdT Tryd.prog 36 5 5 3 := ⟨fun a w => by kernel_rfl, fun cs w => by kernel_rfl⟩
instance : FdT Tryd.prog 36 6 6 35 := ⟨fun a w => by kernel_rfl, fun cs w => by kernel_rfl⟩
instance : BldT Tryd.prog 36 [(0, 1), (1, 1), (2, 1), (3, 1), (4, 1), (5, 1), (6, 1)] [.int .i64 0, .int .i64 0, .int .i64 0, .int .i64 0, .int .i64 0, .int .i64 0, .slice none 0 0] := ⟨fun parts => by kernel_rfl⟩
instance : TyT Tryd.prog 37 7 true := ⟨fun w => Tryd.isAgg37 w, fun w => Tryd.sizeOf37 w⟩
instance : MkI Tryd.prog 37 := ⟨fun v w => by kernel_rfl⟩
instance : ZvT Tryd.prog 37 (.agg #[.int .i64 0, .int .i64 0, .int .i64 0, .int .i64 0, .int .i64 0, .int .i64 0, .slice none 0 0]) := ⟨fun w => Tryd.zeroValue37 w⟩
instance : FdT Tryd.prog 37 0 0 3 := ⟨fun a w => by kernel_rfl, fun cs w => by kernel_rfl⟩
instance : FdT Tryd.prog 37 1 1 3 := ⟨fun a w => by kernel_rfl, fun cs w => by kernel_rfl⟩
instance : FdT Tryd.prog 37 2 2 3 := ⟨fun a w => by kernel_rfl, fun cs w => by kernel_rfl⟩
instance : FdT Tryd.prog 37 3 3 3 := ⟨fun a w => by kernel_rfl, fun cs w => by kernel_rfl⟩
instance : FdT Tryd.prog 37 4 4 3 := ⟨fun a w => by kernel_rfl, fun cs w => by kernel_rfl⟩
instance : FdT Tryd.prog 37 5 5 3 := ⟨fun a w => by kernel_rfl, fun cs w => by kernel_rfl⟩
instance : FdT Tryd.prog 37 6 6 35 := ⟨fun a w => by kernel_rfl, fun cs w => by kernel_rfl⟩
instance : BldT Tryd.prog 37 [(0, 1), (1, 1), (2, 1), (3, 1), (4, 1), (5, 1), (6, 1)] [.int .i64 0, .int .i64 0, .int .i64 0, .int .i64 0, .int .i64 0, .int .i64 0, .slice none 0 0] := ⟨fun parts => by kernel_rfl⟩
instance : TyT Tryd.prog 42 1 false := ⟨fun w => Tryd.isAgg42 w, fun w => Tryd.sizeOf42 w⟩
instance : MkI Tryd.prog 42 := ⟨fun v w => by kernel_rfl⟩
instance : IntT Tryd.prog 42 .i64 := ⟨Tryd.underlying42⟩
instance : ZvT Tryd.prog 42 (.int .i64 0) := ⟨fun w => Tryd.zeroValue42 w⟩
instance : TyT Tryd.prog 43 1 false := ⟨fun w => Tryd.isAgg43 w, fun w => Tryd.sizeOf43 w⟩
instance : MkI Tryd.prog 43 := ⟨fun v w => by kernel_rfl⟩
instance : ZvT Tryd.prog 43 (.map none) := ⟨fun w => Tryd.zeroValue43 w⟩
instance : TyT Tryd.prog 44 3 true := ⟨fun w => Tryd.isAgg44 w, fun w => Tryd.sizeOf44 w⟩
instance : MkI Tryd.prog 44 := ⟨fun v w => by kernel_rfl⟩
instance : ZvT Tryd.prog 44 (.agg #[.int .i64 0, .int .i64 0, .map none]) := ⟨fun w => Tryd.zeroValue44 w⟩
instance : FdT Tryd.prog 44 0 0 3 := ⟨fun a w => by kernel_rfl, fun cs w => by kernel_rfl⟩
instance : FdT Tryd.prog 44 1 1 3 := ⟨fun a w => by kernel_rfl, fun cs w => by kernel_rfl⟩
instance : FdT Tryd.prog 44 2 2 43 := ⟨fun a w => by kernel_rfl, fun cs w => by kernel_rfl⟩
instance : BldT Tryd.prog 44 [(0, 1), (1, 1), (2, 1)] [.int .i64 0, .int .i64 0, .map none] := ⟨fun parts => by kernel_rfl⟩
instance : TyT Tryd.prog 45 3 true := ⟨fun w => Tryd.isAgg45 w, fun w => Tryd.sizeOf45 w⟩
instance : MkI Tryd.prog 45 := ⟨fun v w => by kernel_rfl⟩
instance : ZvT Tryd.prog 45 (.agg #[.int .i64 0, .int .i64 0, .map none]) := ⟨fun w => Tryd.zeroValue45 w⟩
instance : FdT Tryd.prog 45 0 0 3 := ⟨fun a w => by kernel_rfl, fun cs w => by kernel_rfl⟩
instance : FdT Tryd.prog 45 1 1 3 := ⟨fun a w => by kernel_rfl, fun cs w => by kernel_rfl⟩
instance : FdT Tryd.prog 45 2 2 43 := ⟨fun a w => by kernel_rfl, fun cs w => by kernel_rfl⟩
instance : BldT Tryd.prog 45 [(0, 1), (1, 1), (2, 1)] [.int .i64 0, .int .i64 0, .map none] := ⟨fun parts => by kernel_rfl⟩
instance : TyT Tryd.prog 49 1 false := ⟨fun w => Tryd.isAgg49 w, fun w => Tryd.sizeOf49 w⟩
instance : MkI Tryd.prog 49 := ⟨fun v w => by kernel_rfl⟩
instance : ZvT Tryd.prog 49 (.slice none 0 0) := ⟨fun w => Tryd.zeroValue49 w⟩
instance : SlT Tryd.prog 49 28 5 40 (.agg #[.int .i64 0, .int .i64 0, .int .i64 0, .int .i64 0, .int .i64 0]) := ⟨by kernel_rfl, by kernel_rfl, rfl, by decide, by decide⟩
instance : TyT Tryd.prog 61 1 false := ⟨fun w => Tryd.isAgg61 w, fun w => Tryd.sizeOf61 w⟩
instance : MkI Tryd.prog 61 := ⟨fun v w => by kernel_rfl⟩
instance : ZvT Tryd.prog 61 (.pointer none) := ⟨fun w => Tryd.zeroValue61 w⟩
instance : TyT Tryd.prog 65 1 false := ⟨fun w => Tryd.isAgg65 w, fun w => Tryd.sizeOf65 w⟩
instance : MkI Tryd.prog 65 := ⟨fun v w => by kernel_rfl⟩
instance : IntT Tryd.prog 65 .u64 := ⟨Tryd.underlying65⟩
instance : ZvT Tryd.prog 65 (.int .u64 0) := ⟨fun w => Tryd.zeroValue65 w⟩
instance : TyT Tryd.prog 66 1 false := ⟨fun w => Tryd.isAgg66 w, fun w => Tryd.sizeOf66 w⟩
instance : MkI Tryd.prog 66 := ⟨fun v w => by kernel_rfl⟩
instance : ZvT Tryd.prog 66 (.pointer none) := ⟨fun w => Tryd.zeroValue66 w⟩
instance : TyT Tryd.prog 67 1 false := ⟨fun w => Tryd.isAgg67 w, fun w => Tryd.sizeOf67 w⟩
instance : MkI Tryd.prog 67 := ⟨fun v w => by kernel_rfl⟩
instance : IntT Tryd.prog 67 .u64 := ⟨Tryd.underlying67⟩
instance : ZvT Tryd.prog 67 (.int .u64 0) := ⟨fun w => Tryd.zeroValue67 w⟩
instance : TyT Tryd.prog 68 3 true := ⟨fun w => Tryd.isAgg68 w, fun w => Tryd.sizeOf68 w⟩
instance : MkI Tryd.prog 68 := ⟨fun v w => by kernel_rfl⟩
instance : ZvT Tryd.prog 68 (.agg #[.pointer none, .pointer none, .int .u64 0]) := ⟨fun w => Tryd.zeroValue68 w⟩
instance : FdT Tryd.prog 68 0 0 17 := ⟨fun a w => by kernel_rfl, fun cs w => by kernel_rfl⟩
instance : FdT Tryd.prog 68 1 1 66 := ⟨fun a w => by kernel_rfl, fun cs w => by kernel_rfl⟩
instance : FdT Tryd.prog 68 2 2 67 := ⟨fun a w => by kernel_rfl, fun cs w => by kernel_rfl⟩
instance : BldT Tryd.prog 68 [(0, 1), (1, 1), (2, 1)] [.pointer none, .pointer none, .int .u64 0] := ⟨fun parts => by kernel_rfl⟩
instance : TyT Tryd.prog 69 3 true := ⟨fun w => Tryd.isAgg69 w, fun w => Tryd.sizeOf69 w⟩
instance : MkI Tryd.prog 69 := ⟨fun v w => by kernel_rfl⟩
instance : ZvT Tryd.prog 69 (.agg #[.pointer none, .pointer none, .int .u64 0]) := ⟨fun w => Tryd.zeroValue69 w⟩
instance : FdT Tryd.prog 69 0 0 17 := ⟨fun a w => by kernel_rfl, fun cs w => by kernel_rfl⟩
instance : FdT Tryd.prog 69 1 1 66 := ⟨fun a w => by kernel_rfl, fun cs w => by kernel_rfl⟩
instance : FdT Tryd.prog 69 2 2 67 := ⟨fun a w => by kernel_rfl, fun cs w => by kernel_rfl⟩
instance : BldT Tryd.prog 69 [(0, 1), (1, 1), (2, 1)] [.pointer none, .pointer none, .int .u64 0] := ⟨fun parts => by kernel_rfl⟩
instance : TyT Tryd.prog 71 1 false := ⟨fun w => Tryd.isAgg71 w, fun w => Tryd.sizeOf71 w⟩
instance : IfT Tryd.prog 71 := ⟨⟨_, Tryd.underlying71⟩⟩
instance : ZvT Tryd.prog 71 (.nilIface) := ⟨fun w => Tryd.zeroValue71 w⟩
instance : TyT Tryd.prog 72 1 false := ⟨fun w => Tryd.isAgg72 w, fun w => Tryd.sizeOf72 w⟩
instance : IfT Tryd.prog 72 := ⟨⟨_, Tryd.underlying72⟩⟩
instance : ZvT Tryd.prog 72 (.nilIface) := ⟨fun w => Tryd.zeroValue72 w⟩
instance : TyT Tryd.prog 74 1 false := ⟨fun w => Tryd.isAgg74 w, fun w => Tryd.sizeOf74 w⟩
instance : MkI Tryd.prog 74 := ⟨fun v w => by kernel_rfl⟩
instance : IntT Tryd.prog 74 .u8 := ⟨Tryd.underlying74⟩
instance : ZvT Tryd.prog 74 (.int .u8 0) := ⟨fun w => Tryd.zeroValue74 w⟩
instance : TyT Tryd.prog 79 4 true := ⟨fun w => Tryd.isAgg79 w, fun w => Tryd.sizeOf79 w⟩
instance : MkI Tryd.prog 79 := ⟨fun v w => by kernel_rfl⟩
instance : ZvT Tryd.prog 79 (.agg #[.int .i64 0, .int .i64 0, .int .i64 0, .int .i64 0]) := ⟨fun w => Tryd.zeroValue79 w⟩
instance : ArT Tryd.prog 79 4 3 1 := ⟨Tryd.underlying79, fun w => Tryd.sizeOf3 w⟩
instance : TyT Tryd.prog 80 1 false := ⟨fun w => Tryd.isAgg80 w, fun w => Tryd.sizeOf80 w⟩
instance : MkI Tryd.prog 80 := ⟨fun v w => by kernel_rfl⟩
instance : ZvT Tryd.prog 80 (.slice none 0 0) := ⟨fun w => Tryd.zeroValue80 w⟩
instance : SlT Tryd.prog 80 3 1 8 (.int .i64 0) := ⟨by kernel_rfl, by kernel_rfl, rfl, by decide, by decide⟩
instance : TyT Tryd.prog 82 1 false := ⟨fun w => Tryd.isAgg82 w, fun w => Tryd.sizeOf82 w⟩
instance : MkI Tryd.prog 82 := ⟨fun v w => by kernel_rfl⟩
instance : IntT Tryd.prog 82 .i64 := ⟨Tryd.underlying82⟩
instance : ZvT Tryd.prog 82 (.int .i64 0) := ⟨fun w => Tryd.zeroValue82 w⟩
instance : TyT Tryd.prog 90 1 false := ⟨fun w => Tryd.isAgg90 w, fun w => Tryd.sizeOf90 w⟩
instance : MkI Tryd.prog 90 := ⟨fun v w => by kernel_rfl⟩
instance : IntT Tryd.prog 90 .u32 := ⟨Tryd.underlying90⟩
instance : ZvT Tryd.prog 90 (.int .u32 0) := ⟨fun w => Tryd.zeroValue90 w⟩
instance : TyT Tryd.prog 92 1 false := ⟨fun w => Tryd.isAgg92 w, fun w => Tryd.sizeOf92 w⟩
instance : MkI Tryd.prog 92 := ⟨fun v w => by kernel_rfl⟩
instance : IntT Tryd.prog 92 .u64 := ⟨Tryd.underlying92⟩
instance : ZvT Tryd.prog 92 (.int .u64 0) := ⟨fun w => Tryd.zeroValue92 w⟩
instance : TyT Tryd.prog 93 1 true := ⟨fun w => Tryd.isAgg93 w, fun w => Tryd.sizeOf93 w⟩
instance : MkI Tryd.prog 93 := ⟨fun v w => by kernel_rfl⟩
instance : ZvT Tryd.prog 93 (.agg #[.pointer none]) := ⟨fun w => Tryd.zeroValue93 w⟩
instance : FdT Tryd.prog 93 0 0 17 := ⟨fun a w => by kernel_rfl, fun cs w => by kernel_rfl⟩
instance : BldT Tryd.prog 93 [(0, 1)] [.pointer none] := ⟨fun parts => by kernel_rfl⟩
instance : TyT Tryd.prog 94 1 true := ⟨fun w => Tryd.isAgg94 w, fun w => Tryd.sizeOf94 w⟩
instance : MkI Tryd.prog 94 := ⟨fun v w => by kernel_rfl⟩
instance : ZvT Tryd.prog 94 (.agg #[.pointer none]) := ⟨fun w => Tryd.zeroValue94 w⟩
instance : FdT Tryd.prog 94 0 0 17 := ⟨fun a w => by kernel_rfl, fun cs w => by kernel_rfl⟩
instance : BldT Tryd.prog 94 [(0, 1)] [.pointer none] := ⟨fun parts => by kernel_rfl⟩
instance : TyT Tryd.prog 95 1 false := ⟨fun w => Tryd.isAgg95 w, fun w => Tryd.sizeOf95 w⟩
instance : MkI Tryd.prog 95 := ⟨fun v w => by kernel_rfl⟩
instance : ZvT Tryd.prog 95 (.pointer none) := ⟨fun w => Tryd.zeroValue95 w⟩
instance : TyT Tryd.prog 99 1 false := ⟨fun w => Tryd.isAgg99 w, fun w => Tryd.sizeOf99 w⟩
instance : IfT Tryd.prog 99 := ⟨⟨_, Tryd.underlying99⟩⟩
instance : ZvT Tryd.prog 99 (.nilIface) := ⟨fun w => Tryd.zeroValue99 w⟩
instance : TyT Tryd.prog 102 1 false := ⟨fun w => Tryd.isAgg102 w, fun w => Tryd.sizeOf102 w⟩
instance : IfT Tryd.prog 102 := ⟨⟨_, Tryd.underlying102⟩⟩
instance : ZvT Tryd.prog 102 (.nilIface) := ⟨fun w => Tryd.zeroValue102 w⟩
instance : TyT Tryd.prog 104 1 false := ⟨fun w => Tryd.isAgg104 w, fun w => Tryd.sizeOf104 w⟩
instance : IfT Tryd.prog 104 := ⟨⟨_, Tryd.underlying104⟩⟩
instance : ZvT Tryd.prog 104 (.nilIface) := ⟨fun w => Tryd.zeroValue104 w⟩
instance : TyT Tryd.prog 105 1 false := ⟨fun w => Tryd.isAgg105 w, fun w => Tryd.sizeOf105 w⟩
instance : MkI Tryd.prog 105 := ⟨fun v w => by kernel_rfl⟩
instance : ZvT Tryd.prog 105 (.slice none 0 0) := ⟨fun w => Tryd.zeroValue105 w⟩
instance : SlT Tryd.prog 105 24 1 16 (.nilIface) := ⟨by kernel_rfl, by kernel_rfl, rfl, by decide, by decide⟩
instance : TyT Tryd.prog 107 1 false := ⟨fun w => Tryd.isAgg107 w, fun w => Tryd.sizeOf107 w⟩
instance : MkI Tryd.prog 107 := ⟨fun v w => by kernel_rfl⟩
instance : IntT Tryd.prog 107 .u64 := ⟨Tryd.underlying107⟩
instance : ZvT Tryd.prog 107 (.int .u64 0) := ⟨fun w => Tryd.zeroValue107 w⟩
instance : TyT Tryd.prog 111 1 false := ⟨fun w => Tryd.isAgg111 w, fun w => Tryd.sizeOf111 w⟩
instance : MkI Tryd.prog 111 := ⟨fun v w => by kernel_rfl⟩
instance : ZvT Tryd.prog 111 (.pointer none) := ⟨fun w => Tryd.zeroValue111 w⟩
instance : TyT Tryd.prog 113 1 false := ⟨fun w => Tryd.isAgg113 w, fun w => Tryd.sizeOf113 w⟩
instance : MkI Tryd.prog 113 := ⟨fun v w => by kernel_rfl⟩
instance : ZvT Tryd.prog 113 (.pointer none) := ⟨fun w => Tryd.zeroValue113 w⟩
instance : TyT Tryd.prog 117 4 true := ⟨fun w => Tryd.isAgg117 w, fun w => Tryd.sizeOf117 w⟩
instance : MkI Tryd.prog 117 := ⟨fun v w => by kernel_rfl⟩
instance : ZvT Tryd.prog 117 (.agg #[.pointer none, .pointer none, .pointer none, .string ⟨#[]⟩]) := ⟨fun w => Tryd.zeroValue117 w⟩
instance : FdT Tryd.prog 117 0 0 17 := ⟨fun a w => by kernel_rfl, fun cs w => by kernel_rfl⟩
instance : FdT Tryd.prog 117 1 1 17 := ⟨fun a w => by kernel_rfl, fun cs w => by kernel_rfl⟩
instance : FdT Tryd.prog 117 2 2 17 := ⟨fun a w => by kernel_rfl, fun cs w => by kernel_rfl⟩
instance : FdT Tryd.prog 117 3 3 9 := ⟨fun a w => by kernel_rfl, fun cs w => by kernel_rfl⟩
instance : BldT Tryd.prog 117 [(0, 1), (1, 1), (2, 1), (3, 1)] [.pointer none, .pointer none, .pointer none, .string ⟨#[]⟩] := ⟨fun parts => by kernel_rfl⟩
instance : TyT Tryd.prog 118 4 true := ⟨fun w => Tryd.isAgg118 w, fun w => Tryd.sizeOf118 w⟩
instance : MkI Tryd.prog 118 := ⟨fun v w => by kernel_rfl⟩
instance : ZvT Tryd.prog 118 (.agg #[.pointer none, .pointer none, .pointer none, .string ⟨#[]⟩]) := ⟨fun w => Tryd.zeroValue118 w⟩
instance : FdT Tryd.prog 118 0 0 17 := ⟨fun a w => by kernel_rfl, fun cs w => by kernel_rfl⟩
instance : FdT Tryd.prog 118 1 1 17 := ⟨fun a w => by kernel_rfl, fun cs w => by kernel_rfl⟩
instance : FdT Tryd.prog 118 2 2 17 := ⟨fun a w => by kernel_rfl, fun cs w => by kernel_rfl⟩
instance : FdT Tryd.prog 118 3 3 9 := ⟨fun a w => by kernel_rfl, fun cs w => by kernel_rfl⟩
instance : BldT Tryd.prog 118 [(0, 1), (1, 1), (2, 1), (3, 1)] [.pointer none, .pointer none, .pointer none, .string ⟨#[]⟩] := ⟨fun parts => by kernel_rfl⟩
instance : TyT Tryd.prog 119 0 true := ⟨fun w => Tryd.isAgg119 w, fun w => Tryd.sizeOf119 w⟩
instance : MkI Tryd.prog 119 := ⟨fun v w => by kernel_rfl⟩
instance : ZvT Tryd.prog 119 (.agg #[]) := ⟨fun w => Tryd.zeroValue119 w⟩
instance : ArT Tryd.prog 119 0 16 1 := ⟨Tryd.underlying119, fun w => Tryd.sizeOf16 w⟩
instance : TyT Tryd.prog 120 0 true := ⟨fun w => Tryd.isAgg120 w, fun w => Tryd.sizeOf120 w⟩
instance : MkI Tryd.prog 120 := ⟨fun v w => by kernel_rfl⟩
instance : ZvT Tryd.prog 120 (.agg #[]) := ⟨fun w => Tryd.zeroValue120 w⟩
instance : BldT Tryd.prog 120 [(0, 0)] [] := ⟨fun parts => by kernel_rfl⟩
instance : TyT Tryd.prog 121 0 true := ⟨fun w => Tryd.isAgg121 w, fun w => Tryd.sizeOf121 w⟩
instance : MkI Tryd.prog 121 := ⟨fun v w => by kernel_rfl⟩
instance : ZvT Tryd.prog 121 (.agg #[]) := ⟨fun w => Tryd.zeroValue121 w⟩
instance : BldT Tryd.prog 121 [(0, 0)] [] := ⟨fun parts => by kernel_rfl⟩
instance : TyT Tryd.prog 123 1 false := ⟨fun w => Tryd.isAgg123 w, fun w => Tryd.sizeOf123 w⟩
instance : MkI Tryd.prog 123 := ⟨fun v w => by kernel_rfl⟩
instance : IntT Tryd.prog 123 .u8 := ⟨Tryd.underlying123⟩
instance : ZvT Tryd.prog 123 (.int .u8 0) := ⟨fun w => Tryd.zeroValue123 w⟩
instance : TyT Tryd.prog 125 1 false := ⟨fun w => Tryd.isAgg125 w, fun w => Tryd.sizeOf125 w⟩
instance : MkI Tryd.prog 125 := ⟨fun v w => by kernel_rfl⟩
instance : ZvT Tryd.prog 125 (.pointer none) := ⟨fun w => Tryd.zeroValue125 w⟩
instance : TyT Tryd.prog 126 1 false := ⟨fun w => Tryd.isAgg126 w, fun w => Tryd.sizeOf126 w⟩
instance : MkI Tryd.prog 126 := ⟨fun v w => by kernel_rfl⟩
instance : IntT Tryd.prog 126 .i32 := ⟨Tryd.underlying126⟩
instance : ZvT Tryd.prog 126 (.int .i32 0) := ⟨fun w => Tryd.zeroValue126 w⟩
instance : TyT Tryd.prog 127 1 false := ⟨fun w => Tryd.isAgg127 w, fun w => Tryd.sizeOf127 w⟩
instance : MkI Tryd.prog 127 := ⟨fun v w => by kernel_rfl⟩
instance : IntT Tryd.prog 127 .i32 := ⟨Tryd.underlying127⟩
instance : ZvT Tryd.prog 127 (.int .i32 0) := ⟨fun w => Tryd.zeroValue127 w⟩
instance : TyT Tryd.prog 128 11 true := ⟨fun w => Tryd.isAgg128 w, fun w => Tryd.sizeOf128 w⟩
instance : MkI Tryd.prog 128 := ⟨fun v w => by kernel_rfl⟩
instance : ZvT Tryd.prog 128 (.agg #[.int .u64 0, .int .u64 0, .int .u32 0, .int .u8 0, .int .u8 0, .int .u8 0, .int .u8 0, .nilFunc, .pointer none, .int .i32 0, .int .i32 0]) := ⟨fun w => Tryd.zeroValue128 w⟩
instance : FdT Tryd.prog 128 0 0 12 := ⟨fun a w => by kernel_rfl, fun cs w => by kernel_rfl⟩
instance : FdT Tryd.prog 128 1 1 12 := ⟨fun a w => by kernel_rfl, fun cs w => by kernel_rfl⟩
instance : FdT Tryd.prog 128 2 2 90 := ⟨fun a w => by kernel_rfl, fun cs w => by kernel_rfl⟩
instance : FdT Tryd.prog 128 3 3 123 := ⟨fun a w => by kernel_rfl, fun cs w => by kernel_rfl⟩
instance : FdT Tryd.prog 128 4 4 5 := ⟨fun a w => by kernel_rfl, fun cs w => by kernel_rfl⟩
instance : FdT Tryd.prog 128 5 5 5 := ⟨fun a w => by kernel_rfl, fun cs w => by kernel_rfl⟩
instance : FdT Tryd.prog 128 6 6 74 := ⟨fun a w => by kernel_rfl, fun cs w => by kernel_rfl⟩
instance : FdT Tryd.prog 128 8 8 125 := ⟨fun a w => by kernel_rfl, fun cs w => by kernel_rfl⟩
instance : FdT Tryd.prog 128 9 9 126 := ⟨fun a w => by kernel_rfl, fun cs w => by kernel_rfl⟩
instance : FdT Tryd.prog 128 10 10 127 := ⟨fun a w => by kernel_rfl, fun cs w => by kernel_rfl⟩
instance : TyT Tryd.prog 129 11 true := ⟨fun w => Tryd.isAgg129 w, fun w => Tryd.sizeOf129 w⟩
instance : MkI Tryd.prog 129 := ⟨fun v w => by kernel_rfl⟩
instance : ZvT Tryd.prog 129 (.agg #[.int .u64 0, .int .u64 0, .int .u32 0, .int .u8 0, .int .u8 0, .int .u8 0, .int .u8 0, .nilFunc, .pointer none, .int .i32 0, .int .i32 0]) := ⟨fun w => Tryd.zeroValue129 w⟩
instance : FdT Tryd.prog 129 0 0 12 := ⟨fun a w => by kernel_rfl, fun cs w => by kernel_rfl⟩
instance : FdT Tryd.prog 129 1 1 12 := ⟨fun a w => by kernel_rfl, fun cs w => by kernel_rfl⟩
instance : FdT Tryd.prog 129 2 2 90 := ⟨fun a w => by kernel_rfl, fun cs w => by kernel_rfl⟩
instance : FdT Tryd.prog 129 3 3 123 := ⟨fun a w => by kernel_rfl, fun cs w => by kernel_rfl⟩
instance : FdT Tryd.prog 129 4 4 5 := ⟨fun a w => by kernel_rfl, fun cs w => by kernel_rfl⟩
instance : FdT Tryd.prog 129 5 5 5 := ⟨fun a w => by kernel_rfl, fun cs w => by kernel_rfl⟩
instance : FdT Tryd.prog 129 6 6 74 := ⟨fun a w => by kernel_rfl, fun cs w => by kernel_rfl⟩
instance : FdT Tryd.prog 129 8 8 125 := ⟨fun a w => by kernel_rfl, fun cs w => by kernel_rfl⟩
instance : FdT Tryd.prog 129 9 9 126 := ⟨fun a w => by kernel_rfl, fun cs w => by kernel_rfl⟩
instance : FdT Tryd.prog 129 10 10 127 := ⟨fun a w => by kernel_rfl, fun cs w => by kernel_rfl⟩
instance : TyT Tryd.prog 132 2 true := ⟨fun w => Tryd.isAgg132 w, fun w => Tryd.sizeOf132 w⟩
instance : MkI Tryd.prog 132 := ⟨fun v w => by kernel_rfl⟩
instance : ZvT Tryd.prog 132 (.agg #[.string ⟨#[]⟩, .int .u8 0]) := ⟨fun w => Tryd.zeroValue132 w⟩
instance : FdT Tryd.prog 132 0 0 9 := ⟨fun a w => by kernel_rfl, fun cs w => by kernel_rfl⟩
instance : FdT Tryd.prog 132 1 1 74 := ⟨fun a w => by kernel_rfl, fun cs w => by kernel_rfl⟩
instance : BldT Tryd.prog 132 [(0, 1), (1, 1)] [.string ⟨#[]⟩, .int .u8 0] := ⟨fun parts => by kernel_rfl⟩
instance : TyT Tryd.prog 133 2 true := ⟨fun w => Tryd.isAgg133 w, fun w => Tryd.sizeOf133 w⟩
instance : MkI Tryd.prog 133 := ⟨fun v w => by kernel_rfl⟩
instance : ZvT Tryd.prog 133 (.agg #[.string ⟨#[]⟩, .int .u8 0]) := ⟨fun w => Tryd.zeroValue133 w⟩
instance : FdT Tryd.prog 133 0 0 9 := ⟨fun a w => by kernel_rfl, fun cs w => by kernel_rfl⟩
instance : FdT Tryd.prog 133 1 1 74 := ⟨fun a w => by kernel_rfl, fun cs w => by kernel_rfl⟩
instance : BldT Tryd.prog 133 [(0, 1), (1, 1)] [.string ⟨#[]⟩, .int .u8 0] := ⟨fun parts => by kernel_rfl⟩
instance : TyT Tryd.prog 134 1 false := ⟨fun w => Tryd.isAgg134 w, fun w => Tryd.sizeOf134 w⟩
instance : MkI Tryd.prog 134 := ⟨fun v w => by kernel_rfl⟩
instance : ZvT Tryd.prog 134 (.pointer none) := ⟨fun w => Tryd.zeroValue134 w⟩
instance : TyT Tryd.prog 136 1 false := ⟨fun w => Tryd.isAgg136 w, fun w => Tryd.sizeOf136 w⟩
instance : MkI Tryd.prog 136 := ⟨fun v w => by kernel_rfl⟩
instance : IntT Tryd.prog 136 .u16 := ⟨Tryd.underlying136⟩
instance : ZvT Tryd.prog 136 (.int .u16 0) := ⟨fun w => Tryd.zeroValue136 w⟩
instance : TyT Tryd.prog 137 5 true := ⟨fun w => Tryd.isAgg137 w, fun w => Tryd.sizeOf137 w⟩
instance : MkI Tryd.prog 137 := ⟨fun v w => by kernel_rfl⟩
instance : ZvT Tryd.prog 137 (.agg #[.int .i32 0, .int .u16 0, .int .u16 0, .int .u32 0, .int .u32 0]) := ⟨fun w => Tryd.zeroValue137 w⟩
instance : FdT Tryd.prog 137 0 0 126 := ⟨fun a w => by kernel_rfl, fun cs w => by kernel_rfl⟩
instance : FdT Tryd.prog 137 1 1 136 := ⟨fun a w => by kernel_rfl, fun cs w => by kernel_rfl⟩
instance : FdT Tryd.prog 137 2 2 136 := ⟨fun a w => by kernel_rfl, fun cs w => by kernel_rfl⟩
instance : FdT Tryd.prog 137 3 3 90 := ⟨fun a w => by kernel_rfl, fun cs w => by kernel_rfl⟩
instance : FdT Tryd.prog 137 4 4 90 := ⟨fun a w => by kernel_rfl, fun cs w => by kernel_rfl⟩
instance : BldT Tryd.prog 137 [(0, 1), (1, 1), (2, 1), (3, 1), (4, 1)] [.int .i32 0, .int .u16 0, .int .u16 0, .int .u32 0, .int .u32 0] := ⟨fun parts => by kernel_rfl⟩
instance : TyT Tryd.prog 138 5 true := ⟨fun w => Tryd.isAgg138 w, fun w => Tryd.sizeOf138 w⟩
instance : MkI Tryd.prog 138 := ⟨fun v w => by kernel_rfl⟩
instance : ZvT Tryd.prog 138 (.agg #[.int .i32 0, .int .u16 0, .int .u16 0, .int .u32 0, .int .u32 0]) := ⟨fun w => Tryd.zeroValue138 w⟩
instance : FdT Tryd.prog 138 0 0 126 := ⟨fun a w => by kernel_rfl, fun cs w => by kernel_rfl⟩
instance : FdT Tryd.prog 138 1 1 136 := ⟨fun a w => by kernel_rfl, fun cs w => by kernel_rfl⟩
instance : FdT Tryd.prog 138 2 2 136 := ⟨fun a w => by kernel_rfl, fun cs w => by kernel_rfl⟩
instance : FdT Tryd.prog 138 3 3 90 := ⟨fun a w => by kernel_rfl, fun cs w => by kernel_rfl⟩
instance : FdT Tryd.prog 138 4 4 90 := ⟨fun a w => by kernel_rfl, fun cs w => by kernel_rfl⟩
instance : BldT Tryd.prog 138 [(0, 1), (1, 1), (2, 1), (3, 1), (4, 1)] [.int .i32 0, .int .u16 0, .int .u16 0, .int .u32 0, .int .u32 0] := ⟨fun parts => by kernel_rfl⟩
instance : TyT Tryd.prog 139 1 false := ⟨fun w => Tryd.isAgg139 w, fun w => Tryd.sizeOf139 w⟩
instance : MkI Tryd.prog 139 := ⟨fun v w => by kernel_rfl⟩
instance : ZvT Tryd.prog 139 (.slice none 0 0) := ⟨fun w => Tryd.zeroValue139 w⟩
instance : SlT Tryd.prog 139 142 4 16 (.agg #[.int .i32 0, .int .i32 0, .int .i32 0, .int .i32 0]) := ⟨by kernel_rfl, by kernel_rfl, rfl, by decide, by decide⟩
instance : TyT Tryd.prog 140 1 false := ⟨fun w => Tryd.isAgg140 w, fun w => Tryd.sizeOf140 w⟩
instance : MkI Tryd.prog 140 := ⟨fun v w => by kernel_rfl⟩
instance : IntT Tryd.prog 140 .i32 := ⟨Tryd.underlying140⟩
instance : ZvT Tryd.prog 140 (.int .i32 0) := ⟨fun w => Tryd.zeroValue140 w⟩
instance : TyT Tryd.prog 141 4 true := ⟨fun w => Tryd.isAgg141 w, fun w => Tryd.sizeOf141 w⟩
instance : MkI Tryd.prog 141 := ⟨fun v w => by kernel_rfl⟩
instance : ZvT Tryd.prog 141 (.agg #[.int .i32 0, .int .i32 0, .int .i32 0, .int .i32 0]) := ⟨fun w => Tryd.zeroValue141 w⟩
instance : FdT Tryd.prog 141 0 0 126 := ⟨fun a w => by kernel_rfl, fun cs w => by kernel_rfl⟩
instance : FdT Tryd.prog 141 1 1 127 := ⟨fun a w => by kernel_rfl, fun cs w => by kernel_rfl⟩
instance : FdT Tryd.prog 141 2 2 140 := ⟨fun a w => by kernel_rfl, fun cs w => by kernel_rfl⟩
instance : FdT Tryd.prog 141 3 3 140 := ⟨fun a w => by kernel_rfl, fun cs w => by kernel_rfl⟩
instance : BldT Tryd.prog 141 [(0, 1), (1, 1), (2, 1), (3, 1)] [.int .i32 0, .int .i32 0, .int .i32 0, .int .i32 0] := ⟨fun parts => by kernel_rfl⟩
instance : TyT Tryd.prog 142 4 true := ⟨fun w => Tryd.isAgg142 w, fun w => Tryd.sizeOf142 w⟩
instance : MkI Tryd.prog 142 := ⟨fun v w => by kernel_rfl⟩
instance : ZvT Tryd.prog 142 (.agg #[.int .i32 0, .int .i32 0, .int .i32 0, .int .i32 0]) := ⟨fun w => Tryd.zeroValue142 w⟩
instance : FdT Tryd.prog 142 0 0 126 := ⟨fun a w => by kernel_rfl, fun cs w => by kernel_rfl⟩
instance : FdT Tryd.prog 142 1 1 127 := ⟨fun a w => by kernel_rfl, fun cs w => by kernel_rfl⟩
instance : FdT Tryd.prog 142 2 2 140 := ⟨fun a w => by kernel_rfl, fun cs w => by kernel_rfl⟩
instance : FdT Tryd.prog 142 3 3 140 := ⟨fun a w => by kernel_rfl, fun cs w => by kernel_rfl⟩
instance : BldT Tryd.prog 142 [(0, 1), (1, 1), (2, 1), (3, 1)] [.int .i32 0, .int .i32 0, .int .i32 0, .int .i32 0] := ⟨fun parts => by kernel_rfl⟩
instance : TyT Tryd.prog 143 1 false := ⟨fun w => Tryd.isAgg143 w, fun w => Tryd.sizeOf143 w⟩
instance : MkI Tryd.prog 143 := ⟨fun v w => by kernel_rfl⟩
instance : ZvT Tryd.prog 143 (.pointer none) := ⟨fun w => Tryd.zeroValue143 w⟩
/- Functions with a body. -/
instance : CalT Tryd.prog 2 := ⟨fun args w => Tryd.call2 args w⟩
instance : CalT Tryd.prog 3 := ⟨fun args w => Tryd.call3 args w⟩
instance : CalT Tryd.prog 4 := ⟨fun args w => Tryd.call4 args w⟩
instance : CalT Tryd.prog 5 := ⟨fun args w => Tryd.call5 args w⟩
instance : CalT Tryd.prog 6 := ⟨fun args w => Tryd.call6 args w⟩
instance : CalT Tryd.prog 7 := ⟨fun args w => Tryd.call7 args w⟩
instance : CalT Tryd.prog 8 := ⟨fun args w => Tryd.call8 args w⟩
instance : CalT Tryd.prog 9 := ⟨fun args w => Tryd.call9 args w⟩
instance : CalT Tryd.prog 10 := ⟨fun args w => Tryd.call10 args w⟩
instance : CalT Tryd.prog 11 := ⟨fun args w => Tryd.call11 args w⟩
instance : CalT Tryd.prog 12 := ⟨fun args w => Tryd.call12 args w⟩
instance : CalT Tryd.prog 13 := ⟨fun args w => Tryd.call13 args w⟩
instance : CalT Tryd.prog 14 := ⟨fun args w => Tryd.call14 args w⟩
instance : CalT Tryd.prog 15 := ⟨fun args w => Tryd.call15 args w⟩
instance : CalT Tryd.prog 16 := ⟨fun args w => Tryd.call16 args w⟩
instance : CalT Tryd.prog 17 := ⟨fun args w => Tryd.call17 args w⟩
instance : CalT Tryd.prog 18 := ⟨fun args w => Tryd.call18 args w⟩
instance : CalT Tryd.prog 19 := ⟨fun args w => Tryd.call19 args w⟩
instance : CalT Tryd.prog 20 := ⟨fun args w => Tryd.call20 args w⟩
instance : CalT Tryd.prog 21 := ⟨fun args w => Tryd.call21 args w⟩
instance : CalT Tryd.prog 22 := ⟨fun args w => Tryd.call22 args w⟩
instance : CalT Tryd.prog 23 := ⟨fun args w => Tryd.call23 args w⟩
instance : CalT Tryd.prog 24 := ⟨fun args w => Tryd.call24 args w⟩
instance : CalT Tryd.prog 25 := ⟨fun args w => Tryd.call25 args w⟩
instance : CalT Tryd.prog 26 := ⟨fun args w => Tryd.call26 args w⟩
instance : CalT Tryd.prog 27 := ⟨fun args w => Tryd.call27 args w⟩
instance : CalT Tryd.prog 28 := ⟨fun args w => Tryd.call28 args w⟩
instance : CalT Tryd.prog 29 := ⟨fun args w => Tryd.call29 args w⟩
instance : CalT Tryd.prog 30 := ⟨fun args w => Tryd.call30 args w⟩
instance : CalT Tryd.prog 31 := ⟨fun args w => Tryd.call31 args w⟩
instance : CalT Tryd.prog 35 := ⟨fun args w => Tryd.call35 args w⟩
instance : CalT Tryd.prog 36 := ⟨fun args w => Tryd.call36 args w⟩
instance : CalT Tryd.prog 37 := ⟨fun args w => Tryd.call37 args w⟩
instance : CalT Tryd.prog 38 := ⟨fun args w => Tryd.call38 args w⟩
instance : CalT Tryd.prog 39 := ⟨fun args w => Tryd.call39 args w⟩
instance : CalT Tryd.prog 40 := ⟨fun args w => Tryd.call40 args w⟩
instance : CalT Tryd.prog 41 := ⟨fun args w => Tryd.call41 args w⟩
instance : CalT Tryd.prog 42 := ⟨fun args w => Tryd.call42 args w⟩
instance : CalT Tryd.prog 43 := ⟨fun args w => Tryd.call43 args w⟩
instance : CalT Tryd.prog 44 := ⟨fun args w => Tryd.call44 args w⟩
instance : CalT Tryd.prog 45 := ⟨fun args w => Tryd.call45 args w⟩
instance : CalT Tryd.prog 46 := ⟨fun args w => Tryd.call46 args w⟩
instance : CalT Tryd.prog 50 := ⟨fun args w => Tryd.call50 args w⟩
instance : CalT Tryd.prog 51 := ⟨fun args w => Tryd.call51 args w⟩
instance : CalT Tryd.prog 52 := ⟨fun args w => Tryd.call52 args w⟩
instance : CalT Tryd.prog 53 := ⟨fun args w => Tryd.call53 args w⟩
instance : CalT Tryd.prog 54 := ⟨fun args w => Tryd.call54 args w⟩
instance : CalT Tryd.prog 55 := ⟨fun args w => Tryd.call55 args w⟩
instance : CalT Tryd.prog 92 := ⟨fun args w => Tryd.call92 args w⟩
end Go.Proofs.YtcnnldlpcpcemaaDoor
