/- The seat's types and functions, as instances. Printed by wip/tools/types.py. -/
import Derived.Test.YtmocpeekdfkegaaDoorSxMore
import Derived.Test.YtmocpeekdfkegaaDoorProg
import Derived.KernelRfl
namespace Go.Proofs.YtmocpeekdfkegaaDoor
open Go.Port
instance : TyT Tryd.prog 2 1 false := ⟨fun w => Tryd.isAgg2 w, fun w => Tryd.sizeOf2 w⟩
instance : MkI Tryd.prog 2 := ⟨fun v w => by kernel_rfl⟩
instance : IntT Tryd.prog 2 .i64 := ⟨Tryd.underlying2⟩
instance : ZvT Tryd.prog 2 (.int .i64 0) := ⟨fun w => Tryd.zeroValue2 w⟩
instance : TyT Tryd.prog 3 1 false := ⟨fun w => Tryd.isAgg3 w, fun w => Tryd.sizeOf3 w⟩
instance : MkI Tryd.prog 3 := ⟨fun v w => by kernel_rfl⟩
instance : IntT Tryd.prog 3 .i64 := ⟨Tryd.underlying3⟩
instance : ZvT Tryd.prog 3 (.int .i64 0) := ⟨fun w => Tryd.zeroValue3 w⟩
instance : TyT Tryd.prog 4 1 false := ⟨fun w => Tryd.isAgg4 w, fun w => Tryd.sizeOf4 w⟩
instance : MkI Tryd.prog 4 := ⟨fun v w => by kernel_rfl⟩
instance : ZvT Tryd.prog 4 (.bool false) := ⟨fun w => Tryd.zeroValue4 w⟩
instance : TyT Tryd.prog 5 1 false := ⟨fun w => Tryd.isAgg5 w, fun w => Tryd.sizeOf5 w⟩
instance : MkI Tryd.prog 5 := ⟨fun v w => by kernel_rfl⟩
instance : IntT Tryd.prog 5 .u8 := ⟨Tryd.underlying5⟩
instance : ZvT Tryd.prog 5 (.int .u8 0) := ⟨fun w => Tryd.zeroValue5 w⟩
instance : TyT Tryd.prog 6 1 false := ⟨fun w => Tryd.isAgg6 w, fun w => Tryd.sizeOf6 w⟩
instance : MkI Tryd.prog 6 := ⟨fun v w => by kernel_rfl⟩
instance : IntT Tryd.prog 6 .u8 := ⟨Tryd.underlying6⟩
instance : ZvT Tryd.prog 6 (.int .u8 0) := ⟨fun w => Tryd.zeroValue6 w⟩
instance : TyT Tryd.prog 7 4 true := ⟨fun w => Tryd.isAgg7 w, fun w => Tryd.sizeOf7 w⟩
instance : MkI Tryd.prog 7 := ⟨fun v w => by kernel_rfl⟩
instance : ZvT Tryd.prog 7 (.agg #[.int .i64 0, .int .i64 0, .bool false, .int .u8 0]) := ⟨fun w => Tryd.zeroValue7 w⟩
instance : FdT Tryd.prog 7 0 0 2 := ⟨fun a w => by kernel_rfl, fun cs w => by kernel_rfl⟩
instance : FdT Tryd.prog 7 1 1 3 := ⟨fun a w => by kernel_rfl, fun cs w => by kernel_rfl⟩
instance : FdT Tryd.prog 7 2 2 4 := ⟨fun a w => by kernel_rfl, fun cs w => by kernel_rfl⟩
instance : FdT Tryd.prog 7 3 3 6 := ⟨fun a w => by kernel_rfl, fun cs w => by kernel_rfl⟩
instance : BldT Tryd.prog 7 [(0, 1), (1, 1), (2, 1), (3, 1)] [.int .i64 0, .int .i64 0, .bool false, .int .u8 0] := ⟨fun parts => by kernel_rfl⟩
instance : TyT Tryd.prog 8 4 true := ⟨fun w => Tryd.isAgg8 w, fun w => Tryd.sizeOf8 w⟩
instance : MkI Tryd.prog 8 := ⟨fun v w => by kernel_rfl⟩
instance : ZvT Tryd.prog 8 (.agg #[.int .i64 0, .int .i64 0, .bool false, .int .u8 0]) := ⟨fun w => Tryd.zeroValue8 w⟩
instance : FdT Tryd.prog 8 0 0 2 := ⟨fun a w => by kernel_rfl, fun cs w => by kernel_rfl⟩
instance : FdT Tryd.prog 8 1 1 3 := ⟨fun a w => by kernel_rfl, fun cs w => by kernel_rfl⟩
instance : FdT Tryd.prog 8 2 2 4 := ⟨fun a w => by kernel_rfl, fun cs w => by kernel_rfl⟩
instance : FdT Tryd.prog 8 3 3 6 := ⟨fun a w => by kernel_rfl, fun cs w => by kernel_rfl⟩
instance : BldT Tryd.prog 8 [(0, 1), (1, 1), (2, 1), (3, 1)] [.int .i64 0, .int .i64 0, .bool false, .int .u8 0] := ⟨fun parts => by kernel_rfl⟩
instance : TyT Tryd.prog 9 1 false := ⟨fun w => Tryd.isAgg9 w, fun w => Tryd.sizeOf9 w⟩
instance : MkI Tryd.prog 9 := ⟨fun v w => by kernel_rfl⟩
instance : StrT Tryd.prog 9 := ⟨Tryd.underlying9⟩
instance : ZvT Tryd.prog 9 (.string ⟨#[]⟩) := ⟨fun w => Tryd.zeroValue9 w⟩
instance : TyT Tryd.prog 10 1 false := ⟨fun w => Tryd.isAgg10 w, fun w => Tryd.sizeOf10 w⟩
instance : MkI Tryd.prog 10 := ⟨fun v w => by kernel_rfl⟩
instance : StrT Tryd.prog 10 := ⟨Tryd.underlying10⟩
instance : ZvT Tryd.prog 10 (.string ⟨#[]⟩) := ⟨fun w => Tryd.zeroValue10 w⟩
instance : TyT Tryd.prog 11 1 false := ⟨fun w => Tryd.isAgg11 w, fun w => Tryd.sizeOf11 w⟩
instance : MkI Tryd.prog 11 := ⟨fun v w => by kernel_rfl⟩
instance : StrT Tryd.prog 11 := ⟨Tryd.underlying11⟩
instance : ZvT Tryd.prog 11 (.string ⟨#[]⟩) := ⟨fun w => Tryd.zeroValue11 w⟩
instance : TyT Tryd.prog 12 1 false := ⟨fun w => Tryd.isAgg12 w, fun w => Tryd.sizeOf12 w⟩
instance : MkI Tryd.prog 12 := ⟨fun v w => by kernel_rfl⟩
instance : IntT Tryd.prog 12 .u64 := ⟨Tryd.underlying12⟩
instance : ZvT Tryd.prog 12 (.int .u64 0) := ⟨fun w => Tryd.zeroValue12 w⟩
instance : TyT Tryd.prog 13 2 true := ⟨fun w => Tryd.isAgg13 w, fun w => Tryd.sizeOf13 w⟩
instance : MkI Tryd.prog 13 := ⟨fun v w => by kernel_rfl⟩
instance : ZvT Tryd.prog 13 (.agg #[.string ⟨#[]⟩, .int .u64 0]) := ⟨fun w => Tryd.zeroValue13 w⟩
instance : FdT Tryd.prog 13 0 0 9 := ⟨fun a w => by kernel_rfl, fun cs w => by kernel_rfl⟩
instance : FdT Tryd.prog 13 1 1 12 := ⟨fun a w => by kernel_rfl, fun cs w => by kernel_rfl⟩
instance : BldT Tryd.prog 13 [(0, 1), (1, 1)] [.string ⟨#[]⟩, .int .u64 0] := ⟨fun parts => by kernel_rfl⟩
instance : TyT Tryd.prog 14 2 true := ⟨fun w => Tryd.isAgg14 w, fun w => Tryd.sizeOf14 w⟩
instance : MkI Tryd.prog 14 := ⟨fun v w => by kernel_rfl⟩
instance : ZvT Tryd.prog 14 (.agg #[.string ⟨#[]⟩, .int .u64 0]) := ⟨fun w => Tryd.zeroValue14 w⟩
instance : FdT Tryd.prog 14 0 0 9 := ⟨fun a w => by kernel_rfl, fun cs w => by kernel_rfl⟩
instance : FdT Tryd.prog 14 1 1 12 := ⟨fun a w => by kernel_rfl, fun cs w => by kernel_rfl⟩
instance : BldT Tryd.prog 14 [(0, 1), (1, 1)] [.string ⟨#[]⟩, .int .u64 0] := ⟨fun parts => by kernel_rfl⟩
instance : TyT Tryd.prog 15 1 false := ⟨fun w => Tryd.isAgg15 w, fun w => Tryd.sizeOf15 w⟩
instance : MkI Tryd.prog 15 := ⟨fun v w => by kernel_rfl⟩
instance : ZvT Tryd.prog 15 (.pointer none) := ⟨fun w => Tryd.zeroValue15 w⟩
instance : TyT Tryd.prog 16 1 false := ⟨fun w => Tryd.isAgg16 w, fun w => Tryd.sizeOf16 w⟩
instance : MkI Tryd.prog 16 := ⟨fun v w => by kernel_rfl⟩
instance : ZvT Tryd.prog 16 (.pointer none) := ⟨fun w => Tryd.zeroValue16 w⟩
instance : TyT Tryd.prog 17 1 false := ⟨fun w => Tryd.isAgg17 w, fun w => Tryd.sizeOf17 w⟩
instance : MkI Tryd.prog 17 := ⟨fun v w => by kernel_rfl⟩
instance : ZvT Tryd.prog 17 (.pointer none) := ⟨fun w => Tryd.zeroValue17 w⟩
instance : TyT Tryd.prog 18 1 true := ⟨fun w => Tryd.isAgg18 w, fun w => Tryd.sizeOf18 w⟩
instance : MkI Tryd.prog 18 := ⟨fun v w => by kernel_rfl⟩
instance : ZvT Tryd.prog 18 (.agg #[.pointer none]) := ⟨fun w => Tryd.zeroValue18 w⟩
instance : FdT Tryd.prog 18 0 0 17 := ⟨fun a w => by kernel_rfl, fun cs w => by kernel_rfl⟩
instance : BldT Tryd.prog 18 [(0, 1)] [.pointer none] := ⟨fun parts => by kernel_rfl⟩
instance : TyT Tryd.prog 19 1 true := ⟨fun w => Tryd.isAgg19 w, fun w => Tryd.sizeOf19 w⟩
instance : MkI Tryd.prog 19 := ⟨fun v w => by kernel_rfl⟩
instance : ZvT Tryd.prog 19 (.agg #[.pointer none]) := ⟨fun w => Tryd.zeroValue19 w⟩
instance : FdT Tryd.prog 19 0 0 17 := ⟨fun a w => by kernel_rfl, fun cs w => by kernel_rfl⟩
instance : BldT Tryd.prog 19 [(0, 1)] [.pointer none] := ⟨fun parts => by kernel_rfl⟩
instance : TyT Tryd.prog 20 1 false := ⟨fun w => Tryd.isAgg20 w, fun w => Tryd.sizeOf20 w⟩
instance : IfT Tryd.prog 20 := ⟨⟨_, Tryd.underlying20⟩⟩
instance : ZvT Tryd.prog 20 (.nilIface) := ⟨fun w => Tryd.zeroValue20 w⟩
instance : TyT Tryd.prog 21 1 false := ⟨fun w => Tryd.isAgg21 w, fun w => Tryd.sizeOf21 w⟩
instance : MkI Tryd.prog 21 := ⟨fun v w => by kernel_rfl⟩
instance : IntT Tryd.prog 21 .i32 := ⟨Tryd.underlying21⟩
instance : ZvT Tryd.prog 21 (.int .i32 0) := ⟨fun w => Tryd.zeroValue21 w⟩
instance : TyT Tryd.prog 22 5 true := ⟨fun w => Tryd.isAgg22 w, fun w => Tryd.sizeOf22 w⟩
instance : MkI Tryd.prog 22 := ⟨fun v w => by kernel_rfl⟩
instance : ZvT Tryd.prog 22 (.agg #[.int .i64 0, .int .i64 0, .int .i64 0, .int .i64 0, .int .i64 0]) := ⟨fun w => Tryd.zeroValue22 w⟩
instance : FdT Tryd.prog 22 0 0 3 := ⟨fun a w => by kernel_rfl, fun cs w => by kernel_rfl⟩
instance : FdT Tryd.prog 22 1 1 3 := ⟨fun a w => by kernel_rfl, fun cs w => by kernel_rfl⟩
instance : FdT Tryd.prog 22 2 2 3 := ⟨fun a w => by kernel_rfl, fun cs w => by kernel_rfl⟩
instance : FdT Tryd.prog 22 3 3 3 := ⟨fun a w => by kernel_rfl, fun cs w => by kernel_rfl⟩
instance : FdT Tryd.prog 22 4 4 3 := ⟨fun a w => by kernel_rfl, fun cs w => by kernel_rfl⟩
instance : BldT Tryd.prog 22 [(0, 1), (1, 1), (2, 1), (3, 1), (4, 1)] [.int .i64 0, .int .i64 0, .int .i64 0, .int .i64 0, .int .i64 0] := ⟨fun parts => by kernel_rfl⟩
instance : TyT Tryd.prog 23 5 true := ⟨fun w => Tryd.isAgg23 w, fun w => Tryd.sizeOf23 w⟩
instance : MkI Tryd.prog 23 := ⟨fun v w => by kernel_rfl⟩
instance : ZvT Tryd.prog 23 (.agg #[.int .i64 0, .int .i64 0, .int .i64 0, .int .i64 0, .int .i64 0]) := ⟨fun w => Tryd.zeroValue23 w⟩
instance : FdT Tryd.prog 23 0 0 3 := ⟨fun a w => by kernel_rfl, fun cs w => by kernel_rfl⟩
instance : FdT Tryd.prog 23 1 1 3 := ⟨fun a w => by kernel_rfl, fun cs w => by kernel_rfl⟩
instance : FdT Tryd.prog 23 2 2 3 := ⟨fun a w => by kernel_rfl, fun cs w => by kernel_rfl⟩
instance : FdT Tryd.prog 23 3 3 3 := ⟨fun a w => by kernel_rfl, fun cs w => by kernel_rfl⟩
instance : FdT Tryd.prog 23 4 4 3 := ⟨fun a w => by kernel_rfl, fun cs w => by kernel_rfl⟩
instance : BldT Tryd.prog 23 [(0, 1), (1, 1), (2, 1), (3, 1), (4, 1)] [.int .i64 0, .int .i64 0, .int .i64 0, .int .i64 0, .int .i64 0] := ⟨fun parts => by kernel_rfl⟩
instance : TyT Tryd.prog 24 2 true := ⟨fun w => Tryd.isAgg24 w, fun w => Tryd.sizeOf24 w⟩
instance : MkI Tryd.prog 24 := ⟨fun v w => by kernel_rfl⟩
instance : ZvT Tryd.prog 24 (.agg #[.int .i64 0, .int .i64 0]) := ⟨fun w => Tryd.zeroValue24 w⟩
instance : ArT Tryd.prog 24 2 3 1 := ⟨Tryd.underlying24, fun w => Tryd.sizeOf3 w⟩
instance : TyT Tryd.prog 25 2 true := ⟨fun w => Tryd.isAgg25 w, fun w => Tryd.sizeOf25 w⟩
instance : MkI Tryd.prog 25 := ⟨fun v w => by kernel_rfl⟩
instance : ZvT Tryd.prog 25 (.agg #[.bool false, .bool false]) := ⟨fun w => Tryd.zeroValue25 w⟩
instance : ArT Tryd.prog 25 2 4 1 := ⟨Tryd.underlying25, fun w => Tryd.sizeOf4 w⟩
instance : TyT Tryd.prog 26 15 true := ⟨fun w => Tryd.isAgg26 w, fun w => Tryd.sizeOf26 w⟩
instance : MkI Tryd.prog 26 := ⟨fun v w => by kernel_rfl⟩
instance : ZvT Tryd.prog 26 (.agg #[.int .i64 0, .int .i64 0, .int .i64 0, .int .i64 0, .int .i64 0, .int .i64 0, .int .i64 0, .int .i64 0, .int .i64 0, .int .i64 0, .int .i64 0, .int .i64 0, .bool false, .bool false, .int .i64 0]) := ⟨fun w => Tryd.zeroValue26 w⟩
instance : FdT Tryd.prog 26 0 0 23 := ⟨fun a w => by kernel_rfl, fun cs w => by kernel_rfl⟩
instance : FdT Tryd.prog 26 1 5 3 := ⟨fun a w => by kernel_rfl, fun cs w => by kernel_rfl⟩
instance : FdT Tryd.prog 26 2 6 3 := ⟨fun a w => by kernel_rfl, fun cs w => by kernel_rfl⟩
instance : FdT Tryd.prog 26 3 7 3 := ⟨fun a w => by kernel_rfl, fun cs w => by kernel_rfl⟩
instance : FdT Tryd.prog 26 4 8 24 := ⟨fun a w => by kernel_rfl, fun cs w => by kernel_rfl⟩
instance : FdT Tryd.prog 26 5 10 24 := ⟨fun a w => by kernel_rfl, fun cs w => by kernel_rfl⟩
instance : FdT Tryd.prog 26 6 12 25 := ⟨fun a w => by kernel_rfl, fun cs w => by kernel_rfl⟩
instance : FdT Tryd.prog 26 7 14 3 := ⟨fun a w => by kernel_rfl, fun cs w => by kernel_rfl⟩
instance : BldT Tryd.prog 26 [(0, 5), (5, 1), (6, 1), (7, 1), (8, 2), (10, 2), (12, 2), (14, 1)] [.int .i64 0, .int .i64 0, .int .i64 0, .int .i64 0, .int .i64 0, .int .i64 0, .int .i64 0, .int .i64 0, .int .i64 0, .int .i64 0, .int .i64 0, .int .i64 0, .bool false, .bool false, .int .i64 0] := ⟨fun parts => by kernel_rfl⟩
instance : TyT Tryd.prog 27 15 true := ⟨fun w => Tryd.isAgg27 w, fun w => Tryd.sizeOf27 w⟩
instance : MkI Tryd.prog 27 := ⟨fun v w => by kernel_rfl⟩
instance : ZvT Tryd.prog 27 (.agg #[.int .i64 0, .int .i64 0, .int .i64 0, .int .i64 0, .int .i64 0, .int .i64 0, .int .i64 0, .int .i64 0, .int .i64 0, .int .i64 0, .int .i64 0, .int .i64 0, .bool false, .bool false, .int .i64 0]) := ⟨fun w => Tryd.zeroValue27 w⟩
instance : FdT Tryd.prog 27 0 0 23 := ⟨fun a w => by kernel_rfl, fun cs w => by kernel_rfl⟩
instance : FdT Tryd.prog 27 1 5 3 := ⟨fun a w => by kernel_rfl, fun cs w => by kernel_rfl⟩
instance : FdT Tryd.prog 27 2 6 3 := ⟨fun a w => by kernel_rfl, fun cs w => by kernel_rfl⟩
instance : FdT Tryd.prog 27 3 7 3 := ⟨fun a w => by kernel_rfl, fun cs w => by kernel_rfl⟩
instance : FdT Tryd.prog 27 4 8 24 := ⟨fun a w => by kernel_rfl, fun cs w => by kernel_rfl⟩
instance : FdT Tryd.prog 27 5 10 24 := ⟨fun a w => by kernel_rfl, fun cs w => by kernel_rfl⟩
instance : FdT Tryd.prog 27 6 12 25 := ⟨fun a w => by kernel_rfl, fun cs w => by kernel_rfl⟩
instance : FdT Tryd.prog 27 7 14 3 := ⟨fun a w => by kernel_rfl, fun cs w => by kernel_rfl⟩
instance : BldT Tryd.prog 27 [(0, 5), (5, 1), (6, 1), (7, 1), (8, 2), (10, 2), (12, 2), (14, 1)] [.int .i64 0, .int .i64 0, .int .i64 0, .int .i64 0, .int .i64 0, .int .i64 0, .int .i64 0, .int .i64 0, .int .i64 0, .int .i64 0, .int .i64 0, .int .i64 0, .bool false, .bool false, .int .i64 0] := ⟨fun parts => by kernel_rfl⟩
instance : TyT Tryd.prog 28 1 false := ⟨fun w => Tryd.isAgg28 w, fun w => Tryd.sizeOf28 w⟩
instance : IfT Tryd.prog 28 := ⟨⟨_, Tryd.underlying28⟩⟩
instance : ZvT Tryd.prog 28 (.nilIface) := ⟨fun w => Tryd.zeroValue28 w⟩
instance : TyT Tryd.prog 29 1 false := ⟨fun w => Tryd.isAgg29 w, fun w => Tryd.sizeOf29 w⟩
instance : IfT Tryd.prog 29 := ⟨⟨_, Tryd.underlying29⟩⟩
instance : ZvT Tryd.prog 29 (.nilIface) := ⟨fun w => Tryd.zeroValue29 w⟩
instance : TyT Tryd.prog 32 1 false := ⟨fun w => Tryd.isAgg32 w, fun w => Tryd.sizeOf32 w⟩
instance : MkI Tryd.prog 32 := ⟨fun v w => by kernel_rfl⟩
instance : ZvT Tryd.prog 32 (.slice none 0 0) := ⟨fun w => Tryd.zeroValue32 w⟩
instance : SlT Tryd.prog 32 5 1 1 (.int .u8 0) := ⟨by kernel_rfl, by kernel_rfl, rfl, by decide, by decide⟩
instance : TyT Tryd.prog 33 7 true := ⟨fun w => Tryd.isAgg33 w, fun w => Tryd.sizeOf33 w⟩
instance : MkI Tryd.prog 33 := ⟨fun v w => by kernel_rfl⟩
instance : ZvT Tryd.prog 33 (.agg #[.int .i64 0, .int .i64 0, .int .i64 0, .int .i64 0, .int .i64 0, .int .i64 0, .slice none 0 0]) := ⟨fun w => Tryd.zeroValue33 w⟩
instance : FdT Tryd.prog 33 0 0 3 := ⟨fun a w => by kernel_rfl, fun cs w => by kernel_rfl⟩
instance : FdT Tryd.prog 33 1 1 3 := ⟨fun a w => by kernel_rfl, fun cs w => by kernel_rfl⟩
instance : FdT Tryd.prog 33 2 2 3 := ⟨fun a w => by kernel_rfl, fun cs w => by kernel_rfl⟩
instance : FdT Tryd.prog 33 3 3 3 := ⟨fun a w => by kernel_rfl, fun cs w => by kernel_rfl⟩
instance : FdT Tryd.prog 33 4 4 3 := ⟨fun a w => by kernel_rfl, fun cs w => by kernel_rfl⟩
instance : FdT Tryd.prog 33 5 5 3 := ⟨fun a w => by kernel_rfl, fun cs w => by kernel_rfl⟩
instance : FdT Tryd.prog 33 6 6 32 := ⟨fun a w => by kernel_rfl, fun cs w => by kernel_rfl⟩
instance : BldT Tryd.prog 33 [(0, 1), (1, 1), (2, 1), (3, 1), (4, 1), (5, 1), (6, 1)] [.int .i64 0, .int .i64 0, .int .i64 0, .int .i64 0, .int .i64 0, .int .i64 0, .slice none 0 0] := ⟨fun parts => by kernel_rfl⟩
instance : TyT Tryd.prog 34 7 true := ⟨fun w => Tryd.isAgg34 w, fun w => Tryd.sizeOf34 w⟩
instance : MkI Tryd.prog 34 := ⟨fun v w => by kernel_rfl⟩
instance : ZvT Tryd.prog 34 (.agg #[.int .i64 0, .int .i64 0, .int .i64 0, .int .i64 0, .int .i64 0, .int .i64 0, .slice none 0 0]) := ⟨fun w => Tryd.zeroValue34 w⟩
instance : FdT Tryd.prog 34 0 0 3 := ⟨fun a w => by kernel_rfl, fun cs w => by kernel_rfl⟩
instance : FdT Tryd.prog 34 1 1 3 := ⟨fun a w => by kernel_rfl, fun cs w => by kernel_rfl⟩
instance : FdT Tryd.prog 34 2 2 3 := ⟨fun a w => by kernel_rfl, fun cs w => by kernel_rfl⟩
instance : FdT Tryd.prog 34 3 3 3 := ⟨fun a w => by kernel_rfl, fun cs w => by kernel_rfl⟩
instance : FdT Tryd.prog 34 4 4 3 := ⟨fun a w => by kernel_rfl, fun cs w => by kernel_rfl⟩
instance : FdT Tryd.prog 34 5 5 3 := ⟨fun a w => by kernel_rfl, fun cs w => by kernel_rfl⟩
instance : FdT Tryd.prog 34 6 6 32 := ⟨fun a w => by kernel_rfl, fun cs w => by kernel_rfl⟩
instance : BldT Tryd.prog 34 [(0, 1), (1, 1), (2, 1), (3, 1), (4, 1), (5, 1), (6, 1)] [.int .i64 0, .int .i64 0, .int .i64 0, .int .i64 0, .int .i64 0, .int .i64 0, .slice none 0 0] := ⟨fun parts => by kernel_rfl⟩
instance : TyT Tryd.prog 45 1 false := ⟨fun w => Tryd.isAgg45 w, fun w => Tryd.sizeOf45 w⟩
instance : MkI Tryd.prog 45 := ⟨fun v w => by kernel_rfl⟩
instance : ZvT Tryd.prog 45 (.slice none 0 0) := ⟨fun w => Tryd.zeroValue45 w⟩
instance : SlT Tryd.prog 45 34 7 72 (.agg #[.int .i64 0, .int .i64 0, .int .i64 0, .int .i64 0, .int .i64 0, .int .i64 0, .slice none 0 0]) := ⟨by kernel_rfl, by kernel_rfl, rfl, by decide, by decide⟩
instance : TyT Tryd.prog 46 1 false := ⟨fun w => Tryd.isAgg46 w, fun w => Tryd.sizeOf46 w⟩
instance : MkI Tryd.prog 46 := ⟨fun v w => by kernel_rfl⟩
instance : ZvT Tryd.prog 46 (.slice none 0 0) := ⟨fun w => Tryd.zeroValue46 w⟩
instance : SlT Tryd.prog 46 4 1 1 (.bool false) := ⟨by kernel_rfl, by kernel_rfl, rfl, by decide, by decide⟩
instance : TyT Tryd.prog 47 1 false := ⟨fun w => Tryd.isAgg47 w, fun w => Tryd.sizeOf47 w⟩
instance : MkI Tryd.prog 47 := ⟨fun v w => by kernel_rfl⟩
instance : ZvT Tryd.prog 47 (.slice none 0 0) := ⟨fun w => Tryd.zeroValue47 w⟩
instance : SlT Tryd.prog 47 3 1 8 (.int .i64 0) := ⟨by kernel_rfl, by kernel_rfl, rfl, by decide, by decide⟩
instance : TyT Tryd.prog 49 1 false := ⟨fun w => Tryd.isAgg49 w, fun w => Tryd.sizeOf49 w⟩
instance : MkI Tryd.prog 49 := ⟨fun v w => by kernel_rfl⟩
instance : ZvT Tryd.prog 49 (.slice none 0 0) := ⟨fun w => Tryd.zeroValue49 w⟩
instance : SlT Tryd.prog 49 47 1 24 (.slice none 0 0) := ⟨by kernel_rfl, by kernel_rfl, rfl, by decide, by decide⟩
instance : TyT Tryd.prog 50 1 false := ⟨fun w => Tryd.isAgg50 w, fun w => Tryd.sizeOf50 w⟩
instance : MkI Tryd.prog 50 := ⟨fun v w => by kernel_rfl⟩
instance : ZvT Tryd.prog 50 (.slice none 0 0) := ⟨fun w => Tryd.zeroValue50 w⟩
instance : SlT Tryd.prog 50 57 17 128 (.agg #[.int .i64 0, .int .i64 0, .int .i64 0, .int .i64 0, .int .i64 0, .int .i64 0, .int .i64 0, .int .i64 0, .int .i64 0, .int .i64 0, .int .i64 0, .int .i64 0, .int .i64 0, .int .i64 0, .bool false, .bool false, .int .i64 0]) := ⟨by kernel_rfl, by kernel_rfl, rfl, by decide, by decide⟩
instance : TyT Tryd.prog 51 1 false := ⟨fun w => Tryd.isAgg51 w, fun w => Tryd.sizeOf51 w⟩
instance : MkI Tryd.prog 51 := ⟨fun v w => by kernel_rfl⟩
instance : ZvT Tryd.prog 51 (.pointer none) := ⟨fun w => Tryd.zeroValue51 w⟩
instance : TyT Tryd.prog 54 3 true := ⟨fun w => Tryd.isAgg54 w, fun w => Tryd.sizeOf54 w⟩
instance : MkI Tryd.prog 54 := ⟨fun v w => by kernel_rfl⟩
instance : ZvT Tryd.prog 54 (.agg #[.int .i64 0, .int .i64 0, .int .i64 0]) := ⟨fun w => Tryd.zeroValue54 w⟩
instance : ArT Tryd.prog 54 3 3 1 := ⟨Tryd.underlying54, fun w => Tryd.sizeOf3 w⟩
instance : TyT Tryd.prog 56 17 true := ⟨fun w => Tryd.isAgg56 w, fun w => Tryd.sizeOf56 w⟩
instance : MkI Tryd.prog 56 := ⟨fun v w => by kernel_rfl⟩
instance : ZvT Tryd.prog 56 (.agg #[.int .i64 0, .int .i64 0, .int .i64 0, .int .i64 0, .int .i64 0, .int .i64 0, .int .i64 0, .int .i64 0, .int .i64 0, .int .i64 0, .int .i64 0, .int .i64 0, .int .i64 0, .int .i64 0, .bool false, .bool false, .int .i64 0]) := ⟨fun w => Tryd.zeroValue56 w⟩
instance : FdT Tryd.prog 56 0 0 3 := ⟨fun a w => by kernel_rfl, fun cs w => by kernel_rfl⟩
instance : FdT Tryd.prog 56 1 1 3 := ⟨fun a w => by kernel_rfl, fun cs w => by kernel_rfl⟩
instance : FdT Tryd.prog 56 2 2 27 := ⟨fun a w => by kernel_rfl, fun cs w => by kernel_rfl⟩
instance : BldT Tryd.prog 56 [(0, 1), (1, 1), (2, 15)] [.int .i64 0, .int .i64 0, .int .i64 0, .int .i64 0, .int .i64 0, .int .i64 0, .int .i64 0, .int .i64 0, .int .i64 0, .int .i64 0, .int .i64 0, .int .i64 0, .int .i64 0, .int .i64 0, .bool false, .bool false, .int .i64 0] := ⟨fun parts => by kernel_rfl⟩
instance : TyT Tryd.prog 57 17 true := ⟨fun w => Tryd.isAgg57 w, fun w => Tryd.sizeOf57 w⟩
instance : MkI Tryd.prog 57 := ⟨fun v w => by kernel_rfl⟩
instance : ZvT Tryd.prog 57 (.agg #[.int .i64 0, .int .i64 0, .int .i64 0, .int .i64 0, .int .i64 0, .int .i64 0, .int .i64 0, .int .i64 0, .int .i64 0, .int .i64 0, .int .i64 0, .int .i64 0, .int .i64 0, .int .i64 0, .bool false, .bool false, .int .i64 0]) := ⟨fun w => Tryd.zeroValue57 w⟩
instance : FdT Tryd.prog 57 0 0 3 := ⟨fun a w => by kernel_rfl, fun cs w => by kernel_rfl⟩
instance : FdT Tryd.prog 57 1 1 3 := ⟨fun a w => by kernel_rfl, fun cs w => by kernel_rfl⟩
instance : FdT Tryd.prog 57 2 2 27 := ⟨fun a w => by kernel_rfl, fun cs w => by kernel_rfl⟩
instance : BldT Tryd.prog 57 [(0, 1), (1, 1), (2, 15)] [.int .i64 0, .int .i64 0, .int .i64 0, .int .i64 0, .int .i64 0, .int .i64 0, .int .i64 0, .int .i64 0, .int .i64 0, .int .i64 0, .int .i64 0, .int .i64 0, .int .i64 0, .int .i64 0, .bool false, .bool false, .int .i64 0] := ⟨fun parts => by kernel_rfl⟩
instance : TyT Tryd.prog 76 1 false := ⟨fun w => Tryd.isAgg76 w, fun w => Tryd.sizeOf76 w⟩
instance : MkI Tryd.prog 76 := ⟨fun v w => by kernel_rfl⟩
instance : ZvT Tryd.prog 76 (.slice none 0 0) := ⟨fun w => Tryd.zeroValue76 w⟩
instance : SlT Tryd.prog 76 88 8 80 (.agg #[.int .i64 0, .int .i64 0, .int .i64 0, .int .i64 0, .int .i64 0, .int .i64 0, .bool false, .slice none 0 0]) := ⟨by kernel_rfl, by kernel_rfl, rfl, by decide, by decide⟩
instance : TyT Tryd.prog 77 1 false := ⟨fun w => Tryd.isAgg77 w, fun w => Tryd.sizeOf77 w⟩
instance : MkI Tryd.prog 77 := ⟨fun v w => by kernel_rfl⟩
instance : ZvT Tryd.prog 77 (.pointer none) := ⟨fun w => Tryd.zeroValue77 w⟩
instance : TyT Tryd.prog 80 1 false := ⟨fun w => Tryd.isAgg80 w, fun w => Tryd.sizeOf80 w⟩
instance : MkI Tryd.prog 80 := ⟨fun v w => by kernel_rfl⟩
instance : ZvT Tryd.prog 80 (.pointer none) := ⟨fun w => Tryd.zeroValue80 w⟩
instance : TyT Tryd.prog 81 1 false := ⟨fun w => Tryd.isAgg81 w, fun w => Tryd.sizeOf81 w⟩
instance : MkI Tryd.prog 81 := ⟨fun v w => by kernel_rfl⟩
instance : ZvT Tryd.prog 81 (.slice none 0 0) := ⟨fun w => Tryd.zeroValue81 w⟩
instance : SlT Tryd.prog 81 131 11 120 (.agg #[.int .i64 0, .int .i64 0, .int .i64 0, .int .i64 0, .int .i64 0, .int .i64 0, .bool false, .slice none 0 0, .int .i64 0, .bool false, .slice none 0 0]) := ⟨by kernel_rfl, by kernel_rfl, rfl, by decide, by decide⟩
instance : TyT Tryd.prog 82 3 true := ⟨fun w => Tryd.isAgg82 w, fun w => Tryd.sizeOf82 w⟩
instance : MkI Tryd.prog 82 := ⟨fun v w => by kernel_rfl⟩
instance : ZvT Tryd.prog 82 (.agg #[.int .i64 0, .int .i64 0, .slice none 0 0]) := ⟨fun w => Tryd.zeroValue82 w⟩
instance : FdT Tryd.prog 82 0 0 3 := ⟨fun a w => by kernel_rfl, fun cs w => by kernel_rfl⟩
instance : FdT Tryd.prog 82 1 1 3 := ⟨fun a w => by kernel_rfl, fun cs w => by kernel_rfl⟩
instance : FdT Tryd.prog 82 2 2 81 := ⟨fun a w => by kernel_rfl, fun cs w => by kernel_rfl⟩
instance : BldT Tryd.prog 82 [(0, 1), (1, 1), (2, 1)] [.int .i64 0, .int .i64 0, .slice none 0 0] := ⟨fun parts => by kernel_rfl⟩
instance : TyT Tryd.prog 83 3 true := ⟨fun w => Tryd.isAgg83 w, fun w => Tryd.sizeOf83 w⟩
instance : MkI Tryd.prog 83 := ⟨fun v w => by kernel_rfl⟩
instance : ZvT Tryd.prog 83 (.agg #[.int .i64 0, .int .i64 0, .slice none 0 0]) := ⟨fun w => Tryd.zeroValue83 w⟩
instance : FdT Tryd.prog 83 0 0 3 := ⟨fun a w => by kernel_rfl, fun cs w => by kernel_rfl⟩
instance : FdT Tryd.prog 83 1 1 3 := ⟨fun a w => by kernel_rfl, fun cs w => by kernel_rfl⟩
instance : FdT Tryd.prog 83 2 2 81 := ⟨fun a w => by kernel_rfl, fun cs w => by kernel_rfl⟩
instance : BldT Tryd.prog 83 [(0, 1), (1, 1), (2, 1)] [.int .i64 0, .int .i64 0, .slice none 0 0] := ⟨fun parts => by kernel_rfl⟩
instance : TyT Tryd.prog 87 8 true := ⟨fun w => Tryd.isAgg87 w, fun w => Tryd.sizeOf87 w⟩
instance : MkI Tryd.prog 87 := ⟨fun v w => by kernel_rfl⟩
instance : ZvT Tryd.prog 87 (.agg #[.int .i64 0, .int .i64 0, .int .i64 0, .int .i64 0, .int .i64 0, .int .i64 0, .bool false, .slice none 0 0]) := ⟨fun w => Tryd.zeroValue87 w⟩
instance : FdT Tryd.prog 87 0 0 3 := ⟨fun a w => by kernel_rfl, fun cs w => by kernel_rfl⟩
instance : FdT Tryd.prog 87 1 1 3 := ⟨fun a w => by kernel_rfl, fun cs w => by kernel_rfl⟩
instance : FdT Tryd.prog 87 2 2 3 := ⟨fun a w => by kernel_rfl, fun cs w => by kernel_rfl⟩
instance : FdT Tryd.prog 87 3 3 3 := ⟨fun a w => by kernel_rfl, fun cs w => by kernel_rfl⟩
instance : FdT Tryd.prog 87 4 4 3 := ⟨fun a w => by kernel_rfl, fun cs w => by kernel_rfl⟩
instance : FdT Tryd.prog 87 5 5 3 := ⟨fun a w => by kernel_rfl, fun cs w => by kernel_rfl⟩
instance : FdT Tryd.prog 87 6 6 4 := ⟨fun a w => by kernel_rfl, fun cs w => by kernel_rfl⟩
instance : FdT Tryd.prog 87 7 7 32 := ⟨fun a w => by kernel_rfl, fun cs w => by kernel_rfl⟩
instance : BldT Tryd.prog 87 [(0, 1), (1, 1), (2, 1), (3, 1), (4, 1), (5, 1), (6, 1), (7, 1)] [.int .i64 0, .int .i64 0, .int .i64 0, .int .i64 0, .int .i64 0, .int .i64 0, .bool false, .slice none 0 0] := ⟨fun parts => by kernel_rfl⟩
instance : TyT Tryd.prog 88 8 true := ⟨fun w => Tryd.isAgg88 w, fun w => Tryd.sizeOf88 w⟩
instance : MkI Tryd.prog 88 := ⟨fun v w => by kernel_rfl⟩
instance : ZvT Tryd.prog 88 (.agg #[.int .i64 0, .int .i64 0, .int .i64 0, .int .i64 0, .int .i64 0, .int .i64 0, .bool false, .slice none 0 0]) := ⟨fun w => Tryd.zeroValue88 w⟩
instance : FdT Tryd.prog 88 0 0 3 := ⟨fun a w => by kernel_rfl, fun cs w => by kernel_rfl⟩
instance : FdT Tryd.prog 88 1 1 3 := ⟨fun a w => by kernel_rfl, fun cs w => by kernel_rfl⟩
instance : FdT Tryd.prog 88 2 2 3 := ⟨fun a w => by kernel_rfl, fun cs w => by kernel_rfl⟩
instance : FdT Tryd.prog 88 3 3 3 := ⟨fun a w => by kernel_rfl, fun cs w => by kernel_rfl⟩
instance : FdT Tryd.prog 88 4 4 3 := ⟨fun a w => by kernel_rfl, fun cs w => by kernel_rfl⟩
instance : FdT Tryd.prog 88 5 5 3 := ⟨fun a w => by kernel_rfl, fun cs w => by kernel_rfl⟩
instance : FdT Tryd.prog 88 6 6 4 := ⟨fun a w => by kernel_rfl, fun cs w => by kernel_rfl⟩
instance : FdT Tryd.prog 88 7 7 32 := ⟨fun a w => by kernel_rfl, fun cs w => by kernel_rfl⟩
instance : BldT Tryd.prog 88 [(0, 1), (1, 1), (2, 1), (3, 1), (4, 1), (5, 1), (6, 1), (7, 1)] [.int .i64 0, .int .i64 0, .int .i64 0, .int .i64 0, .int .i64 0, .int .i64 0, .bool false, .slice none 0 0] := ⟨fun parts => by kernel_rfl⟩
instance : TyT Tryd.prog 98 1 false := ⟨fun w => Tryd.isAgg98 w, fun w => Tryd.sizeOf98 w⟩
instance : MkI Tryd.prog 98 := ⟨fun v w => by kernel_rfl⟩
instance : IntT Tryd.prog 98 .i64 := ⟨Tryd.underlying98⟩
instance : ZvT Tryd.prog 98 (.int .i64 0) := ⟨fun w => Tryd.zeroValue98 w⟩
instance : TyT Tryd.prog 103 1 false := ⟨fun w => Tryd.isAgg103 w, fun w => Tryd.sizeOf103 w⟩
instance : MkI Tryd.prog 103 := ⟨fun v w => by kernel_rfl⟩
instance : ZvT Tryd.prog 103 (.pointer none) := ⟨fun w => Tryd.zeroValue103 w⟩
instance : TyT Tryd.prog 110 1 false := ⟨fun w => Tryd.isAgg110 w, fun w => Tryd.sizeOf110 w⟩
instance : MkI Tryd.prog 110 := ⟨fun v w => by kernel_rfl⟩
instance : ZvT Tryd.prog 110 (.slice none 0 0) := ⟨fun w => Tryd.zeroValue110 w⟩
instance : SlT Tryd.prog 110 115 18 136 (.agg #[.int .i64 0, .int .i64 0, .int .i64 0, .int .i64 0, .int .i64 0, .int .i64 0, .int .i64 0, .int .i64 0, .int .i64 0, .int .i64 0, .int .i64 0, .int .i64 0, .int .i64 0, .int .i64 0, .bool false, .bool false, .int .i64 0, .int .i64 0]) := ⟨by kernel_rfl, by kernel_rfl, rfl, by decide, by decide⟩
instance : TyT Tryd.prog 111 4 true := ⟨fun w => Tryd.isAgg111 w, fun w => Tryd.sizeOf111 w⟩
instance : MkI Tryd.prog 111 := ⟨fun v w => by kernel_rfl⟩
instance : ZvT Tryd.prog 111 (.agg #[.int .i64 0, .int .i64 0, .int .i64 0, .slice none 0 0]) := ⟨fun w => Tryd.zeroValue111 w⟩
instance : FdT Tryd.prog 111 0 0 3 := ⟨fun a w => by kernel_rfl, fun cs w => by kernel_rfl⟩
instance : FdT Tryd.prog 111 1 1 3 := ⟨fun a w => by kernel_rfl, fun cs w => by kernel_rfl⟩
instance : FdT Tryd.prog 111 2 2 3 := ⟨fun a w => by kernel_rfl, fun cs w => by kernel_rfl⟩
instance : FdT Tryd.prog 111 3 3 110 := ⟨fun a w => by kernel_rfl, fun cs w => by kernel_rfl⟩
instance : BldT Tryd.prog 111 [(0, 1), (1, 1), (2, 1), (3, 1)] [.int .i64 0, .int .i64 0, .int .i64 0, .slice none 0 0] := ⟨fun parts => by kernel_rfl⟩
instance : TyT Tryd.prog 112 4 true := ⟨fun w => Tryd.isAgg112 w, fun w => Tryd.sizeOf112 w⟩
instance : MkI Tryd.prog 112 := ⟨fun v w => by kernel_rfl⟩
instance : ZvT Tryd.prog 112 (.agg #[.int .i64 0, .int .i64 0, .int .i64 0, .slice none 0 0]) := ⟨fun w => Tryd.zeroValue112 w⟩
instance : FdT Tryd.prog 112 0 0 3 := ⟨fun a w => by kernel_rfl, fun cs w => by kernel_rfl⟩
instance : FdT Tryd.prog 112 1 1 3 := ⟨fun a w => by kernel_rfl, fun cs w => by kernel_rfl⟩
instance : FdT Tryd.prog 112 2 2 3 := ⟨fun a w => by kernel_rfl, fun cs w => by kernel_rfl⟩
instance : FdT Tryd.prog 112 3 3 110 := ⟨fun a w => by kernel_rfl, fun cs w => by kernel_rfl⟩
instance : BldT Tryd.prog 112 [(0, 1), (1, 1), (2, 1), (3, 1)] [.int .i64 0, .int .i64 0, .int .i64 0, .slice none 0 0] := ⟨fun parts => by kernel_rfl⟩
instance : TyT Tryd.prog 114 18 true := ⟨fun w => Tryd.isAgg114 w, fun w => Tryd.sizeOf114 w⟩
instance : MkI Tryd.prog 114 := ⟨fun v w => by kernel_rfl⟩
instance : ZvT Tryd.prog 114 (.agg #[.int .i64 0, .int .i64 0, .int .i64 0, .int .i64 0, .int .i64 0, .int .i64 0, .int .i64 0, .int .i64 0, .int .i64 0, .int .i64 0, .int .i64 0, .int .i64 0, .int .i64 0, .int .i64 0, .bool false, .bool false, .int .i64 0, .int .i64 0]) := ⟨fun w => Tryd.zeroValue114 w⟩
instance : FdT Tryd.prog 114 0 0 57 := ⟨fun a w => by kernel_rfl, fun cs w => by kernel_rfl⟩
instance : FdT Tryd.prog 114 1 17 3 := ⟨fun a w => by kernel_rfl, fun cs w => by kernel_rfl⟩
instance : BldT Tryd.prog 114 [(0, 17), (17, 1)] [.int .i64 0, .int .i64 0, .int .i64 0, .int .i64 0, .int .i64 0, .int .i64 0, .int .i64 0, .int .i64 0, .int .i64 0, .int .i64 0, .int .i64 0, .int .i64 0, .int .i64 0, .int .i64 0, .bool false, .bool false, .int .i64 0, .int .i64 0] := ⟨fun parts => by kernel_rfl⟩
instance : TyT Tryd.prog 115 18 true := ⟨fun w => Tryd.isAgg115 w, fun w => Tryd.sizeOf115 w⟩
instance : MkI Tryd.prog 115 := ⟨fun v w => by kernel_rfl⟩
instance : ZvT Tryd.prog 115 (.agg #[.int .i64 0, .int .i64 0, .int .i64 0, .int .i64 0, .int .i64 0, .int .i64 0, .int .i64 0, .int .i64 0, .int .i64 0, .int .i64 0, .int .i64 0, .int .i64 0, .int .i64 0, .int .i64 0, .bool false, .bool false, .int .i64 0, .int .i64 0]) := ⟨fun w => Tryd.zeroValue115 w⟩
instance : FdT Tryd.prog 115 0 0 57 := ⟨fun a w => by kernel_rfl, fun cs w => by kernel_rfl⟩
instance : FdT Tryd.prog 115 1 17 3 := ⟨fun a w => by kernel_rfl, fun cs w => by kernel_rfl⟩
instance : BldT Tryd.prog 115 [(0, 17), (17, 1)] [.int .i64 0, .int .i64 0, .int .i64 0, .int .i64 0, .int .i64 0, .int .i64 0, .int .i64 0, .int .i64 0, .int .i64 0, .int .i64 0, .int .i64 0, .int .i64 0, .int .i64 0, .int .i64 0, .bool false, .bool false, .int .i64 0, .int .i64 0] := ⟨fun parts => by kernel_rfl⟩
instance : TyT Tryd.prog 117 1 false := ⟨fun w => Tryd.isAgg117 w, fun w => Tryd.sizeOf117 w⟩
instance : MkI Tryd.prog 117 := ⟨fun v w => by kernel_rfl⟩
instance : ZvT Tryd.prog 117 (.slice none 0 0) := ⟨fun w => Tryd.zeroValue117 w⟩
instance : SlT Tryd.prog 117 120 1 8 (.pointer none) := ⟨by kernel_rfl, by kernel_rfl, rfl, by decide, by decide⟩
instance : TyT Tryd.prog 119 1 false := ⟨fun w => Tryd.isAgg119 w, fun w => Tryd.sizeOf119 w⟩
instance : MkI Tryd.prog 119 := ⟨fun v w => by kernel_rfl⟩
instance : ZvT Tryd.prog 119 (.pointer none) := ⟨fun w => Tryd.zeroValue119 w⟩
instance : TyT Tryd.prog 120 1 false := ⟨fun w => Tryd.isAgg120 w, fun w => Tryd.sizeOf120 w⟩
instance : MkI Tryd.prog 120 := ⟨fun v w => by kernel_rfl⟩
instance : ZvT Tryd.prog 120 (.pointer none) := ⟨fun w => Tryd.zeroValue120 w⟩
instance : TyT Tryd.prog 121 1 false := ⟨fun w => Tryd.isAgg121 w, fun w => Tryd.sizeOf121 w⟩
instance : MkI Tryd.prog 121 := ⟨fun v w => by kernel_rfl⟩
instance : ZvT Tryd.prog 121 (.pointer none) := ⟨fun w => Tryd.zeroValue121 w⟩
instance : TyT Tryd.prog 122 3 true := ⟨fun w => Tryd.isAgg122 w, fun w => Tryd.sizeOf122 w⟩
instance : MkI Tryd.prog 122 := ⟨fun v w => by kernel_rfl⟩
instance : ZvT Tryd.prog 122 (.agg #[.slice none 0 0, .int .i64 0, .int .i64 0]) := ⟨fun w => Tryd.zeroValue122 w⟩
instance : FdT Tryd.prog 122 0 0 32 := ⟨fun a w => by kernel_rfl, fun cs w => by kernel_rfl⟩
instance : FdT Tryd.prog 122 1 1 3 := ⟨fun a w => by kernel_rfl, fun cs w => by kernel_rfl⟩
instance : FdT Tryd.prog 122 2 2 3 := ⟨fun a w => by kernel_rfl, fun cs w => by kernel_rfl⟩
instance : BldT Tryd.prog 122 [(0, 1), (1, 1), (2, 1)] [.slice none 0 0, .int .i64 0, .int .i64 0] := ⟨fun parts => by kernel_rfl⟩
instance : TyT Tryd.prog 123 3 true := ⟨fun w => Tryd.isAgg123 w, fun w => Tryd.sizeOf123 w⟩
instance : MkI Tryd.prog 123 := ⟨fun v w => by kernel_rfl⟩
instance : ZvT Tryd.prog 123 (.agg #[.slice none 0 0, .int .i64 0, .int .i64 0]) := ⟨fun w => Tryd.zeroValue123 w⟩
instance : FdT Tryd.prog 123 0 0 32 := ⟨fun a w => by kernel_rfl, fun cs w => by kernel_rfl⟩
instance : FdT Tryd.prog 123 1 1 3 := ⟨fun a w => by kernel_rfl, fun cs w => by kernel_rfl⟩
instance : FdT Tryd.prog 123 2 2 3 := ⟨fun a w => by kernel_rfl, fun cs w => by kernel_rfl⟩
instance : BldT Tryd.prog 123 [(0, 1), (1, 1), (2, 1)] [.slice none 0 0, .int .i64 0, .int .i64 0] := ⟨fun parts => by kernel_rfl⟩
instance : TyT Tryd.prog 124 1 false := ⟨fun w => Tryd.isAgg124 w, fun w => Tryd.sizeOf124 w⟩
instance : MkI Tryd.prog 124 := ⟨fun v w => by kernel_rfl⟩
instance : ZvT Tryd.prog 124 (.pointer none) := ⟨fun w => Tryd.zeroValue124 w⟩
instance : TyT Tryd.prog 125 3 true := ⟨fun w => Tryd.isAgg125 w, fun w => Tryd.sizeOf125 w⟩
instance : MkI Tryd.prog 125 := ⟨fun v w => by kernel_rfl⟩
instance : ZvT Tryd.prog 125 (.agg #[.slice none 0 0, .int .i64 0, .nilIface]) := ⟨fun w => Tryd.zeroValue125 w⟩
instance : FdT Tryd.prog 125 0 0 32 := ⟨fun a w => by kernel_rfl, fun cs w => by kernel_rfl⟩
instance : FdT Tryd.prog 125 1 1 3 := ⟨fun a w => by kernel_rfl, fun cs w => by kernel_rfl⟩
instance : FdT Tryd.prog 125 2 2 29 := ⟨fun a w => by kernel_rfl, fun cs w => by kernel_rfl⟩
instance : BldT Tryd.prog 125 [(0, 1), (1, 1), (2, 1)] [.slice none 0 0, .int .i64 0, .nilIface] := ⟨fun parts => by kernel_rfl⟩
instance : TyT Tryd.prog 126 3 true := ⟨fun w => Tryd.isAgg126 w, fun w => Tryd.sizeOf126 w⟩
instance : MkI Tryd.prog 126 := ⟨fun v w => by kernel_rfl⟩
instance : ZvT Tryd.prog 126 (.agg #[.slice none 0 0, .int .i64 0, .nilIface]) := ⟨fun w => Tryd.zeroValue126 w⟩
instance : FdT Tryd.prog 126 0 0 32 := ⟨fun a w => by kernel_rfl, fun cs w => by kernel_rfl⟩
instance : FdT Tryd.prog 126 1 1 3 := ⟨fun a w => by kernel_rfl, fun cs w => by kernel_rfl⟩
instance : FdT Tryd.prog 126 2 2 29 := ⟨fun a w => by kernel_rfl, fun cs w => by kernel_rfl⟩
instance : BldT Tryd.prog 126 [(0, 1), (1, 1), (2, 1)] [.slice none 0 0, .int .i64 0, .nilIface] := ⟨fun parts => by kernel_rfl⟩
instance : TyT Tryd.prog 127 1 false := ⟨fun w => Tryd.isAgg127 w, fun w => Tryd.sizeOf127 w⟩
instance : MkI Tryd.prog 127 := ⟨fun v w => by kernel_rfl⟩
instance : ZvT Tryd.prog 127 (.map none) := ⟨fun w => Tryd.zeroValue127 w⟩
instance : TyT Tryd.prog 128 3 true := ⟨fun w => Tryd.isAgg128 w, fun w => Tryd.sizeOf128 w⟩
instance : MkI Tryd.prog 128 := ⟨fun v w => by kernel_rfl⟩
instance : ZvT Tryd.prog 128 (.agg #[.int .i64 0, .int .i64 0, .map none]) := ⟨fun w => Tryd.zeroValue128 w⟩
instance : FdT Tryd.prog 128 0 0 3 := ⟨fun a w => by kernel_rfl, fun cs w => by kernel_rfl⟩
instance : FdT Tryd.prog 128 1 1 3 := ⟨fun a w => by kernel_rfl, fun cs w => by kernel_rfl⟩
instance : FdT Tryd.prog 128 2 2 127 := ⟨fun a w => by kernel_rfl, fun cs w => by kernel_rfl⟩
instance : BldT Tryd.prog 128 [(0, 1), (1, 1), (2, 1)] [.int .i64 0, .int .i64 0, .map none] := ⟨fun parts => by kernel_rfl⟩
instance : TyT Tryd.prog 129 3 true := ⟨fun w => Tryd.isAgg129 w, fun w => Tryd.sizeOf129 w⟩
instance : MkI Tryd.prog 129 := ⟨fun v w => by kernel_rfl⟩
instance : ZvT Tryd.prog 129 (.agg #[.int .i64 0, .int .i64 0, .map none]) := ⟨fun w => Tryd.zeroValue129 w⟩
instance : FdT Tryd.prog 129 0 0 3 := ⟨fun a w => by kernel_rfl, fun cs w => by kernel_rfl⟩
instance : FdT Tryd.prog 129 1 1 3 := ⟨fun a w => by kernel_rfl, fun cs w => by kernel_rfl⟩
instance : FdT Tryd.prog 129 2 2 127 := ⟨fun a w => by kernel_rfl, fun cs w => by kernel_rfl⟩
instance : BldT Tryd.prog 129 [(0, 1), (1, 1), (2, 1)] [.int .i64 0, .int .i64 0, .map none] := ⟨fun parts => by kernel_rfl⟩
instance : TyT Tryd.prog 130 11 true := ⟨fun w => Tryd.isAgg130 w, fun w => Tryd.sizeOf130 w⟩
instance : MkI Tryd.prog 130 := ⟨fun v w => by kernel_rfl⟩
instance : ZvT Tryd.prog 130 (.agg #[.int .i64 0, .int .i64 0, .int .i64 0, .int .i64 0, .int .i64 0, .int .i64 0, .bool false, .slice none 0 0, .int .i64 0, .bool false, .slice none 0 0]) := ⟨fun w => Tryd.zeroValue130 w⟩
instance : FdT Tryd.prog 130 0 0 88 := ⟨fun a w => by kernel_rfl, fun cs w => by kernel_rfl⟩
instance : FdT Tryd.prog 130 1 8 3 := ⟨fun a w => by kernel_rfl, fun cs w => by kernel_rfl⟩
instance : FdT Tryd.prog 130 2 9 4 := ⟨fun a w => by kernel_rfl, fun cs w => by kernel_rfl⟩
instance : FdT Tryd.prog 130 3 10 76 := ⟨fun a w => by kernel_rfl, fun cs w => by kernel_rfl⟩
instance : BldT Tryd.prog 130 [(0, 8), (8, 1), (9, 1), (10, 1)] [.int .i64 0, .int .i64 0, .int .i64 0, .int .i64 0, .int .i64 0, .int .i64 0, .bool false, .slice none 0 0, .int .i64 0, .bool false, .slice none 0 0] := ⟨fun parts => by kernel_rfl⟩
instance : TyT Tryd.prog 131 11 true := ⟨fun w => Tryd.isAgg131 w, fun w => Tryd.sizeOf131 w⟩
instance : MkI Tryd.prog 131 := ⟨fun v w => by kernel_rfl⟩
instance : ZvT Tryd.prog 131 (.agg #[.int .i64 0, .int .i64 0, .int .i64 0, .int .i64 0, .int .i64 0, .int .i64 0, .bool false, .slice none 0 0, .int .i64 0, .bool false, .slice none 0 0]) := ⟨fun w => Tryd.zeroValue131 w⟩
instance : FdT Tryd.prog 131 0 0 88 := ⟨fun a w => by kernel_rfl, fun cs w => by kernel_rfl⟩
instance : FdT Tryd.prog 131 1 8 3 := ⟨fun a w => by kernel_rfl, fun cs w => by kernel_rfl⟩
instance : FdT Tryd.prog 131 2 9 4 := ⟨fun a w => by kernel_rfl, fun cs w => by kernel_rfl⟩
instance : FdT Tryd.prog 131 3 10 76 := ⟨fun a w => by kernel_rfl, fun cs w => by kernel_rfl⟩
instance : BldT Tryd.prog 131 [(0, 8), (8, 1), (9, 1), (10, 1)] [.int .i64 0, .int .i64 0, .int .i64 0, .int .i64 0, .int .i64 0, .int .i64 0, .bool false, .slice none 0 0, .int .i64 0, .bool false, .slice none 0 0] := ⟨fun parts => by kernel_rfl⟩
instance : TyT Tryd.prog 132 4 true := ⟨fun w => Tryd.isAgg132 w, fun w => Tryd.sizeOf132 w⟩
instance : MkI Tryd.prog 132 := ⟨fun v w => by kernel_rfl⟩
instance : ZvT Tryd.prog 132 (.agg #[.int .i64 0, .int .i64 0, .int .i64 0, .int .i64 0]) := ⟨fun w => Tryd.zeroValue132 w⟩
instance : FdT Tryd.prog 132 0 0 3 := ⟨fun a w => by kernel_rfl, fun cs w => by kernel_rfl⟩
instance : FdT Tryd.prog 132 1 1 3 := ⟨fun a w => by kernel_rfl, fun cs w => by kernel_rfl⟩
instance : FdT Tryd.prog 132 2 2 3 := ⟨fun a w => by kernel_rfl, fun cs w => by kernel_rfl⟩
instance : FdT Tryd.prog 132 3 3 3 := ⟨fun a w => by kernel_rfl, fun cs w => by kernel_rfl⟩
instance : BldT Tryd.prog 132 [(0, 1), (1, 1), (2, 1), (3, 1)] [.int .i64 0, .int .i64 0, .int .i64 0, .int .i64 0] := ⟨fun parts => by kernel_rfl⟩
instance : TyT Tryd.prog 133 4 true := ⟨fun w => Tryd.isAgg133 w, fun w => Tryd.sizeOf133 w⟩
instance : MkI Tryd.prog 133 := ⟨fun v w => by kernel_rfl⟩
instance : ZvT Tryd.prog 133 (.agg #[.int .i64 0, .int .i64 0, .int .i64 0, .int .i64 0]) := ⟨fun w => Tryd.zeroValue133 w⟩
instance : FdT Tryd.prog 133 0 0 3 := ⟨fun a w => by kernel_rfl, fun cs w => by kernel_rfl⟩
instance : FdT Tryd.prog 133 1 1 3 := ⟨fun a w => by kernel_rfl, fun cs w => by kernel_rfl⟩
instance : FdT Tryd.prog 133 2 2 3 := ⟨fun a w => by kernel_rfl, fun cs w => by kernel_rfl⟩
instance : FdT Tryd.prog 133 3 3 3 := ⟨fun a w => by kernel_rfl, fun cs w => by kernel_rfl⟩
instance : BldT Tryd.prog 133 [(0, 1), (1, 1), (2, 1), (3, 1)] [.int .i64 0, .int .i64 0, .int .i64 0, .int .i64 0] := ⟨fun parts => by kernel_rfl⟩
instance : TyT Tryd.prog 134 1 false := ⟨fun w => Tryd.isAgg134 w, fun w => Tryd.sizeOf134 w⟩
instance : MkI Tryd.prog 134 := ⟨fun v w => by kernel_rfl⟩
instance : ZvT Tryd.prog 134 (.pointer none) := ⟨fun w => Tryd.zeroValue134 w⟩
instance : TyT Tryd.prog 135 7 true := ⟨fun w => Tryd.isAgg135 w, fun w => Tryd.sizeOf135 w⟩
instance : MkI Tryd.prog 135 := ⟨fun v w => by kernel_rfl⟩
instance : ZvT Tryd.prog 135 (.agg #[.int .i64 0, .bool false, .int .i64 0, .slice none 0 0, .slice none 0 0, .int .i64 0, .int .i64 0]) := ⟨fun w => Tryd.zeroValue135 w⟩
instance : FdT Tryd.prog 135 0 0 3 := ⟨fun a w => by kernel_rfl, fun cs w => by kernel_rfl⟩
instance : FdT Tryd.prog 135 1 1 4 := ⟨fun a w => by kernel_rfl, fun cs w => by kernel_rfl⟩
instance : FdT Tryd.prog 135 2 2 3 := ⟨fun a w => by kernel_rfl, fun cs w => by kernel_rfl⟩
instance : FdT Tryd.prog 135 3 3 32 := ⟨fun a w => by kernel_rfl, fun cs w => by kernel_rfl⟩
instance : FdT Tryd.prog 135 4 4 46 := ⟨fun a w => by kernel_rfl, fun cs w => by kernel_rfl⟩
instance : FdT Tryd.prog 135 5 5 3 := ⟨fun a w => by kernel_rfl, fun cs w => by kernel_rfl⟩
instance : FdT Tryd.prog 135 6 6 3 := ⟨fun a w => by kernel_rfl, fun cs w => by kernel_rfl⟩
instance : BldT Tryd.prog 135 [(0, 1), (1, 1), (2, 1), (3, 1), (4, 1), (5, 1), (6, 1)] [.int .i64 0, .bool false, .int .i64 0, .slice none 0 0, .slice none 0 0, .int .i64 0, .int .i64 0] := ⟨fun parts => by kernel_rfl⟩
instance : TyT Tryd.prog 136 7 true := ⟨fun w => Tryd.isAgg136 w, fun w => Tryd.sizeOf136 w⟩
instance : MkI Tryd.prog 136 := ⟨fun v w => by kernel_rfl⟩
instance : ZvT Tryd.prog 136 (.agg #[.int .i64 0, .bool false, .int .i64 0, .slice none 0 0, .slice none 0 0, .int .i64 0, .int .i64 0]) := ⟨fun w => Tryd.zeroValue136 w⟩
instance : FdT Tryd.prog 136 0 0 3 := ⟨fun a w => by kernel_rfl, fun cs w => by kernel_rfl⟩
instance : FdT Tryd.prog 136 1 1 4 := ⟨fun a w => by kernel_rfl, fun cs w => by kernel_rfl⟩
instance : FdT Tryd.prog 136 2 2 3 := ⟨fun a w => by kernel_rfl, fun cs w => by kernel_rfl⟩
instance : FdT Tryd.prog 136 3 3 32 := ⟨fun a w => by kernel_rfl, fun cs w => by kernel_rfl⟩
instance : FdT Tryd.prog 136 4 4 46 := ⟨fun a w => by kernel_rfl, fun cs w => by kernel_rfl⟩
instance : FdT Tryd.prog 136 5 5 3 := ⟨fun a w => by kernel_rfl, fun cs w => by kernel_rfl⟩
instance : FdT Tryd.prog 136 6 6 3 := ⟨fun a w => by kernel_rfl, fun cs w => by kernel_rfl⟩
instance : BldT Tryd.prog 136 [(0, 1), (1, 1), (2, 1), (3, 1), (4, 1), (5, 1), (6, 1)] [.int .i64 0, .bool false, .int .i64 0, .slice none 0 0, .slice none 0 0, .int .i64 0, .int .i64 0] := ⟨fun parts => by kernel_rfl⟩
instance : TyT Tryd.prog 148 1 false := ⟨fun w => Tryd.isAgg148 w, fun w => Tryd.sizeOf148 w⟩
instance : MkI Tryd.prog 148 := ⟨fun v w => by kernel_rfl⟩
instance : ZvT Tryd.prog 148 (.pointer none) := ⟨fun w => Tryd.zeroValue148 w⟩
instance : TyT Tryd.prog 151 1 false := ⟨fun w => Tryd.isAgg151 w, fun w => Tryd.sizeOf151 w⟩
instance : MkI Tryd.prog 151 := ⟨fun v w => by kernel_rfl⟩
instance : IntT Tryd.prog 151 .u64 := ⟨Tryd.underlying151⟩
instance : ZvT Tryd.prog 151 (.int .u64 0) := ⟨fun w => Tryd.zeroValue151 w⟩
instance : TyT Tryd.prog 152 1 false := ⟨fun w => Tryd.isAgg152 w, fun w => Tryd.sizeOf152 w⟩
instance : MkI Tryd.prog 152 := ⟨fun v w => by kernel_rfl⟩
instance : IntT Tryd.prog 152 .u64 := ⟨Tryd.underlying152⟩
instance : ZvT Tryd.prog 152 (.int .u64 0) := ⟨fun w => Tryd.zeroValue152 w⟩
instance : TyT Tryd.prog 154 4 true := ⟨fun w => Tryd.isAgg154 w, fun w => Tryd.sizeOf154 w⟩
instance : MkI Tryd.prog 154 := ⟨fun v w => by kernel_rfl⟩
instance : ZvT Tryd.prog 154 (.agg #[.int .i64 0, .int .i64 0, .int .i64 0, .int .i64 0]) := ⟨fun w => Tryd.zeroValue154 w⟩
instance : ArT Tryd.prog 154 4 3 1 := ⟨Tryd.underlying154, fun w => Tryd.sizeOf3 w⟩
instance : TyT Tryd.prog 155 1 false := ⟨fun w => Tryd.isAgg155 w, fun w => Tryd.sizeOf155 w⟩
instance : MkI Tryd.prog 155 := ⟨fun v w => by kernel_rfl⟩
instance : IntT Tryd.prog 155 .u32 := ⟨Tryd.underlying155⟩
instance : ZvT Tryd.prog 155 (.int .u32 0) := ⟨fun w => Tryd.zeroValue155 w⟩
instance : TyT Tryd.prog 156 1 false := ⟨fun w => Tryd.isAgg156 w, fun w => Tryd.sizeOf156 w⟩
instance : MkI Tryd.prog 156 := ⟨fun v w => by kernel_rfl⟩
instance : ZvT Tryd.prog 156 (.pointer none) := ⟨fun w => Tryd.zeroValue156 w⟩
instance : TyT Tryd.prog 157 1 false := ⟨fun w => Tryd.isAgg157 w, fun w => Tryd.sizeOf157 w⟩
instance : MkI Tryd.prog 157 := ⟨fun v w => by kernel_rfl⟩
instance : IntT Tryd.prog 157 .u64 := ⟨Tryd.underlying157⟩
instance : ZvT Tryd.prog 157 (.int .u64 0) := ⟨fun w => Tryd.zeroValue157 w⟩
instance : TyT Tryd.prog 158 3 true := ⟨fun w => Tryd.isAgg158 w, fun w => Tryd.sizeOf158 w⟩
instance : MkI Tryd.prog 158 := ⟨fun v w => by kernel_rfl⟩
instance : ZvT Tryd.prog 158 (.agg #[.pointer none, .pointer none, .int .u64 0]) := ⟨fun w => Tryd.zeroValue158 w⟩
instance : FdT Tryd.prog 158 0 0 17 := ⟨fun a w => by kernel_rfl, fun cs w => by kernel_rfl⟩
instance : FdT Tryd.prog 158 1 1 156 := ⟨fun a w => by kernel_rfl, fun cs w => by kernel_rfl⟩
instance : FdT Tryd.prog 158 2 2 157 := ⟨fun a w => by kernel_rfl, fun cs w => by kernel_rfl⟩
instance : BldT Tryd.prog 158 [(0, 1), (1, 1), (2, 1)] [.pointer none, .pointer none, .int .u64 0] := ⟨fun parts => by kernel_rfl⟩
instance : TyT Tryd.prog 159 3 true := ⟨fun w => Tryd.isAgg159 w, fun w => Tryd.sizeOf159 w⟩
instance : MkI Tryd.prog 159 := ⟨fun v w => by kernel_rfl⟩
instance : ZvT Tryd.prog 159 (.agg #[.pointer none, .pointer none, .int .u64 0]) := ⟨fun w => Tryd.zeroValue159 w⟩
instance : FdT Tryd.prog 159 0 0 17 := ⟨fun a w => by kernel_rfl, fun cs w => by kernel_rfl⟩
instance : FdT Tryd.prog 159 1 1 156 := ⟨fun a w => by kernel_rfl, fun cs w => by kernel_rfl⟩
instance : FdT Tryd.prog 159 2 2 157 := ⟨fun a w => by kernel_rfl, fun cs w => by kernel_rfl⟩
instance : BldT Tryd.prog 159 [(0, 1), (1, 1), (2, 1)] [.pointer none, .pointer none, .int .u64 0] := ⟨fun parts => by kernel_rfl⟩
instance : TyT Tryd.prog 161 1 false := ⟨fun w => Tryd.isAgg161 w, fun w => Tryd.sizeOf161 w⟩
instance : IfT Tryd.prog 161 := ⟨⟨_, Tryd.underlying161⟩⟩
instance : ZvT Tryd.prog 161 (.nilIface) := ⟨fun w => Tryd.zeroValue161 w⟩
instance : TyT Tryd.prog 162 1 false := ⟨fun w => Tryd.isAgg162 w, fun w => Tryd.sizeOf162 w⟩
instance : IfT Tryd.prog 162 := ⟨⟨_, Tryd.underlying162⟩⟩
instance : ZvT Tryd.prog 162 (.nilIface) := ⟨fun w => Tryd.zeroValue162 w⟩
instance : TyT Tryd.prog 164 1 false := ⟨fun w => Tryd.isAgg164 w, fun w => Tryd.sizeOf164 w⟩
instance : MkI Tryd.prog 164 := ⟨fun v w => by kernel_rfl⟩
instance : IntT Tryd.prog 164 .u8 := ⟨Tryd.underlying164⟩
instance : ZvT Tryd.prog 164 (.int .u8 0) := ⟨fun w => Tryd.zeroValue164 w⟩
instance : TyT Tryd.prog 169 1 true := ⟨fun w => Tryd.isAgg169 w, fun w => Tryd.sizeOf169 w⟩
instance : MkI Tryd.prog 169 := ⟨fun v w => by kernel_rfl⟩
instance : ZvT Tryd.prog 169 (.agg #[.pointer none]) := ⟨fun w => Tryd.zeroValue169 w⟩
instance : FdT Tryd.prog 169 0 0 17 := ⟨fun a w => by kernel_rfl, fun cs w => by kernel_rfl⟩
instance : BldT Tryd.prog 169 [(0, 1)] [.pointer none] := ⟨fun parts => by kernel_rfl⟩
instance : TyT Tryd.prog 170 1 true := ⟨fun w => Tryd.isAgg170 w, fun w => Tryd.sizeOf170 w⟩
instance : MkI Tryd.prog 170 := ⟨fun v w => by kernel_rfl⟩
instance : ZvT Tryd.prog 170 (.agg #[.pointer none]) := ⟨fun w => Tryd.zeroValue170 w⟩
instance : FdT Tryd.prog 170 0 0 17 := ⟨fun a w => by kernel_rfl, fun cs w => by kernel_rfl⟩
instance : BldT Tryd.prog 170 [(0, 1)] [.pointer none] := ⟨fun parts => by kernel_rfl⟩
instance : TyT Tryd.prog 171 1 false := ⟨fun w => Tryd.isAgg171 w, fun w => Tryd.sizeOf171 w⟩
instance : MkI Tryd.prog 171 := ⟨fun v w => by kernel_rfl⟩
instance : ZvT Tryd.prog 171 (.pointer none) := ⟨fun w => Tryd.zeroValue171 w⟩
instance : TyT Tryd.prog 175 1 false := ⟨fun w => Tryd.isAgg175 w, fun w => Tryd.sizeOf175 w⟩
instance : IfT Tryd.prog 175 := ⟨⟨_, Tryd.underlying175⟩⟩
instance : ZvT Tryd.prog 175 (.nilIface) := ⟨fun w => Tryd.zeroValue175 w⟩
instance : TyT Tryd.prog 178 1 false := ⟨fun w => Tryd.isAgg178 w, fun w => Tryd.sizeOf178 w⟩
instance : IfT Tryd.prog 178 := ⟨⟨_, Tryd.underlying178⟩⟩
instance : ZvT Tryd.prog 178 (.nilIface) := ⟨fun w => Tryd.zeroValue178 w⟩
instance : TyT Tryd.prog 180 1 false := ⟨fun w => Tryd.isAgg180 w, fun w => Tryd.sizeOf180 w⟩
instance : IfT Tryd.prog 180 := ⟨⟨_, Tryd.underlying180⟩⟩
instance : ZvT Tryd.prog 180 (.nilIface) := ⟨fun w => Tryd.zeroValue180 w⟩
instance : TyT Tryd.prog 181 1 false := ⟨fun w => Tryd.isAgg181 w, fun w => Tryd.sizeOf181 w⟩
instance : MkI Tryd.prog 181 := ⟨fun v w => by kernel_rfl⟩
instance : ZvT Tryd.prog 181 (.slice none 0 0) := ⟨fun w => Tryd.zeroValue181 w⟩
instance : SlT Tryd.prog 181 29 1 16 (.nilIface) := ⟨by kernel_rfl, by kernel_rfl, rfl, by decide, by decide⟩
instance : TyT Tryd.prog 184 4 true := ⟨fun w => Tryd.isAgg184 w, fun w => Tryd.sizeOf184 w⟩
instance : MkI Tryd.prog 184 := ⟨fun v w => by kernel_rfl⟩
instance : ZvT Tryd.prog 184 (.agg #[.pointer none, .pointer none, .pointer none, .string ⟨#[]⟩]) := ⟨fun w => Tryd.zeroValue184 w⟩
instance : FdT Tryd.prog 184 0 0 17 := ⟨fun a w => by kernel_rfl, fun cs w => by kernel_rfl⟩
instance : FdT Tryd.prog 184 1 1 17 := ⟨fun a w => by kernel_rfl, fun cs w => by kernel_rfl⟩
instance : FdT Tryd.prog 184 2 2 17 := ⟨fun a w => by kernel_rfl, fun cs w => by kernel_rfl⟩
instance : FdT Tryd.prog 184 3 3 9 := ⟨fun a w => by kernel_rfl, fun cs w => by kernel_rfl⟩
instance : BldT Tryd.prog 184 [(0, 1), (1, 1), (2, 1), (3, 1)] [.pointer none, .pointer none, .pointer none, .string ⟨#[]⟩] := ⟨fun parts => by kernel_rfl⟩
instance : TyT Tryd.prog 185 4 true := ⟨fun w => Tryd.isAgg185 w, fun w => Tryd.sizeOf185 w⟩
instance : MkI Tryd.prog 185 := ⟨fun v w => by kernel_rfl⟩
instance : ZvT Tryd.prog 185 (.agg #[.pointer none, .pointer none, .pointer none, .string ⟨#[]⟩]) := ⟨fun w => Tryd.zeroValue185 w⟩
instance : FdT Tryd.prog 185 0 0 17 := ⟨fun a w => by kernel_rfl, fun cs w => by kernel_rfl⟩
instance : FdT Tryd.prog 185 1 1 17 := ⟨fun a w => by kernel_rfl, fun cs w => by kernel_rfl⟩
instance : FdT Tryd.prog 185 2 2 17 := ⟨fun a w => by kernel_rfl, fun cs w => by kernel_rfl⟩
instance : FdT Tryd.prog 185 3 3 9 := ⟨fun a w => by kernel_rfl, fun cs w => by kernel_rfl⟩
instance : BldT Tryd.prog 185 [(0, 1), (1, 1), (2, 1), (3, 1)] [.pointer none, .pointer none, .pointer none, .string ⟨#[]⟩] := ⟨fun parts => by kernel_rfl⟩
instance : TyT Tryd.prog 186 0 true := ⟨fun w => Tryd.isAgg186 w, fun w => Tryd.sizeOf186 w⟩
instance : MkI Tryd.prog 186 := ⟨fun v w => by kernel_rfl⟩
instance : ZvT Tryd.prog 186 (.agg #[]) := ⟨fun w => Tryd.zeroValue186 w⟩
instance : ArT Tryd.prog 186 0 16 1 := ⟨Tryd.underlying186, fun w => Tryd.sizeOf16 w⟩
instance : TyT Tryd.prog 187 0 true := ⟨fun w => Tryd.isAgg187 w, fun w => Tryd.sizeOf187 w⟩
instance : MkI Tryd.prog 187 := ⟨fun v w => by kernel_rfl⟩
instance : ZvT Tryd.prog 187 (.agg #[]) := ⟨fun w => Tryd.zeroValue187 w⟩
instance : BldT Tryd.prog 187 [(0, 0)] [] := ⟨fun parts => by kernel_rfl⟩
instance : TyT Tryd.prog 188 0 true := ⟨fun w => Tryd.isAgg188 w, fun w => Tryd.sizeOf188 w⟩
instance : MkI Tryd.prog 188 := ⟨fun v w => by kernel_rfl⟩
instance : ZvT Tryd.prog 188 (.agg #[]) := ⟨fun w => Tryd.zeroValue188 w⟩
instance : BldT Tryd.prog 188 [(0, 0)] [] := ⟨fun parts => by kernel_rfl⟩
instance : TyT Tryd.prog 190 1 false := ⟨fun w => Tryd.isAgg190 w, fun w => Tryd.sizeOf190 w⟩
instance : MkI Tryd.prog 190 := ⟨fun v w => by kernel_rfl⟩
instance : IntT Tryd.prog 190 .u8 := ⟨Tryd.underlying190⟩
instance : ZvT Tryd.prog 190 (.int .u8 0) := ⟨fun w => Tryd.zeroValue190 w⟩
instance : TyT Tryd.prog 192 1 false := ⟨fun w => Tryd.isAgg192 w, fun w => Tryd.sizeOf192 w⟩
instance : MkI Tryd.prog 192 := ⟨fun v w => by kernel_rfl⟩
instance : ZvT Tryd.prog 192 (.pointer none) := ⟨fun w => Tryd.zeroValue192 w⟩
instance : TyT Tryd.prog 193 1 false := ⟨fun w => Tryd.isAgg193 w, fun w => Tryd.sizeOf193 w⟩
instance : MkI Tryd.prog 193 := ⟨fun v w => by kernel_rfl⟩
instance : IntT Tryd.prog 193 .i32 := ⟨Tryd.underlying193⟩
instance : ZvT Tryd.prog 193 (.int .i32 0) := ⟨fun w => Tryd.zeroValue193 w⟩
instance : TyT Tryd.prog 194 1 false := ⟨fun w => Tryd.isAgg194 w, fun w => Tryd.sizeOf194 w⟩
instance : MkI Tryd.prog 194 := ⟨fun v w => by kernel_rfl⟩
instance : IntT Tryd.prog 194 .i32 := ⟨Tryd.underlying194⟩
instance : ZvT Tryd.prog 194 (.int .i32 0) := ⟨fun w => Tryd.zeroValue194 w⟩
instance : TyT Tryd.prog 195 11 true := ⟨fun w => Tryd.isAgg195 w, fun w => Tryd.sizeOf195 w⟩
instance : MkI Tryd.prog 195 := ⟨fun v w => by kernel_rfl⟩
instance : ZvT Tryd.prog 195 (.agg #[.int .u64 0, .int .u64 0, .int .u32 0, .int .u8 0, .int .u8 0, .int .u8 0, .int .u8 0, .nilFunc, .pointer none, .int .i32 0, .int .i32 0]) := ⟨fun w => Tryd.zeroValue195 w⟩
instance : FdT Tryd.prog 195 0 0 12 := ⟨fun a w => by kernel_rfl, fun cs w => by kernel_rfl⟩
instance : FdT Tryd.prog 195 1 1 12 := ⟨fun a w => by kernel_rfl, fun cs w => by kernel_rfl⟩
instance : FdT Tryd.prog 195 2 2 155 := ⟨fun a w => by kernel_rfl, fun cs w => by kernel_rfl⟩
instance : FdT Tryd.prog 195 3 3 190 := ⟨fun a w => by kernel_rfl, fun cs w => by kernel_rfl⟩
instance : FdT Tryd.prog 195 4 4 5 := ⟨fun a w => by kernel_rfl, fun cs w => by kernel_rfl⟩
instance : FdT Tryd.prog 195 5 5 5 := ⟨fun a w => by kernel_rfl, fun cs w => by kernel_rfl⟩
instance : FdT Tryd.prog 195 6 6 164 := ⟨fun a w => by kernel_rfl, fun cs w => by kernel_rfl⟩
instance : FdT Tryd.prog 195 8 8 192 := ⟨fun a w => by kernel_rfl, fun cs w => by kernel_rfl⟩
instance : FdT Tryd.prog 195 9 9 193 := ⟨fun a w => by kernel_rfl, fun cs w => by kernel_rfl⟩
instance : FdT Tryd.prog 195 10 10 194 := ⟨fun a w => by kernel_rfl, fun cs w => by kernel_rfl⟩
instance : TyT Tryd.prog 196 11 true := ⟨fun w => Tryd.isAgg196 w, fun w => Tryd.sizeOf196 w⟩
instance : MkI Tryd.prog 196 := ⟨fun v w => by kernel_rfl⟩
instance : ZvT Tryd.prog 196 (.agg #[.int .u64 0, .int .u64 0, .int .u32 0, .int .u8 0, .int .u8 0, .int .u8 0, .int .u8 0, .nilFunc, .pointer none, .int .i32 0, .int .i32 0]) := ⟨fun w => Tryd.zeroValue196 w⟩
instance : FdT Tryd.prog 196 0 0 12 := ⟨fun a w => by kernel_rfl, fun cs w => by kernel_rfl⟩
instance : FdT Tryd.prog 196 1 1 12 := ⟨fun a w => by kernel_rfl, fun cs w => by kernel_rfl⟩
instance : FdT Tryd.prog 196 2 2 155 := ⟨fun a w => by kernel_rfl, fun cs w => by kernel_rfl⟩
instance : FdT Tryd.prog 196 3 3 190 := ⟨fun a w => by kernel_rfl, fun cs w => by kernel_rfl⟩
instance : FdT Tryd.prog 196 4 4 5 := ⟨fun a w => by kernel_rfl, fun cs w => by kernel_rfl⟩
instance : FdT Tryd.prog 196 5 5 5 := ⟨fun a w => by kernel_rfl, fun cs w => by kernel_rfl⟩
instance : FdT Tryd.prog 196 6 6 164 := ⟨fun a w => by kernel_rfl, fun cs w => by kernel_rfl⟩
instance : FdT Tryd.prog 196 8 8 192 := ⟨fun a w => by kernel_rfl, fun cs w => by kernel_rfl⟩
instance : FdT Tryd.prog 196 9 9 193 := ⟨fun a w => by kernel_rfl, fun cs w => by kernel_rfl⟩
instance : FdT Tryd.prog 196 10 10 194 := ⟨fun a w => by kernel_rfl, fun cs w => by kernel_rfl⟩
instance : TyT Tryd.prog 199 2 true := ⟨fun w => Tryd.isAgg199 w, fun w => Tryd.sizeOf199 w⟩
instance : MkI Tryd.prog 199 := ⟨fun v w => by kernel_rfl⟩
instance : ZvT Tryd.prog 199 (.agg #[.string ⟨#[]⟩, .int .u8 0]) := ⟨fun w => Tryd.zeroValue199 w⟩
instance : FdT Tryd.prog 199 0 0 9 := ⟨fun a w => by kernel_rfl, fun cs w => by kernel_rfl⟩
instance : FdT Tryd.prog 199 1 1 164 := ⟨fun a w => by kernel_rfl, fun cs w => by kernel_rfl⟩
instance : BldT Tryd.prog 199 [(0, 1), (1, 1)] [.string ⟨#[]⟩, .int .u8 0] := ⟨fun parts => by kernel_rfl⟩
instance : TyT Tryd.prog 200 2 true := ⟨fun w => Tryd.isAgg200 w, fun w => Tryd.sizeOf200 w⟩
instance : MkI Tryd.prog 200 := ⟨fun v w => by kernel_rfl⟩
instance : ZvT Tryd.prog 200 (.agg #[.string ⟨#[]⟩, .int .u8 0]) := ⟨fun w => Tryd.zeroValue200 w⟩
instance : FdT Tryd.prog 200 0 0 9 := ⟨fun a w => by kernel_rfl, fun cs w => by kernel_rfl⟩
instance : FdT Tryd.prog 200 1 1 164 := ⟨fun a w => by kernel_rfl, fun cs w => by kernel_rfl⟩
instance : BldT Tryd.prog 200 [(0, 1), (1, 1)] [.string ⟨#[]⟩, .int .u8 0] := ⟨fun parts => by kernel_rfl⟩
instance : TyT Tryd.prog 201 1 false := ⟨fun w => Tryd.isAgg201 w, fun w => Tryd.sizeOf201 w⟩
instance : MkI Tryd.prog 201 := ⟨fun v w => by kernel_rfl⟩
instance : ZvT Tryd.prog 201 (.pointer none) := ⟨fun w => Tryd.zeroValue201 w⟩
instance : TyT Tryd.prog 203 1 false := ⟨fun w => Tryd.isAgg203 w, fun w => Tryd.sizeOf203 w⟩
instance : MkI Tryd.prog 203 := ⟨fun v w => by kernel_rfl⟩
instance : IntT Tryd.prog 203 .u16 := ⟨Tryd.underlying203⟩
instance : ZvT Tryd.prog 203 (.int .u16 0) := ⟨fun w => Tryd.zeroValue203 w⟩
instance : TyT Tryd.prog 204 5 true := ⟨fun w => Tryd.isAgg204 w, fun w => Tryd.sizeOf204 w⟩
instance : MkI Tryd.prog 204 := ⟨fun v w => by kernel_rfl⟩
instance : ZvT Tryd.prog 204 (.agg #[.int .i32 0, .int .u16 0, .int .u16 0, .int .u32 0, .int .u32 0]) := ⟨fun w => Tryd.zeroValue204 w⟩
instance : FdT Tryd.prog 204 0 0 193 := ⟨fun a w => by kernel_rfl, fun cs w => by kernel_rfl⟩
instance : FdT Tryd.prog 204 1 1 203 := ⟨fun a w => by kernel_rfl, fun cs w => by kernel_rfl⟩
instance : FdT Tryd.prog 204 2 2 203 := ⟨fun a w => by kernel_rfl, fun cs w => by kernel_rfl⟩
instance : FdT Tryd.prog 204 3 3 155 := ⟨fun a w => by kernel_rfl, fun cs w => by kernel_rfl⟩
instance : FdT Tryd.prog 204 4 4 155 := ⟨fun a w => by kernel_rfl, fun cs w => by kernel_rfl⟩
instance : BldT Tryd.prog 204 [(0, 1), (1, 1), (2, 1), (3, 1), (4, 1)] [.int .i32 0, .int .u16 0, .int .u16 0, .int .u32 0, .int .u32 0] := ⟨fun parts => by kernel_rfl⟩
instance : TyT Tryd.prog 205 5 true := ⟨fun w => Tryd.isAgg205 w, fun w => Tryd.sizeOf205 w⟩
instance : MkI Tryd.prog 205 := ⟨fun v w => by kernel_rfl⟩
instance : ZvT Tryd.prog 205 (.agg #[.int .i32 0, .int .u16 0, .int .u16 0, .int .u32 0, .int .u32 0]) := ⟨fun w => Tryd.zeroValue205 w⟩
instance : FdT Tryd.prog 205 0 0 193 := ⟨fun a w => by kernel_rfl, fun cs w => by kernel_rfl⟩
instance : FdT Tryd.prog 205 1 1 203 := ⟨fun a w => by kernel_rfl, fun cs w => by kernel_rfl⟩
instance : FdT Tryd.prog 205 2 2 203 := ⟨fun a w => by kernel_rfl, fun cs w => by kernel_rfl⟩
instance : FdT Tryd.prog 205 3 3 155 := ⟨fun a w => by kernel_rfl, fun cs w => by kernel_rfl⟩
instance : FdT Tryd.prog 205 4 4 155 := ⟨fun a w => by kernel_rfl, fun cs w => by kernel_rfl⟩
instance : BldT Tryd.prog 205 [(0, 1), (1, 1), (2, 1), (3, 1), (4, 1)] [.int .i32 0, .int .u16 0, .int .u16 0, .int .u32 0, .int .u32 0] := ⟨fun parts => by kernel_rfl⟩
instance : TyT Tryd.prog 206 1 false := ⟨fun w => Tryd.isAgg206 w, fun w => Tryd.sizeOf206 w⟩
instance : MkI Tryd.prog 206 := ⟨fun v w => by kernel_rfl⟩
instance : ZvT Tryd.prog 206 (.slice none 0 0) := ⟨fun w => Tryd.zeroValue206 w⟩
instance : SlT Tryd.prog 206 209 4 16 (.agg #[.int .i32 0, .int .i32 0, .int .i32 0, .int .i32 0]) := ⟨by kernel_rfl, by kernel_rfl, rfl, by decide, by decide⟩
instance : TyT Tryd.prog 207 1 false := ⟨fun w => Tryd.isAgg207 w, fun w => Tryd.sizeOf207 w⟩
instance : MkI Tryd.prog 207 := ⟨fun v w => by kernel_rfl⟩
instance : IntT Tryd.prog 207 .i32 := ⟨Tryd.underlying207⟩
instance : ZvT Tryd.prog 207 (.int .i32 0) := ⟨fun w => Tryd.zeroValue207 w⟩
instance : TyT Tryd.prog 208 4 true := ⟨fun w => Tryd.isAgg208 w, fun w => Tryd.sizeOf208 w⟩
instance : MkI Tryd.prog 208 := ⟨fun v w => by kernel_rfl⟩
instance : ZvT Tryd.prog 208 (.agg #[.int .i32 0, .int .i32 0, .int .i32 0, .int .i32 0]) := ⟨fun w => Tryd.zeroValue208 w⟩
instance : FdT Tryd.prog 208 0 0 193 := ⟨fun a w => by kernel_rfl, fun cs w => by kernel_rfl⟩
instance : FdT Tryd.prog 208 1 1 194 := ⟨fun a w => by kernel_rfl, fun cs w => by kernel_rfl⟩
instance : FdT Tryd.prog 208 2 2 207 := ⟨fun a w => by kernel_rfl, fun cs w => by kernel_rfl⟩
instance : FdT Tryd.prog 208 3 3 207 := ⟨fun a w => by kernel_rfl, fun cs w => by kernel_rfl⟩
instance : BldT Tryd.prog 208 [(0, 1), (1, 1), (2, 1), (3, 1)] [.int .i32 0, .int .i32 0, .int .i32 0, .int .i32 0] := ⟨fun parts => by kernel_rfl⟩
instance : TyT Tryd.prog 209 4 true := ⟨fun w => Tryd.isAgg209 w, fun w => Tryd.sizeOf209 w⟩
instance : MkI Tryd.prog 209 := ⟨fun v w => by kernel_rfl⟩
instance : ZvT Tryd.prog 209 (.agg #[.int .i32 0, .int .i32 0, .int .i32 0, .int .i32 0]) := ⟨fun w => Tryd.zeroValue209 w⟩
instance : FdT Tryd.prog 209 0 0 193 := ⟨fun a w => by kernel_rfl, fun cs w => by kernel_rfl⟩
instance : FdT Tryd.prog 209 1 1 194 := ⟨fun a w => by kernel_rfl, fun cs w => by kernel_rfl⟩
instance : FdT Tryd.prog 209 2 2 207 := ⟨fun a w => by kernel_rfl, fun cs w => by kernel_rfl⟩
instance : FdT Tryd.prog 209 3 3 207 := ⟨fun a w => by kernel_rfl, fun cs w => by kernel_rfl⟩
instance : BldT Tryd.prog 209 [(0, 1), (1, 1), (2, 1), (3, 1)] [.int .i32 0, .int .i32 0, .int .i32 0, .int .i32 0] := ⟨fun parts => by kernel_rfl⟩
instance : TyT Tryd.prog 210 1 false := ⟨fun w => Tryd.isAgg210 w, fun w => Tryd.sizeOf210 w⟩
instance : MkI Tryd.prog 210 := ⟨fun v w => by kernel_rfl⟩
instance : ZvT Tryd.prog 210 (.pointer none) := ⟨fun w => Tryd.zeroValue210 w⟩
/- Functions with a body. -/
instance : CalT Tryd.prog 2 := ⟨fun args w => Tryd.call2 args w⟩
instance : CalT Tryd.prog 3 := ⟨fun args w => Tryd.call3 args w⟩
instance : CalT Tryd.prog 4 := ⟨fun args w => Tryd.call4 args w⟩
instance : CalT Tryd.prog 5 := ⟨fun args w => Tryd.call5 args w⟩
instance : CalT Tryd.prog 6 := ⟨fun args w => Tryd.call6 args w⟩
instance : CalT Tryd.prog 7 := ⟨fun args w => Tryd.call7 args w⟩
instance : CalT Tryd.prog 8 := ⟨fun args w => Tryd.call8 args w⟩
instance : CalT Tryd.prog 9 := ⟨fun args w => Tryd.call9 args w⟩
instance : CalT Tryd.prog 10 := ⟨fun args w => Tryd.call10 args w⟩
instance : CalT Tryd.prog 11 := ⟨fun args w => Tryd.call11 args w⟩
instance : CalT Tryd.prog 12 := ⟨fun args w => Tryd.call12 args w⟩
instance : CalT Tryd.prog 13 := ⟨fun args w => Tryd.call13 args w⟩
instance : CalT Tryd.prog 14 := ⟨fun args w => Tryd.call14 args w⟩
instance : CalT Tryd.prog 15 := ⟨fun args w => Tryd.call15 args w⟩
instance : CalT Tryd.prog 16 := ⟨fun args w => Tryd.call16 args w⟩
instance : CalT Tryd.prog 17 := ⟨fun args w => Tryd.call17 args w⟩
instance : CalT Tryd.prog 18 := ⟨fun args w => Tryd.call18 args w⟩
instance : CalT Tryd.prog 19 := ⟨fun args w => Tryd.call19 args w⟩
instance : CalT Tryd.prog 20 := ⟨fun args w => Tryd.call20 args w⟩
instance : CalT Tryd.prog 21 := ⟨fun args w => Tryd.call21 args w⟩
instance : CalT Tryd.prog 22 := ⟨fun args w => Tryd.call22 args w⟩
instance : CalT Tryd.prog 23 := ⟨fun args w => Tryd.call23 args w⟩
instance : CalT Tryd.prog 24 := ⟨fun args w => Tryd.call24 args w⟩
instance : CalT Tryd.prog 25 := ⟨fun args w => Tryd.call25 args w⟩
instance : CalT Tryd.prog 26 := ⟨fun args w => Tryd.call26 args w⟩
instance : CalT Tryd.prog 27 := ⟨fun args w => Tryd.call27 args w⟩
instance : CalT Tryd.prog 28 := ⟨fun args w => Tryd.call28 args w⟩
instance : CalT Tryd.prog 29 := ⟨fun args w => Tryd.call29 args w⟩
instance : CalT Tryd.prog 30 := ⟨fun args w => Tryd.call30 args w⟩
instance : CalT Tryd.prog 31 := ⟨fun args w => Tryd.call31 args w⟩
instance : CalT Tryd.prog 32 := ⟨fun args w => Tryd.call32 args w⟩
instance : CalT Tryd.prog 33 := ⟨fun args w => Tryd.call33 args w⟩
instance : CalT Tryd.prog 34 := ⟨fun args w => Tryd.call34 args w⟩
instance : CalT Tryd.prog 35 := ⟨fun args w => Tryd.call35 args w⟩
instance : CalT Tryd.prog 36 := ⟨fun args w => Tryd.call36 args w⟩
instance : CalT Tryd.prog 37 := ⟨fun args w => Tryd.call37 args w⟩
instance : CalT Tryd.prog 38 := ⟨fun args w => Tryd.call38 args w⟩
instance : CalT Tryd.prog 39 := ⟨fun args w => Tryd.call39 args w⟩
instance : CalT Tryd.prog 40 := ⟨fun args w => Tryd.call40 args w⟩
instance : CalT Tryd.prog 41 := ⟨fun args w => Tryd.call41 args w⟩
instance : CalT Tryd.prog 42 := ⟨fun args w => Tryd.call42 args w⟩
instance : CalT Tryd.prog 43 := ⟨fun args w => Tryd.call43 args w⟩
instance : CalT Tryd.prog 44 := ⟨fun args w => Tryd.call44 args w⟩
instance : CalT Tryd.prog 45 := ⟨fun args w => Tryd.call45 args w⟩
instance : CalT Tryd.prog 46 := ⟨fun args w => Tryd.call46 args w⟩
instance : CalT Tryd.prog 47 := ⟨fun args w => Tryd.call47 args w⟩
instance : CalT Tryd.prog 48 := ⟨fun args w => Tryd.call48 args w⟩
instance : CalT Tryd.prog 49 := ⟨fun args w => Tryd.call49 args w⟩
instance : CalT Tryd.prog 50 := ⟨fun args w => Tryd.call50 args w⟩
instance : CalT Tryd.prog 51 := ⟨fun args w => Tryd.call51 args w⟩
instance : CalT Tryd.prog 52 := ⟨fun args w => Tryd.call52 args w⟩
instance : CalT Tryd.prog 53 := ⟨fun args w => Tryd.call53 args w⟩
instance : CalT Tryd.prog 54 := ⟨fun args w => Tryd.call54 args w⟩
instance : CalT Tryd.prog 55 := ⟨fun args w => Tryd.call55 args w⟩
instance : CalT Tryd.prog 56 := ⟨fun args w => Tryd.call56 args w⟩
instance : CalT Tryd.prog 57 := ⟨fun args w => Tryd.call57 args w⟩
instance : CalT Tryd.prog 58 := ⟨fun args w => Tryd.call58 args w⟩
instance : CalT Tryd.prog 59 := ⟨fun args w => Tryd.call59 args w⟩
instance : CalT Tryd.prog 60 := ⟨fun args w => Tryd.call60 args w⟩
instance : CalT Tryd.prog 61 := ⟨fun args w => Tryd.call61 args w⟩
instance : CalT Tryd.prog 62 := ⟨fun args w => Tryd.call62 args w⟩
instance : CalT Tryd.prog 63 := ⟨fun args w => Tryd.call63 args w⟩
instance : CalT Tryd.prog 64 := ⟨fun args w => Tryd.call64 args w⟩
instance : CalT Tryd.prog 65 := ⟨fun args w => Tryd.call65 args w⟩
instance : CalT Tryd.prog 66 := ⟨fun args w => Tryd.call66 args w⟩
instance : CalT Tryd.prog 67 := ⟨fun args w => Tryd.call67 args w⟩
instance : CalT Tryd.prog 68 := ⟨fun args w => Tryd.call68 args w⟩
instance : CalT Tryd.prog 69 := ⟨fun args w => Tryd.call69 args w⟩
instance : CalT Tryd.prog 70 := ⟨fun args w => Tryd.call70 args w⟩
instance : CalT Tryd.prog 71 := ⟨fun args w => Tryd.call71 args w⟩
instance : CalT Tryd.prog 72 := ⟨fun args w => Tryd.call72 args w⟩
instance : CalT Tryd.prog 73 := ⟨fun args w => Tryd.call73 args w⟩
instance : CalT Tryd.prog 74 := ⟨fun args w => Tryd.call74 args w⟩
instance : CalT Tryd.prog 75 := ⟨fun args w => Tryd.call75 args w⟩
instance : CalT Tryd.prog 76 := ⟨fun args w => Tryd.call76 args w⟩
instance : CalT Tryd.prog 77 := ⟨fun args w => Tryd.call77 args w⟩
instance : CalT Tryd.prog 78 := ⟨fun args w => Tryd.call78 args w⟩
instance : CalT Tryd.prog 79 := ⟨fun args w => Tryd.call79 args w⟩
instance : CalT Tryd.prog 80 := ⟨fun args w => Tryd.call80 args w⟩
instance : CalT Tryd.prog 81 := ⟨fun args w => Tryd.call81 args w⟩
instance : CalT Tryd.prog 82 := ⟨fun args w => Tryd.call82 args w⟩
instance : CalT Tryd.prog 83 := ⟨fun args w => Tryd.call83 args w⟩
instance : CalT Tryd.prog 84 := ⟨fun args w => Tryd.call84 args w⟩
instance : CalT Tryd.prog 88 := ⟨fun args w => Tryd.call88 args w⟩
instance : CalT Tryd.prog 89 := ⟨fun args w => Tryd.call89 args w⟩
instance : CalT Tryd.prog 129 := ⟨fun args w => Tryd.call129 args w⟩
end Go.Proofs.YtmocpeekdfkegaaDoor
