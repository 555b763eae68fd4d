/- The seat's types and functions, as instances. Printed by wip/tools/types.py. -/
import Derived.Test.YtejndjmlgacffaaDoorEngB
import Derived.Test.YtejndjmlgacffaaDoorProg
import Derived.KernelRfl
namespace Go.Proofs.YtejndjmlgacffaaDoor
open Go.Port
instance : TyT Tryd.prog 2 1 false := ⟨fun w => Tryd.isAgg2 w, fun w => Tryd.sizeOf2 w⟩
instance : MkI Tryd.prog 2 := ⟨fun v w => by kernel_rfl⟩
instance : IntT Tryd.prog 2 .i64 := ⟨Tryd.underlying2⟩
instance : ZvT Tryd.prog 2 (.int .i64 0) := ⟨fun w => Tryd.zeroValue2 w⟩
instance : TyT Tryd.prog 3 1 false := ⟨fun w => Tryd.isAgg3 w, fun w => Tryd.sizeOf3 w⟩
instance : MkI Tryd.prog 3 := ⟨fun v w => by kernel_rfl⟩
instance : IntT Tryd.prog 3 .i64 := ⟨Tryd.underlying3⟩
instance : ZvT Tryd.prog 3 (.int .i64 0) := ⟨fun w => Tryd.zeroValue3 w⟩
instance : TyT Tryd.prog 4 1 false := ⟨fun w => Tryd.isAgg4 w, fun w => Tryd.sizeOf4 w⟩
instance : MkI Tryd.prog 4 := ⟨fun v w => by kernel_rfl⟩
instance : ZvT Tryd.prog 4 (.bool false) := ⟨fun w => Tryd.zeroValue4 w⟩
instance : TyT Tryd.prog 5 1 false := ⟨fun w => Tryd.isAgg5 w, fun w => Tryd.sizeOf5 w⟩
instance : MkI Tryd.prog 5 := ⟨fun v w => by kernel_rfl⟩
instance : IntT Tryd.prog 5 .u8 := ⟨Tryd.underlying5⟩
instance : ZvT Tryd.prog 5 (.int .u8 0) := ⟨fun w => Tryd.zeroValue5 w⟩
instance : TyT Tryd.prog 6 1 false := ⟨fun w => Tryd.isAgg6 w, fun w => Tryd.sizeOf6 w⟩
instance : MkI Tryd.prog 6 := ⟨fun v w => by kernel_rfl⟩
instance : IntT Tryd.prog 6 .u8 := ⟨Tryd.underlying6⟩
instance : ZvT Tryd.prog 6 (.int .u8 0) := ⟨fun w => Tryd.zeroValue6 w⟩
instance : TyT Tryd.prog 7 4 true := ⟨fun w => Tryd.isAgg7 w, fun w => Tryd.sizeOf7 w⟩
instance : MkI Tryd.prog 7 := ⟨fun v w => by kernel_rfl⟩
instance : ZvT Tryd.prog 7 (.agg #[.int .i64 0, .int .i64 0, .bool false, .int .u8 0]) := ⟨fun w => Tryd.zeroValue7 w⟩
instance : FdT Tryd.prog 7 0 0 2 := ⟨fun a w => by kernel_rfl, fun cs w => by kernel_rfl⟩
instance : FdT Tryd.prog 7 1 1 3 := ⟨fun a w => by kernel_rfl, fun cs w => by kernel_rfl⟩
instance : FdT Tryd.prog 7 2 2 4 := ⟨fun a w => by kernel_rfl, fun cs w => by kernel_rfl⟩
instance : FdT Tryd.prog 7 3 3 6 := ⟨fun a w => by kernel_rfl, fun cs w => by kernel_rfl⟩
instance : BldT Tryd.prog 7 [(0, 1), (1, 1), (2, 1), (3, 1)] [.int .i64 0, .int .i64 0, .bool false, .int .u8 0] := ⟨fun parts => by kernel_rfl⟩
instance : TyT Tryd.prog 8 4 true := ⟨fun w => Tryd.isAgg8 w, fun w => Tryd.sizeOf8 w⟩
instance : MkI Tryd.prog 8 := ⟨fun v w => by kernel_rfl⟩
instance : ZvT Tryd.prog 8 (.agg #[.int .i64 0, .int .i64 0, .bool false, .int .u8 0]) := ⟨fun w => Tryd.zeroValue8 w⟩
instance : FdT Tryd.prog 8 0 0 2 := ⟨fun a w => by kernel_rfl, fun cs w => by kernel_rfl⟩
instance : FdT Tryd.prog 8 1 1 3 := ⟨fun a w => by kernel_rfl, fun cs w => by kernel_rfl⟩
instance : FdT Tryd.prog 8 2 2 4 := ⟨fun a w => by kernel_rfl, fun cs w => by kernel_rfl⟩
instance : FdT Tryd.prog 8 3 3 6 := ⟨fun a w => by kernel_rfl, fun cs w => by kernel_rfl⟩
instance : BldT Tryd.prog 8 [(0, 1), (1, 1), (2, 1), (3, 1)] [.int .i64 0, .int .i64 0, .bool false, .int .u8 0] := ⟨fun parts => by kernel_rfl⟩
instance : TyT Tryd.prog 9 1 false := ⟨fun w => Tryd.isAgg9 w, fun w => Tryd.sizeOf9 w⟩
instance : MkI Tryd.prog 9 := ⟨fun v w => by kernel_rfl⟩
instance : StrT Tryd.prog 9 := ⟨Tryd.underlying9⟩
instance : ZvT Tryd.prog 9 (.string ⟨#[]⟩) := ⟨fun w => Tryd.zeroValue9 w⟩
instance : TyT Tryd.prog 10 1 false := ⟨fun w => Tryd.isAgg10 w, fun w => Tryd.sizeOf10 w⟩
instance : MkI Tryd.prog 10 := ⟨fun v w => by kernel_rfl⟩
instance : StrT Tryd.prog 10 := ⟨Tryd.underlying10⟩
instance : ZvT Tryd.prog 10 (.string ⟨#[]⟩) := ⟨fun w => Tryd.zeroValue10 w⟩
instance : TyT Tryd.prog 11 1 false := ⟨fun w => Tryd.isAgg11 w, fun w => Tryd.sizeOf11 w⟩
instance : MkI Tryd.prog 11 := ⟨fun v w => by kernel_rfl⟩
instance : StrT Tryd.prog 11 := ⟨Tryd.underlying11⟩
instance : ZvT Tryd.prog 11 (.string ⟨#[]⟩) := ⟨fun w => Tryd.zeroValue11 w⟩
instance : TyT Tryd.prog 12 1 false := ⟨fun w => Tryd.isAgg12 w, fun w => Tryd.sizeOf12 w⟩
instance : MkI Tryd.prog 12 := ⟨fun v w => by kernel_rfl⟩
instance : IntT Tryd.prog 12 .u64 := ⟨Tryd.underlying12⟩
instance : ZvT Tryd.prog 12 (.int .u64 0) := ⟨fun w => Tryd.zeroValue12 w⟩
instance : TyT Tryd.prog 13 2 true := ⟨fun w => Tryd.isAgg13 w, fun w => Tryd.sizeOf13 w⟩
instance : MkI Tryd.prog 13 := ⟨fun v w => by kernel_rfl⟩
instance : ZvT Tryd.prog 13 (.agg #[.string ⟨#[]⟩, .int .u64 0]) := ⟨fun w => Tryd.zeroValue13 w⟩
instance : FdT Tryd.prog 13 0 0 9 := ⟨fun a w => by kernel_rfl, fun cs w => by kernel_rfl⟩
instance : FdT Tryd.prog 13 1 1 12 := ⟨fun a w => by kernel_rfl, fun cs w => by kernel_rfl⟩
instance : BldT Tryd.prog 13 [(0, 1), (1, 1)] [.string ⟨#[]⟩, .int .u64 0] := ⟨fun parts => by kernel_rfl⟩
instance : TyT Tryd.prog 14 2 true := ⟨fun w => Tryd.isAgg14 w, fun w => Tryd.sizeOf14 w⟩
instance : MkI Tryd.prog 14 := ⟨fun v w => by kernel_rfl⟩
instance : ZvT Tryd.prog 14 (.agg #[.string ⟨#[]⟩, .int .u64 0]) := ⟨fun w => Tryd.zeroValue14 w⟩
instance : FdT Tryd.prog 14 0 0 9 := ⟨fun a w => by kernel_rfl, fun cs w => by kernel_rfl⟩
instance : FdT Tryd.prog 14 1 1 12 := ⟨fun a w => by kernel_rfl, fun cs w => by kernel_rfl⟩
instance : BldT Tryd.prog 14 [(0, 1), (1, 1)] [.string ⟨#[]⟩, .int .u64 0] := ⟨fun parts => by kernel_rfl⟩
instance : TyT Tryd.prog 15 1 false := ⟨fun w => Tryd.isAgg15 w, fun w => Tryd.sizeOf15 w⟩
instance : MkI Tryd.prog 15 := ⟨fun v w => by kernel_rfl⟩
instance : ZvT Tryd.prog 15 (.pointer none) := ⟨fun w => Tryd.zeroValue15 w⟩
instance : TyT Tryd.prog 16 1 false := ⟨fun w => Tryd.isAgg16 w, fun w => Tryd.sizeOf16 w⟩
instance : MkI Tryd.prog 16 := ⟨fun v w => by kernel_rfl⟩
instance : ZvT Tryd.prog 16 (.pointer none) := ⟨fun w => Tryd.zeroValue16 w⟩
instance : TyT Tryd.prog 17 1 false := ⟨fun w => Tryd.isAgg17 w, fun w => Tryd.sizeOf17 w⟩
instance : MkI Tryd.prog 17 := ⟨fun v w => by kernel_rfl⟩
instance : ZvT Tryd.prog 17 (.pointer none) := ⟨fun w => Tryd.zeroValue17 w⟩
instance : TyT Tryd.prog 18 1 true := ⟨fun w => Tryd.isAgg18 w, fun w => Tryd.sizeOf18 w⟩
instance : MkI Tryd.prog 18 := ⟨fun v w => by kernel_rfl⟩
instance : ZvT Tryd.prog 18 (.agg #[.pointer none]) := ⟨fun w => Tryd.zeroValue18 w⟩
instance : FdT Tryd.prog 18 0 0 17 := ⟨fun a w => by kernel_rfl, fun cs w => by kernel_rfl⟩
instance : BldT Tryd.prog 18 [(0, 1)] [.pointer none] := ⟨fun parts => by kernel_rfl⟩
instance : TyT Tryd.prog 19 1 true := ⟨fun w => Tryd.isAgg19 w, fun w => Tryd.sizeOf19 w⟩
instance : MkI Tryd.prog 19 := ⟨fun v w => by kernel_rfl⟩
instance : ZvT Tryd.prog 19 (.agg #[.pointer none]) := ⟨fun w => Tryd.zeroValue19 w⟩
instance : FdT Tryd.prog 19 0 0 17 := ⟨fun a w => by kernel_rfl, fun cs w => by kernel_rfl⟩
instance : BldT Tryd.prog 19 [(0, 1)] [.pointer none] := ⟨fun parts => by kernel_rfl⟩
instance : TyT Tryd.prog 20 1 false := ⟨fun w => Tryd.isAgg20 w, fun w => Tryd.sizeOf20 w⟩
instance : IfT Tryd.prog 20 := ⟨⟨_, Tryd.underlying20⟩⟩
instance : ZvT Tryd.prog 20 (.nilIface) := ⟨fun w => Tryd.zeroValue20 w⟩
instance : TyT Tryd.prog 21 1 false := ⟨fun w => Tryd.isAgg21 w, fun w => Tryd.sizeOf21 w⟩
instance : MkI Tryd.prog 21 := ⟨fun v w => by kernel_rfl⟩
instance : IntT Tryd.prog 21 .i32 := ⟨Tryd.underlying21⟩
instance : ZvT Tryd.prog 21 (.int .i32 0) := ⟨fun w => Tryd.zeroValue21 w⟩
instance : TyT Tryd.prog 22 1 false := ⟨fun w => Tryd.isAgg22 w, fun w => Tryd.sizeOf22 w⟩
instance : MkI Tryd.prog 22 := ⟨fun v w => by kernel_rfl⟩
instance : ZvT Tryd.prog 22 (.slice none 0 0) := ⟨fun w => Tryd.zeroValue22 w⟩
instance : SlT Tryd.prog 22 29 11 104 (.agg #[.bool false, .bool false, .bool false, .int .i64 0, .int .i64 0, .int .i64 0, .int .i64 0, .int .i64 0, .int .i64 0, .slice none 0 0, .slice none 0 0]) := ⟨by kernel_rfl, by kernel_rfl, rfl, by decide, by decide⟩
instance : TyT Tryd.prog 23 1 false := ⟨fun w => Tryd.isAgg23 w, fun w => Tryd.sizeOf23 w⟩
instance : MkI Tryd.prog 23 := ⟨fun v w => by kernel_rfl⟩
instance : ZvT Tryd.prog 23 (.slice none 0 0) := ⟨fun w => Tryd.zeroValue23 w⟩
instance : SlT Tryd.prog 23 31 13 120 (.agg #[.int .i64 0, .bool false, .bool false, .bool false, .bool false, .int .i64 0, .int .i64 0, .int .i64 0, .int .i64 0, .int .i64 0, .int .i64 0, .slice none 0 0, .slice none 0 0]) := ⟨by kernel_rfl, by kernel_rfl, rfl, by decide, by decide⟩
instance : TyT Tryd.prog 25 2 true := ⟨fun w => Tryd.isAgg25 w, fun w => Tryd.sizeOf25 w⟩
instance : MkI Tryd.prog 25 := ⟨fun v w => by kernel_rfl⟩
instance : ZvT Tryd.prog 25 (.agg #[.int .i64 0, .int .i64 0]) := ⟨fun w => Tryd.zeroValue25 w⟩
instance : FdT Tryd.prog 25 0 0 3 := ⟨fun a w => by kernel_rfl, fun cs w => by kernel_rfl⟩
instance : FdT Tryd.prog 25 1 1 3 := ⟨fun a w => by kernel_rfl, fun cs w => by kernel_rfl⟩
instance : BldT Tryd.prog 25 [(0, 1), (1, 1)] [.int .i64 0, .int .i64 0] := ⟨fun parts => by kernel_rfl⟩
instance : TyT Tryd.prog 26 2 true := ⟨fun w => Tryd.isAgg26 w, fun w => Tryd.sizeOf26 w⟩
instance : MkI Tryd.prog 26 := ⟨fun v w => by kernel_rfl⟩
instance : ZvT Tryd.prog 26 (.agg #[.int .i64 0, .int .i64 0]) := ⟨fun w => Tryd.zeroValue26 w⟩
instance : FdT Tryd.prog 26 0 0 3 := ⟨fun a w => by kernel_rfl, fun cs w => by kernel_rfl⟩
instance : FdT Tryd.prog 26 1 1 3 := ⟨fun a w => by kernel_rfl, fun cs w => by kernel_rfl⟩
instance : BldT Tryd.prog 26 [(0, 1), (1, 1)] [.int .i64 0, .int .i64 0] := ⟨fun parts => by kernel_rfl⟩
instance : TyT Tryd.prog 27 1 false := ⟨fun w => Tryd.isAgg27 w, fun w => Tryd.sizeOf27 w⟩
instance : MkI Tryd.prog 27 := ⟨fun v w => by kernel_rfl⟩
instance : ZvT Tryd.prog 27 (.slice none 0 0) := ⟨fun w => Tryd.zeroValue27 w⟩
instance : SlT Tryd.prog 27 96 2 16 (.agg #[.int .i64 0, .int .i64 0]) := ⟨by kernel_rfl, by kernel_rfl, rfl, by decide, by decide⟩
instance : TyT Tryd.prog 28 11 true := ⟨fun w => Tryd.isAgg28 w, fun w => Tryd.sizeOf28 w⟩
instance : MkI Tryd.prog 28 := ⟨fun v w => by kernel_rfl⟩
instance : ZvT Tryd.prog 28 (.agg #[.bool false, .bool false, .bool false, .int .i64 0, .int .i64 0, .int .i64 0, .int .i64 0, .int .i64 0, .int .i64 0, .slice none 0 0, .slice none 0 0]) := ⟨fun w => Tryd.zeroValue28 w⟩
instance : FdT Tryd.prog 28 0 0 4 := ⟨fun a w => by kernel_rfl, fun cs w => by kernel_rfl⟩
instance : FdT Tryd.prog 28 1 1 4 := ⟨fun a w => by kernel_rfl, fun cs w => by kernel_rfl⟩
instance : FdT Tryd.prog 28 2 2 4 := ⟨fun a w => by kernel_rfl, fun cs w => by kernel_rfl⟩
instance : FdT Tryd.prog 28 3 3 3 := ⟨fun a w => by kernel_rfl, fun cs w => by kernel_rfl⟩
instance : FdT Tryd.prog 28 4 4 3 := ⟨fun a w => by kernel_rfl, fun cs w => by kernel_rfl⟩
instance : FdT Tryd.prog 28 5 5 26 := ⟨fun a w => by kernel_rfl, fun cs w => by kernel_rfl⟩
instance : FdT Tryd.prog 28 6 7 26 := ⟨fun a w => by kernel_rfl, fun cs w => by kernel_rfl⟩
instance : FdT Tryd.prog 28 7 9 27 := ⟨fun a w => by kernel_rfl, fun cs w => by kernel_rfl⟩
instance : FdT Tryd.prog 28 8 10 27 := ⟨fun a w => by kernel_rfl, fun cs w => by kernel_rfl⟩
instance : BldT Tryd.prog 28 [(0, 1), (1, 1), (2, 1), (3, 1), (4, 1), (5, 2), (7, 2), (9, 1), (10, 1)] [.bool false, .bool false, .bool false, .int .i64 0, .int .i64 0, .int .i64 0, .int .i64 0, .int .i64 0, .int .i64 0, .slice none 0 0, .slice none 0 0] := ⟨fun parts => by kernel_rfl⟩
instance : TyT Tryd.prog 29 11 true := ⟨fun w => Tryd.isAgg29 w, fun w => Tryd.sizeOf29 w⟩
instance : MkI Tryd.prog 29 := ⟨fun v w => by kernel_rfl⟩
instance : ZvT Tryd.prog 29 (.agg #[.bool false, .bool false, .bool false, .int .i64 0, .int .i64 0, .int .i64 0, .int .i64 0, .int .i64 0, .int .i64 0, .slice none 0 0, .slice none 0 0]) := ⟨fun w => Tryd.zeroValue29 w⟩
instance : FdT Tryd.prog 29 0 0 4 := ⟨fun a w => by kernel_rfl, fun cs w => by kernel_rfl⟩
instance : FdT Tryd.prog 29 1 1 4 := ⟨fun a w => by kernel_rfl, fun cs w => by kernel_rfl⟩
instance : FdT Tryd.prog 29 2 2 4 := ⟨fun a w => by kernel_rfl, fun cs w => by kernel_rfl⟩
instance : FdT Tryd.prog 29 3 3 3 := ⟨fun a w => by kernel_rfl, fun cs w => by kernel_rfl⟩
instance : FdT Tryd.prog 29 4 4 3 := ⟨fun a w => by kernel_rfl, fun cs w => by kernel_rfl⟩
instance : FdT Tryd.prog 29 5 5 26 := ⟨fun a w => by kernel_rfl, fun cs w => by kernel_rfl⟩
instance : FdT Tryd.prog 29 6 7 26 := ⟨fun a w => by kernel_rfl, fun cs w => by kernel_rfl⟩
instance : FdT Tryd.prog 29 7 9 27 := ⟨fun a w => by kernel_rfl, fun cs w => by kernel_rfl⟩
instance : FdT Tryd.prog 29 8 10 27 := ⟨fun a w => by kernel_rfl, fun cs w => by kernel_rfl⟩
instance : BldT Tryd.prog 29 [(0, 1), (1, 1), (2, 1), (3, 1), (4, 1), (5, 2), (7, 2), (9, 1), (10, 1)] [.bool false, .bool false, .bool false, .int .i64 0, .int .i64 0, .int .i64 0, .int .i64 0, .int .i64 0, .int .i64 0, .slice none 0 0, .slice none 0 0] := ⟨fun parts => by kernel_rfl⟩
instance : TyT Tryd.prog 30 13 true := ⟨fun w => Tryd.isAgg30 w, fun w => Tryd.sizeOf30 w⟩
instance : MkI Tryd.prog 30 := ⟨fun v w => by kernel_rfl⟩
instance : ZvT Tryd.prog 30 (.agg #[.int .i64 0, .bool false, .bool false, .bool false, .bool false, .int .i64 0, .int .i64 0, .int .i64 0, .int .i64 0, .int .i64 0, .int .i64 0, .slice none 0 0, .slice none 0 0]) := ⟨fun w => Tryd.zeroValue30 w⟩
instance : FdT Tryd.prog 30 0 0 3 := ⟨fun a w => by kernel_rfl, fun cs w => by kernel_rfl⟩
instance : FdT Tryd.prog 30 1 1 4 := ⟨fun a w => by kernel_rfl, fun cs w => by kernel_rfl⟩
instance : FdT Tryd.prog 30 2 2 29 := ⟨fun a w => by kernel_rfl, fun cs w => by kernel_rfl⟩
instance : BldT Tryd.prog 30 [(0, 1), (1, 1), (2, 11)] [.int .i64 0, .bool false, .bool false, .bool false, .bool false, .int .i64 0, .int .i64 0, .int .i64 0, .int .i64 0, .int .i64 0, .int .i64 0, .slice none 0 0, .slice none 0 0] := ⟨fun parts => by kernel_rfl⟩
instance : TyT Tryd.prog 31 13 true := ⟨fun w => Tryd.isAgg31 w, fun w => Tryd.sizeOf31 w⟩
instance : MkI Tryd.prog 31 := ⟨fun v w => by kernel_rfl⟩
instance : ZvT Tryd.prog 31 (.agg #[.int .i64 0, .bool false, .bool false, .bool false, .bool false, .int .i64 0, .int .i64 0, .int .i64 0, .int .i64 0, .int .i64 0, .int .i64 0, .slice none 0 0, .slice none 0 0]) := ⟨fun w => Tryd.zeroValue31 w⟩
instance : FdT Tryd.prog 31 0 0 3 := ⟨fun a w => by kernel_rfl, fun cs w => by kernel_rfl⟩
instance : FdT Tryd.prog 31 1 1 4 := ⟨fun a w => by kernel_rfl, fun cs w => by kernel_rfl⟩
instance : FdT Tryd.prog 31 2 2 29 := ⟨fun a w => by kernel_rfl, fun cs w => by kernel_rfl⟩
instance : BldT Tryd.prog 31 [(0, 1), (1, 1), (2, 11)] [.int .i64 0, .bool false, .bool false, .bool false, .bool false, .int .i64 0, .int .i64 0, .int .i64 0, .int .i64 0, .int .i64 0, .int .i64 0, .slice none 0 0, .slice none 0 0] := ⟨fun parts => by kernel_rfl⟩
instance : TyT Tryd.prog 33 1 false := ⟨fun w => Tryd.isAgg33 w, fun w => Tryd.sizeOf33 w⟩
instance : IfT Tryd.prog 33 := ⟨⟨_, Tryd.underlying33⟩⟩
instance : ZvT Tryd.prog 33 (.nilIface) := ⟨fun w => Tryd.zeroValue33 w⟩
instance : TyT Tryd.prog 34 1 false := ⟨fun w => Tryd.isAgg34 w, fun w => Tryd.sizeOf34 w⟩
instance : IfT Tryd.prog 34 := ⟨⟨_, Tryd.underlying34⟩⟩
instance : ZvT Tryd.prog 34 (.nilIface) := ⟨fun w => Tryd.zeroValue34 w⟩
instance : TyT Tryd.prog 40 1 false := ⟨fun w => Tryd.isAgg40 w, fun w => Tryd.sizeOf40 w⟩
instance : MkI Tryd.prog 40 := ⟨fun v w => by kernel_rfl⟩
instance : ZvT Tryd.prog 40 (.slice none 0 0) := ⟨fun w => Tryd.zeroValue40 w⟩
instance : SlT Tryd.prog 40 55 8 80 (.agg #[.int .i64 0, .int .i64 0, .int .i64 0, .int .i64 0, .int .i64 0, .int .i64 0, .bool false, .slice none 0 0]) := ⟨by kernel_rfl, by kernel_rfl, rfl, by decide, by decide⟩
instance : TyT Tryd.prog 41 1 false := ⟨fun w => Tryd.isAgg41 w, fun w => Tryd.sizeOf41 w⟩
instance : MkI Tryd.prog 41 := ⟨fun v w => by kernel_rfl⟩
instance : ZvT Tryd.prog 41 (.slice none 0 0) := ⟨fun w => Tryd.zeroValue41 w⟩
instance : SlT Tryd.prog 41 3 1 8 (.int .i64 0) := ⟨by kernel_rfl, by kernel_rfl, rfl, by decide, by decide⟩
instance : TyT Tryd.prog 42 1 false := ⟨fun w => Tryd.isAgg42 w, fun w => Tryd.sizeOf42 w⟩
instance : MkI Tryd.prog 42 := ⟨fun v w => by kernel_rfl⟩
instance : ZvT Tryd.prog 42 (.pointer none) := ⟨fun w => Tryd.zeroValue42 w⟩
instance : TyT Tryd.prog 45 1 false := ⟨fun w => Tryd.isAgg45 w, fun w => Tryd.sizeOf45 w⟩
instance : MkI Tryd.prog 45 := ⟨fun v w => by kernel_rfl⟩
instance : ZvT Tryd.prog 45 (.pointer none) := ⟨fun w => Tryd.zeroValue45 w⟩
instance : TyT Tryd.prog 46 1 false := ⟨fun w => Tryd.isAgg46 w, fun w => Tryd.sizeOf46 w⟩
instance : MkI Tryd.prog 46 := ⟨fun v w => by kernel_rfl⟩
instance : ZvT Tryd.prog 46 (.slice none 0 0) := ⟨fun w => Tryd.zeroValue46 w⟩
instance : SlT Tryd.prog 46 81 11 120 (.agg #[.int .i64 0, .int .i64 0, .int .i64 0, .int .i64 0, .int .i64 0, .int .i64 0, .bool false, .slice none 0 0, .int .i64 0, .bool false, .slice none 0 0]) := ⟨by kernel_rfl, by kernel_rfl, rfl, by decide, by decide⟩
instance : TyT Tryd.prog 47 3 true := ⟨fun w => Tryd.isAgg47 w, fun w => Tryd.sizeOf47 w⟩
instance : MkI Tryd.prog 47 := ⟨fun v w => by kernel_rfl⟩
instance : ZvT Tryd.prog 47 (.agg #[.int .i64 0, .int .i64 0, .slice none 0 0]) := ⟨fun w => Tryd.zeroValue47 w⟩
instance : FdT Tryd.prog 47 0 0 3 := ⟨fun a w => by kernel_rfl, fun cs w => by kernel_rfl⟩
instance : FdT Tryd.prog 47 1 1 3 := ⟨fun a w => by kernel_rfl, fun cs w => by kernel_rfl⟩
instance : FdT Tryd.prog 47 2 2 46 := ⟨fun a w => by kernel_rfl, fun cs w => by kernel_rfl⟩
instance : BldT Tryd.prog 47 [(0, 1), (1, 1), (2, 1)] [.int .i64 0, .int .i64 0, .slice none 0 0] := ⟨fun parts => by kernel_rfl⟩
instance : TyT Tryd.prog 48 3 true := ⟨fun w => Tryd.isAgg48 w, fun w => Tryd.sizeOf48 w⟩
instance : MkI Tryd.prog 48 := ⟨fun v w => by kernel_rfl⟩
instance : ZvT Tryd.prog 48 (.agg #[.int .i64 0, .int .i64 0, .slice none 0 0]) := ⟨fun w => Tryd.zeroValue48 w⟩
instance : FdT Tryd.prog 48 0 0 3 := ⟨fun a w => by kernel_rfl, fun cs w => by kernel_rfl⟩
instance : FdT Tryd.prog 48 1 1 3 := ⟨fun a w => by kernel_rfl, fun cs w => by kernel_rfl⟩
instance : FdT Tryd.prog 48 2 2 46 := ⟨fun a w => by kernel_rfl, fun cs w => by kernel_rfl⟩
instance : BldT Tryd.prog 48 [(0, 1), (1, 1), (2, 1)] [.int .i64 0, .int .i64 0, .slice none 0 0] := ⟨fun parts => by kernel_rfl⟩
instance : TyT Tryd.prog 53 1 false := ⟨fun w => Tryd.isAgg53 w, fun w => Tryd.sizeOf53 w⟩
instance : MkI Tryd.prog 53 := ⟨fun v w => by kernel_rfl⟩
instance : ZvT Tryd.prog 53 (.slice none 0 0) := ⟨fun w => Tryd.zeroValue53 w⟩
instance : SlT Tryd.prog 53 5 1 1 (.int .u8 0) := ⟨by kernel_rfl, by kernel_rfl, rfl, by decide, by decide⟩
instance : TyT Tryd.prog 54 8 true := ⟨fun w => Tryd.isAgg54 w, fun w => Tryd.sizeOf54 w⟩
instance : MkI Tryd.prog 54 := ⟨fun v w => by kernel_rfl⟩
instance : ZvT Tryd.prog 54 (.agg #[.int .i64 0, .int .i64 0, .int .i64 0, .int .i64 0, .int .i64 0, .int .i64 0, .bool false, .slice none 0 0]) := ⟨fun w => Tryd.zeroValue54 w⟩
instance : FdT Tryd.prog 54 0 0 3 := ⟨fun a w => by kernel_rfl, fun cs w => by kernel_rfl⟩
instance : FdT Tryd.prog 54 1 1 3 := ⟨fun a w => by kernel_rfl, fun cs w => by kernel_rfl⟩
instance : FdT Tryd.prog 54 2 2 3 := ⟨fun a w => by kernel_rfl, fun cs w => by kernel_rfl⟩
instance : FdT Tryd.prog 54 3 3 3 := ⟨fun a w => by kernel_rfl, fun cs w => by kernel_rfl⟩
instance : FdT Tryd.prog 54 4 4 3 := ⟨fun a w => by kernel_rfl, fun cs w => by kernel_rfl⟩
instance : FdT Tryd.prog 54 5 5 3 := ⟨fun a w => by kernel_rfl, fun cs w => by kernel_rfl⟩
instance : FdT Tryd.prog 54 6 6 4 := ⟨fun a w => by kernel_rfl, fun cs w => by kernel_rfl⟩
instance : FdT Tryd.prog 54 7 7 53 := ⟨fun a w => by kernel_rfl, fun cs w => by kernel_rfl⟩
instance : BldT Tryd.prog 54 [(0, 1), (1, 1), (2, 1), (3, 1), (4, 1), (5, 1), (6, 1), (7, 1)] [.int .i64 0, .int .i64 0, .int .i64 0, .int .i64 0, .int .i64 0, .int .i64 0, .bool false, .slice none 0 0] := ⟨fun parts => by kernel_rfl⟩
instance : TyT Tryd.prog 55 8 true := ⟨fun w => Tryd.isAgg55 w, fun w => Tryd.sizeOf55 w⟩
instance : MkI Tryd.prog 55 := ⟨fun v w => by kernel_rfl⟩
instance : ZvT Tryd.prog 55 (.agg #[.int .i64 0, .int .i64 0, .int .i64 0, .int .i64 0, .int .i64 0, .int .i64 0, .bool false, .slice none 0 0]) := ⟨fun w => Tryd.zeroValue55 w⟩
instance : FdT Tryd.prog 55 0 0 3 := ⟨fun a w => by kernel_rfl, fun cs w => by kernel_rfl⟩
instance : FdT Tryd.prog 55 1 1 3 := ⟨fun a w => by kernel_rfl, fun cs w => by kernel_rfl⟩
instance : FdT Tryd.prog 55 2 2 3 := ⟨fun a w => by kernel_rfl, fun cs w => by kernel_rfl⟩
instance : FdT Tryd.prog 55 3 3 3 := ⟨fun a w => by kernel_rfl, fun cs w => by kernel_rfl⟩
instance : FdT Tryd.prog 55 4 4 3 := ⟨fun a w => by kernel_rfl, fun cs w => by kernel_rfl⟩
instance : FdT Tryd.prog 55 5 5 3 := ⟨fun a w => by kernel_rfl, fun cs w => by kernel_rfl⟩
instance : FdT Tryd.prog 55 6 6 4 := ⟨fun a w => by kernel_rfl, fun cs w => by kernel_rfl⟩
instance : FdT Tryd.prog 55 7 7 53 := ⟨fun a w => by kernel_rfl, fun cs w => by kernel_rfl⟩
instance : BldT Tryd.prog 55 [(0, 1), (1, 1), (2, 1), (3, 1), (4, 1), (5, 1), (6, 1), (7, 1)] [.int .i64 0, .int .i64 0, .int .i64 0, .int .i64 0, .int .i64 0, .int .i64 0, .bool false, .slice none 0 0] := ⟨fun parts => by kernel_rfl⟩
instance : TyT Tryd.prog 65 1 false := ⟨fun w => Tryd.isAgg65 w, fun w => Tryd.sizeOf65 w⟩
instance : MkI Tryd.prog 65 := ⟨fun v w => by kernel_rfl⟩
instance : ZvT Tryd.prog 65 (.slice none 0 0) := ⟨fun w => Tryd.zeroValue65 w⟩
instance : SlT Tryd.prog 65 4 1 1 (.bool false) := ⟨by kernel_rfl, by kernel_rfl, rfl, by decide, by decide⟩
instance : TyT Tryd.prog 69 1 false := ⟨fun w => Tryd.isAgg69 w, fun w => Tryd.sizeOf69 w⟩
instance : MkI Tryd.prog 69 := ⟨fun v w => by kernel_rfl⟩
instance : IntT Tryd.prog 69 .i64 := ⟨Tryd.underlying69⟩
instance : ZvT Tryd.prog 69 (.int .i64 0) := ⟨fun w => Tryd.zeroValue69 w⟩
instance : TyT Tryd.prog 76 1 false := ⟨fun w => Tryd.isAgg76 w, fun w => Tryd.sizeOf76 w⟩
instance : MkI Tryd.prog 76 := ⟨fun v w => by kernel_rfl⟩
instance : ZvT Tryd.prog 76 (.map none) := ⟨fun w => Tryd.zeroValue76 w⟩
instance : TyT Tryd.prog 77 3 true := ⟨fun w => Tryd.isAgg77 w, fun w => Tryd.sizeOf77 w⟩
instance : MkI Tryd.prog 77 := ⟨fun v w => by kernel_rfl⟩
instance : ZvT Tryd.prog 77 (.agg #[.int .i64 0, .int .i64 0, .map none]) := ⟨fun w => Tryd.zeroValue77 w⟩
instance : FdT Tryd.prog 77 0 0 3 := ⟨fun a w => by kernel_rfl, fun cs w => by kernel_rfl⟩
instance : FdT Tryd.prog 77 1 1 3 := ⟨fun a w => by kernel_rfl, fun cs w => by kernel_rfl⟩
instance : FdT Tryd.prog 77 2 2 76 := ⟨fun a w => by kernel_rfl, fun cs w => by kernel_rfl⟩
instance : BldT Tryd.prog 77 [(0, 1), (1, 1), (2, 1)] [.int .i64 0, .int .i64 0, .map none] := ⟨fun parts => by kernel_rfl⟩
instance : TyT Tryd.prog 78 3 true := ⟨fun w => Tryd.isAgg78 w, fun w => Tryd.sizeOf78 w⟩
instance : MkI Tryd.prog 78 := ⟨fun v w => by kernel_rfl⟩
instance : ZvT Tryd.prog 78 (.agg #[.int .i64 0, .int .i64 0, .map none]) := ⟨fun w => Tryd.zeroValue78 w⟩
instance : FdT Tryd.prog 78 0 0 3 := ⟨fun a w => by kernel_rfl, fun cs w => by kernel_rfl⟩
instance : FdT Tryd.prog 78 1 1 3 := ⟨fun a w => by kernel_rfl, fun cs w => by kernel_rfl⟩
instance : FdT Tryd.prog 78 2 2 76 := ⟨fun a w => by kernel_rfl, fun cs w => by kernel_rfl⟩
instance : BldT Tryd.prog 78 [(0, 1), (1, 1), (2, 1)] [.int .i64 0, .int .i64 0, .map none] := ⟨fun parts => by kernel_rfl⟩
instance : TyT Tryd.prog 80 11 true := ⟨fun w => Tryd.isAgg80 w, fun w => Tryd.sizeOf80 w⟩
instance : MkI Tryd.prog 80 := ⟨fun v w => by kernel_rfl⟩
instance : ZvT Tryd.prog 80 (.agg #[.int .i64 0, .int .i64 0, .int .i64 0, .int .i64 0, .int .i64 0, .int .i64 0, .bool false, .slice none 0 0, .int .i64 0, .bool false, .slice none 0 0]) := ⟨fun w => Tryd.zeroValue80 w⟩
instance : FdT Tryd.prog 80 0 0 55 := ⟨fun a w => by kernel_rfl, fun cs w => by kernel_rfl⟩
instance : FdT Tryd.prog 80 1 8 3 := ⟨fun a w => by kernel_rfl, fun cs w => by kernel_rfl⟩
instance : FdT Tryd.prog 80 2 9 4 := ⟨fun a w => by kernel_rfl, fun cs w => by kernel_rfl⟩
instance : FdT Tryd.prog 80 3 10 40 := ⟨fun a w => by kernel_rfl, fun cs w => by kernel_rfl⟩
instance : BldT Tryd.prog 80 [(0, 8), (8, 1), (9, 1), (10, 1)] [.int .i64 0, .int .i64 0, .int .i64 0, .int .i64 0, .int .i64 0, .int .i64 0, .bool false, .slice none 0 0, .int .i64 0, .bool false, .slice none 0 0] := ⟨fun parts => by kernel_rfl⟩
instance : TyT Tryd.prog 81 11 true := ⟨fun w => Tryd.isAgg81 w, fun w => Tryd.sizeOf81 w⟩
instance : MkI Tryd.prog 81 := ⟨fun v w => by kernel_rfl⟩
instance : ZvT Tryd.prog 81 (.agg #[.int .i64 0, .int .i64 0, .int .i64 0, .int .i64 0, .int .i64 0, .int .i64 0, .bool false, .slice none 0 0, .int .i64 0, .bool false, .slice none 0 0]) := ⟨fun w => Tryd.zeroValue81 w⟩
instance : FdT Tryd.prog 81 0 0 55 := ⟨fun a w => by kernel_rfl, fun cs w => by kernel_rfl⟩
instance : FdT Tryd.prog 81 1 8 3 := ⟨fun a w => by kernel_rfl, fun cs w => by kernel_rfl⟩
instance : FdT Tryd.prog 81 2 9 4 := ⟨fun a w => by kernel_rfl, fun cs w => by kernel_rfl⟩
instance : FdT Tryd.prog 81 3 10 40 := ⟨fun a w => by kernel_rfl, fun cs w => by kernel_rfl⟩
instance : BldT Tryd.prog 81 [(0, 8), (8, 1), (9, 1), (10, 1)] [.int .i64 0, .int .i64 0, .int .i64 0, .int .i64 0, .int .i64 0, .int .i64 0, .bool false, .slice none 0 0, .int .i64 0, .bool false, .slice none 0 0] := ⟨fun parts => by kernel_rfl⟩
instance : TyT Tryd.prog 82 4 true := ⟨fun w => Tryd.isAgg82 w, fun w => Tryd.sizeOf82 w⟩
instance : MkI Tryd.prog 82 := ⟨fun v w => by kernel_rfl⟩
instance : ZvT Tryd.prog 82 (.agg #[.int .i64 0, .int .i64 0, .int .i64 0, .int .i64 0]) := ⟨fun w => Tryd.zeroValue82 w⟩
instance : FdT Tryd.prog 82 0 0 3 := ⟨fun a w => by kernel_rfl, fun cs w => by kernel_rfl⟩
instance : FdT Tryd.prog 82 1 1 3 := ⟨fun a w => by kernel_rfl, fun cs w => by kernel_rfl⟩
instance : FdT Tryd.prog 82 2 2 3 := ⟨fun a w => by kernel_rfl, fun cs w => by kernel_rfl⟩
instance : FdT Tryd.prog 82 3 3 3 := ⟨fun a w => by kernel_rfl, fun cs w => by kernel_rfl⟩
instance : BldT Tryd.prog 82 [(0, 1), (1, 1), (2, 1), (3, 1)] [.int .i64 0, .int .i64 0, .int .i64 0, .int .i64 0] := ⟨fun parts => by kernel_rfl⟩
instance : TyT Tryd.prog 83 4 true := ⟨fun w => Tryd.isAgg83 w, fun w => Tryd.sizeOf83 w⟩
instance : MkI Tryd.prog 83 := ⟨fun v w => by kernel_rfl⟩
instance : ZvT Tryd.prog 83 (.agg #[.int .i64 0, .int .i64 0, .int .i64 0, .int .i64 0]) := ⟨fun w => Tryd.zeroValue83 w⟩
instance : FdT Tryd.prog 83 0 0 3 := ⟨fun a w => by kernel_rfl, fun cs w => by kernel_rfl⟩
instance : FdT Tryd.prog 83 1 1 3 := ⟨fun a w => by kernel_rfl, fun cs w => by kernel_rfl⟩
instance : FdT Tryd.prog 83 2 2 3 := ⟨fun a w => by kernel_rfl, fun cs w => by kernel_rfl⟩
instance : FdT Tryd.prog 83 3 3 3 := ⟨fun a w => by kernel_rfl, fun cs w => by kernel_rfl⟩
instance : BldT Tryd.prog 83 [(0, 1), (1, 1), (2, 1), (3, 1)] [.int .i64 0, .int .i64 0, .int .i64 0, .int .i64 0] := ⟨fun parts => by kernel_rfl⟩
instance : TyT Tryd.prog 84 1 false := ⟨fun w => Tryd.isAgg84 w, fun w => Tryd.sizeOf84 w⟩
instance : MkI Tryd.prog 84 := ⟨fun v w => by kernel_rfl⟩
instance : ZvT Tryd.prog 84 (.pointer none) := ⟨fun w => Tryd.zeroValue84 w⟩
instance : TyT Tryd.prog 85 7 true := ⟨fun w => Tryd.isAgg85 w, fun w => Tryd.sizeOf85 w⟩
instance : MkI Tryd.prog 85 := ⟨fun v w => by kernel_rfl⟩
instance : ZvT Tryd.prog 85 (.agg #[.int .i64 0, .bool false, .int .i64 0, .slice none 0 0, .slice none 0 0, .int .i64 0, .int .i64 0]) := ⟨fun w => Tryd.zeroValue85 w⟩
instance : FdT Tryd.prog 85 0 0 3 := ⟨fun a w => by kernel_rfl, fun cs w => by kernel_rfl⟩
instance : FdT Tryd.prog 85 1 1 4 := ⟨fun a w => by kernel_rfl, fun cs w => by kernel_rfl⟩
instance : FdT Tryd.prog 85 2 2 3 := ⟨fun a w => by kernel_rfl, fun cs w => by kernel_rfl⟩
instance : FdT Tryd.prog 85 3 3 53 := ⟨fun a w => by kernel_rfl, fun cs w => by kernel_rfl⟩
instance : FdT Tryd.prog 85 4 4 65 := ⟨fun a w => by kernel_rfl, fun cs w => by kernel_rfl⟩
instance : FdT Tryd.prog 85 5 5 3 := ⟨fun a w => by kernel_rfl, fun cs w => by kernel_rfl⟩
instance : FdT Tryd.prog 85 6 6 3 := ⟨fun a w => by kernel_rfl, fun cs w => by kernel_rfl⟩
instance : BldT Tryd.prog 85 [(0, 1), (1, 1), (2, 1), (3, 1), (4, 1), (5, 1), (6, 1)] [.int .i64 0, .bool false, .int .i64 0, .slice none 0 0, .slice none 0 0, .int .i64 0, .int .i64 0] := ⟨fun parts => by kernel_rfl⟩
instance : TyT Tryd.prog 86 7 true := ⟨fun w => Tryd.isAgg86 w, fun w => Tryd.sizeOf86 w⟩
instance : MkI Tryd.prog 86 := ⟨fun v w => by kernel_rfl⟩
instance : ZvT Tryd.prog 86 (.agg #[.int .i64 0, .bool false, .int .i64 0, .slice none 0 0, .slice none 0 0, .int .i64 0, .int .i64 0]) := ⟨fun w => Tryd.zeroValue86 w⟩
instance : FdT Tryd.prog 86 0 0 3 := ⟨fun a w => by kernel_rfl, fun cs w => by kernel_rfl⟩
instance : FdT Tryd.prog 86 1 1 4 := ⟨fun a w => by kernel_rfl, fun cs w => by kernel_rfl⟩
instance : FdT Tryd.prog 86 2 2 3 := ⟨fun a w => by kernel_rfl, fun cs w => by kernel_rfl⟩
instance : FdT Tryd.prog 86 3 3 53 := ⟨fun a w => by kernel_rfl, fun cs w => by kernel_rfl⟩
instance : FdT Tryd.prog 86 4 4 65 := ⟨fun a w => by kernel_rfl, fun cs w => by kernel_rfl⟩
instance : FdT Tryd.prog 86 5 5 3 := ⟨fun a w => by kernel_rfl, fun cs w => by kernel_rfl⟩
instance : FdT Tryd.prog 86 6 6 3 := ⟨fun a w => by kernel_rfl, fun cs w => by kernel_rfl⟩
instance : BldT Tryd.prog 86 [(0, 1), (1, 1), (2, 1), (3, 1), (4, 1), (5, 1), (6, 1)] [.int .i64 0, .bool false, .int .i64 0, .slice none 0 0, .slice none 0 0, .int .i64 0, .int .i64 0] := ⟨fun parts => by kernel_rfl⟩
instance : TyT Tryd.prog 96 2 true := ⟨fun w => Tryd.isAgg96 w, fun w => Tryd.sizeOf96 w⟩
instance : MkI Tryd.prog 96 := ⟨fun v w => by kernel_rfl⟩
instance : ZvT Tryd.prog 96 (.agg #[.int .i64 0, .int .i64 0]) := ⟨fun w => Tryd.zeroValue96 w⟩
instance : ArT Tryd.prog 96 2 3 1 := ⟨Tryd.underlying96, fun w => Tryd.sizeOf3 w⟩
instance : TyT Tryd.prog 101 1 false := ⟨fun w => Tryd.isAgg101 w, fun w => Tryd.sizeOf101 w⟩
instance : MkI Tryd.prog 101 := ⟨fun v w => by kernel_rfl⟩
instance : ZvT Tryd.prog 101 (.pointer none) := ⟨fun w => Tryd.zeroValue101 w⟩
instance : TyT Tryd.prog 104 1 false := ⟨fun w => Tryd.isAgg104 w, fun w => Tryd.sizeOf104 w⟩
instance : MkI Tryd.prog 104 := ⟨fun v w => by kernel_rfl⟩
instance : ZvT Tryd.prog 104 (.slice none 0 0) := ⟨fun w => Tryd.zeroValue104 w⟩
instance : SlT Tryd.prog 104 26 2 16 (.agg #[.int .i64 0, .int .i64 0]) := ⟨by kernel_rfl, by kernel_rfl, rfl, by decide, by decide⟩
instance : TyT Tryd.prog 106 1 false := ⟨fun w => Tryd.isAgg106 w, fun w => Tryd.sizeOf106 w⟩
instance : MkI Tryd.prog 106 := ⟨fun v w => by kernel_rfl⟩
instance : ZvT Tryd.prog 106 (.slice none 0 0) := ⟨fun w => Tryd.zeroValue106 w⟩
instance : SlT Tryd.prog 106 27 1 24 (.slice none 0 0) := ⟨by kernel_rfl, by kernel_rfl, rfl, by decide, by decide⟩
instance : TyT Tryd.prog 108 1 false := ⟨fun w => Tryd.isAgg108 w, fun w => Tryd.sizeOf108 w⟩
instance : MkI Tryd.prog 108 := ⟨fun v w => by kernel_rfl⟩
instance : ZvT Tryd.prog 108 (.pointer none) := ⟨fun w => Tryd.zeroValue108 w⟩
instance : TyT Tryd.prog 109 1 false := ⟨fun w => Tryd.isAgg109 w, fun w => Tryd.sizeOf109 w⟩
instance : MkI Tryd.prog 109 := ⟨fun v w => by kernel_rfl⟩
instance : IntT Tryd.prog 109 .u64 := ⟨Tryd.underlying109⟩
instance : ZvT Tryd.prog 109 (.int .u64 0) := ⟨fun w => Tryd.zeroValue109 w⟩
instance : TyT Tryd.prog 110 3 true := ⟨fun w => Tryd.isAgg110 w, fun w => Tryd.sizeOf110 w⟩
instance : MkI Tryd.prog 110 := ⟨fun v w => by kernel_rfl⟩
instance : ZvT Tryd.prog 110 (.agg #[.pointer none, .pointer none, .int .u64 0]) := ⟨fun w => Tryd.zeroValue110 w⟩
instance : FdT Tryd.prog 110 0 0 17 := ⟨fun a w => by kernel_rfl, fun cs w => by kernel_rfl⟩
instance : FdT Tryd.prog 110 1 1 108 := ⟨fun a w => by kernel_rfl, fun cs w => by kernel_rfl⟩
instance : FdT Tryd.prog 110 2 2 109 := ⟨fun a w => by kernel_rfl, fun cs w => by kernel_rfl⟩
instance : BldT Tryd.prog 110 [(0, 1), (1, 1), (2, 1)] [.pointer none, .pointer none, .int .u64 0] := ⟨fun parts => by kernel_rfl⟩
instance : TyT Tryd.prog 111 3 true := ⟨fun w => Tryd.isAgg111 w, fun w => Tryd.sizeOf111 w⟩
instance : MkI Tryd.prog 111 := ⟨fun v w => by kernel_rfl⟩
instance : ZvT Tryd.prog 111 (.agg #[.pointer none, .pointer none, .int .u64 0]) := ⟨fun w => Tryd.zeroValue111 w⟩
instance : FdT Tryd.prog 111 0 0 17 := ⟨fun a w => by kernel_rfl, fun cs w => by kernel_rfl⟩
instance : FdT Tryd.prog 111 1 1 108 := ⟨fun a w => by kernel_rfl, fun cs w => by kernel_rfl⟩
instance : FdT Tryd.prog 111 2 2 109 := ⟨fun a w => by kernel_rfl, fun cs w => by kernel_rfl⟩
instance : BldT Tryd.prog 111 [(0, 1), (1, 1), (2, 1)] [.pointer none, .pointer none, .int .u64 0] := ⟨fun parts => by kernel_rfl⟩
instance : TyT Tryd.prog 113 1 false := ⟨fun w => Tryd.isAgg113 w, fun w => Tryd.sizeOf113 w⟩
instance : IfT Tryd.prog 113 := ⟨⟨_, Tryd.underlying113⟩⟩
instance : ZvT Tryd.prog 113 (.nilIface) := ⟨fun w => Tryd.zeroValue113 w⟩
instance : TyT Tryd.prog 114 1 false := ⟨fun w => Tryd.isAgg114 w, fun w => Tryd.sizeOf114 w⟩
instance : IfT Tryd.prog 114 := ⟨⟨_, Tryd.underlying114⟩⟩
instance : ZvT Tryd.prog 114 (.nilIface) := ⟨fun w => Tryd.zeroValue114 w⟩
instance : TyT Tryd.prog 116 1 false := ⟨fun w => Tryd.isAgg116 w, fun w => Tryd.sizeOf116 w⟩
instance : MkI Tryd.prog 116 := ⟨fun v w => by kernel_rfl⟩
instance : IntT Tryd.prog 116 .u8 := ⟨Tryd.underlying116⟩
instance : ZvT Tryd.prog 116 (.int .u8 0) := ⟨fun w => Tryd.zeroValue116 w⟩
instance : TyT Tryd.prog 122 1 true := ⟨fun w => Tryd.isAgg122 w, fun w => Tryd.sizeOf122 w⟩
instance : MkI Tryd.prog 122 := ⟨fun v w => by kernel_rfl⟩
instance : ZvT Tryd.prog 122 (.agg #[.pointer none]) := ⟨fun w => Tryd.zeroValue122 w⟩
instance : FdT Tryd.prog 122 0 0 17 := ⟨fun a w => by kernel_rfl, fun cs w => by kernel_rfl⟩
instance : BldT Tryd.prog 122 [(0, 1)] [.pointer none] := ⟨fun parts => by kernel_rfl⟩
instance : TyT Tryd.prog 123 1 true := ⟨fun w => Tryd.isAgg123 w, fun w => Tryd.sizeOf123 w⟩
instance : MkI Tryd.prog 123 := ⟨fun v w => by kernel_rfl⟩
instance : ZvT Tryd.prog 123 (.agg #[.pointer none]) := ⟨fun w => Tryd.zeroValue123 w⟩
instance : FdT Tryd.prog 123 0 0 17 := ⟨fun a w => by kernel_rfl, fun cs w => by kernel_rfl⟩
instance : BldT Tryd.prog 123 [(0, 1)] [.pointer none] := ⟨fun parts => by kernel_rfl⟩
instance : TyT Tryd.prog 124 1 false := ⟨fun w => Tryd.isAgg124 w, fun w => Tryd.sizeOf124 w⟩
instance : MkI Tryd.prog 124 := ⟨fun v w => by kernel_rfl⟩
instance : ZvT Tryd.prog 124 (.pointer none) := ⟨fun w => Tryd.zeroValue124 w⟩
instance : TyT Tryd.prog 128 1 false := ⟨fun w => Tryd.isAgg128 w, fun w => Tryd.sizeOf128 w⟩
instance : IfT Tryd.prog 128 := ⟨⟨_, Tryd.underlying128⟩⟩
instance : ZvT Tryd.prog 128 (.nilIface) := ⟨fun w => Tryd.zeroValue128 w⟩
instance : TyT Tryd.prog 131 1 false := ⟨fun w => Tryd.isAgg131 w, fun w => Tryd.sizeOf131 w⟩
instance : IfT Tryd.prog 131 := ⟨⟨_, Tryd.underlying131⟩⟩
instance : ZvT Tryd.prog 131 (.nilIface) := ⟨fun w => Tryd.zeroValue131 w⟩
instance : TyT Tryd.prog 133 1 false := ⟨fun w => Tryd.isAgg133 w, fun w => Tryd.sizeOf133 w⟩
instance : IfT Tryd.prog 133 := ⟨⟨_, Tryd.underlying133⟩⟩
instance : ZvT Tryd.prog 133 (.nilIface) := ⟨fun w => Tryd.zeroValue133 w⟩
instance : TyT Tryd.prog 134 1 false := ⟨fun w => Tryd.isAgg134 w, fun w => Tryd.sizeOf134 w⟩
instance : MkI Tryd.prog 134 := ⟨fun v w => by kernel_rfl⟩
instance : ZvT Tryd.prog 134 (.slice none 0 0) := ⟨fun w => Tryd.zeroValue134 w⟩
instance : SlT Tryd.prog 134 34 1 16 (.nilIface) := ⟨by kernel_rfl, by kernel_rfl, rfl, by decide, by decide⟩
instance : TyT Tryd.prog 141 1 false := ⟨fun w => Tryd.isAgg141 w, fun w => Tryd.sizeOf141 w⟩
instance : MkI Tryd.prog 141 := ⟨fun v w => by kernel_rfl⟩
instance : IntT Tryd.prog 141 .u64 := ⟨Tryd.underlying141⟩
instance : ZvT Tryd.prog 141 (.int .u64 0) := ⟨fun w => Tryd.zeroValue141 w⟩
instance : TyT Tryd.prog 143 1 false := ⟨fun w => Tryd.isAgg143 w, fun w => Tryd.sizeOf143 w⟩
instance : MkI Tryd.prog 143 := ⟨fun v w => by kernel_rfl⟩
instance : IntT Tryd.prog 143 .i64 := ⟨Tryd.underlying143⟩
instance : ZvT Tryd.prog 143 (.int .i64 0) := ⟨fun w => Tryd.zeroValue143 w⟩
instance : TyT Tryd.prog 151 1 false := ⟨fun w => Tryd.isAgg151 w, fun w => Tryd.sizeOf151 w⟩
instance : MkI Tryd.prog 151 := ⟨fun v w => by kernel_rfl⟩
instance : IntT Tryd.prog 151 .u32 := ⟨Tryd.underlying151⟩
instance : ZvT Tryd.prog 151 (.int .u32 0) := ⟨fun w => Tryd.zeroValue151 w⟩
instance : TyT Tryd.prog 153 1 false := ⟨fun w => Tryd.isAgg153 w, fun w => Tryd.sizeOf153 w⟩
instance : MkI Tryd.prog 153 := ⟨fun v w => by kernel_rfl⟩
instance : IntT Tryd.prog 153 .u64 := ⟨Tryd.underlying153⟩
instance : ZvT Tryd.prog 153 (.int .u64 0) := ⟨fun w => Tryd.zeroValue153 w⟩
instance : TyT Tryd.prog 154 1 false := ⟨fun w => Tryd.isAgg154 w, fun w => Tryd.sizeOf154 w⟩
instance : MkI Tryd.prog 154 := ⟨fun v w => by kernel_rfl⟩
instance : IntT Tryd.prog 154 .u64 := ⟨Tryd.underlying154⟩
instance : ZvT Tryd.prog 154 (.int .u64 0) := ⟨fun w => Tryd.zeroValue154 w⟩
instance : TyT Tryd.prog 158 1 false := ⟨fun w => Tryd.isAgg158 w, fun w => Tryd.sizeOf158 w⟩
instance : MkI Tryd.prog 158 := ⟨fun v w => by kernel_rfl⟩
instance : ZvT Tryd.prog 158 (.pointer none) := ⟨fun w => Tryd.zeroValue158 w⟩
instance : TyT Tryd.prog 160 1 false := ⟨fun w => Tryd.isAgg160 w, fun w => Tryd.sizeOf160 w⟩
instance : MkI Tryd.prog 160 := ⟨fun v w => by kernel_rfl⟩
instance : ZvT Tryd.prog 160 (.pointer none) := ⟨fun w => Tryd.zeroValue160 w⟩
instance : TyT Tryd.prog 163 4 true := ⟨fun w => Tryd.isAgg163 w, fun w => Tryd.sizeOf163 w⟩
instance : MkI Tryd.prog 163 := ⟨fun v w => by kernel_rfl⟩
instance : ZvT Tryd.prog 163 (.agg #[.pointer none, .pointer none, .pointer none, .string ⟨#[]⟩]) := ⟨fun w => Tryd.zeroValue163 w⟩
instance : FdT Tryd.prog 163 0 0 17 := ⟨fun a w => by kernel_rfl, fun cs w => by kernel_rfl⟩
instance : FdT Tryd.prog 163 1 1 17 := ⟨fun a w => by kernel_rfl, fun cs w => by kernel_rfl⟩
instance : FdT Tryd.prog 163 2 2 17 := ⟨fun a w => by kernel_rfl, fun cs w => by kernel_rfl⟩
instance : FdT Tryd.prog 163 3 3 9 := ⟨fun a w => by kernel_rfl, fun cs w => by kernel_rfl⟩
instance : BldT Tryd.prog 163 [(0, 1), (1, 1), (2, 1), (3, 1)] [.pointer none, .pointer none, .pointer none, .string ⟨#[]⟩] := ⟨fun parts => by kernel_rfl⟩
instance : TyT Tryd.prog 164 4 true := ⟨fun w => Tryd.isAgg164 w, fun w => Tryd.sizeOf164 w⟩
instance : MkI Tryd.prog 164 := ⟨fun v w => by kernel_rfl⟩
instance : ZvT Tryd.prog 164 (.agg #[.pointer none, .pointer none, .pointer none, .string ⟨#[]⟩]) := ⟨fun w => Tryd.zeroValue164 w⟩
instance : FdT Tryd.prog 164 0 0 17 := ⟨fun a w => by kernel_rfl, fun cs w => by kernel_rfl⟩
instance : FdT Tryd.prog 164 1 1 17 := ⟨fun a w => by kernel_rfl, fun cs w => by kernel_rfl⟩
instance : FdT Tryd.prog 164 2 2 17 := ⟨fun a w => by kernel_rfl, fun cs w => by kernel_rfl⟩
instance : FdT Tryd.prog 164 3 3 9 := ⟨fun a w => by kernel_rfl, fun cs w => by kernel_rfl⟩
instance : BldT Tryd.prog 164 [(0, 1), (1, 1), (2, 1), (3, 1)] [.pointer none, .pointer none, .pointer none, .string ⟨#[]⟩] := ⟨fun parts => by kernel_rfl⟩
instance : TyT Tryd.prog 165 0 true := ⟨fun w => Tryd.isAgg165 w, fun w => Tryd.sizeOf165 w⟩
instance : MkI Tryd.prog 165 := ⟨fun v w => by kernel_rfl⟩
instance : ZvT Tryd.prog 165 (.agg #[]) := ⟨fun w => Tryd.zeroValue165 w⟩
instance : ArT Tryd.prog 165 0 16 1 := ⟨Tryd.underlying165, fun w => Tryd.sizeOf16 w⟩
instance : TyT Tryd.prog 166 0 true := ⟨fun w => Tryd.isAgg166 w, fun w => Tryd.sizeOf166 w⟩
instance : MkI Tryd.prog 166 := ⟨fun v w => by kernel_rfl⟩
instance : ZvT Tryd.prog 166 (.agg #[]) := ⟨fun w => Tryd.zeroValue166 w⟩
instance : BldT Tryd.prog 166 [(0, 0)] [] := ⟨fun parts => by kernel_rfl⟩
instance : TyT Tryd.prog 167 0 true := ⟨fun w => Tryd.isAgg167 w, fun w => Tryd.sizeOf167 w⟩
instance : MkI Tryd.prog 167 := ⟨fun v w => by kernel_rfl⟩
instance : ZvT Tryd.prog 167 (.agg #[]) := ⟨fun w => Tryd.zeroValue167 w⟩
instance : BldT Tryd.prog 167 [(0, 0)] [] := ⟨fun parts => by kernel_rfl⟩
instance : TyT Tryd.prog 169 1 false := ⟨fun w => Tryd.isAgg169 w, fun w => Tryd.sizeOf169 w⟩
instance : MkI Tryd.prog 169 := ⟨fun v w => by kernel_rfl⟩
instance : IntT Tryd.prog 169 .u8 := ⟨Tryd.underlying169⟩
instance : ZvT Tryd.prog 169 (.int .u8 0) := ⟨fun w => Tryd.zeroValue169 w⟩
instance : TyT Tryd.prog 171 1 false := ⟨fun w => Tryd.isAgg171 w, fun w => Tryd.sizeOf171 w⟩
instance : MkI Tryd.prog 171 := ⟨fun v w => by kernel_rfl⟩
instance : ZvT Tryd.prog 171 (.pointer none) := ⟨fun w => Tryd.zeroValue171 w⟩
instance : TyT Tryd.prog 172 1 false := ⟨fun w => Tryd.isAgg172 w, fun w => Tryd.sizeOf172 w⟩
instance : MkI Tryd.prog 172 := ⟨fun v w => by kernel_rfl⟩
instance : IntT Tryd.prog 172 .i32 := ⟨Tryd.underlying172⟩
instance : ZvT Tryd.prog 172 (.int .i32 0) := ⟨fun w => Tryd.zeroValue172 w⟩
instance : TyT Tryd.prog 173 1 false := ⟨fun w => Tryd.isAgg173 w, fun w => Tryd.sizeOf173 w⟩
instance : MkI Tryd.prog 173 := ⟨fun v w => by kernel_rfl⟩
instance : IntT Tryd.prog 173 .i32 := ⟨Tryd.underlying173⟩
instance : ZvT Tryd.prog 173 (.int .i32 0) := ⟨fun w => Tryd.zeroValue173 w⟩
instance : TyT Tryd.prog 174 11 true := ⟨fun w => Tryd.isAgg174 w, fun w => Tryd.sizeOf174 w⟩
instance : MkI Tryd.prog 174 := ⟨fun v w => by kernel_rfl⟩
instance : ZvT Tryd.prog 174 (.agg #[.int .u64 0, .int .u64 0, .int .u32 0, .int .u8 0, .int .u8 0, .int .u8 0, .int .u8 0, .nilFunc, .pointer none, .int .i32 0, .int .i32 0]) := ⟨fun w => Tryd.zeroValue174 w⟩
instance : FdT Tryd.prog 174 0 0 12 := ⟨fun a w => by kernel_rfl, fun cs w => by kernel_rfl⟩
instance : FdT Tryd.prog 174 1 1 12 := ⟨fun a w => by kernel_rfl, fun cs w => by kernel_rfl⟩
instance : FdT Tryd.prog 174 2 2 151 := ⟨fun a w => by kernel_rfl, fun cs w => by kernel_rfl⟩
instance : FdT Tryd.prog 174 3 3 169 := ⟨fun a w => by kernel_rfl, fun cs w => by kernel_rfl⟩
instance : FdT Tryd.prog 174 4 4 5 := ⟨fun a w => by kernel_rfl, fun cs w => by kernel_rfl⟩
instance : FdT Tryd.prog 174 5 5 5 := ⟨fun a w => by kernel_rfl, fun cs w => by kernel_rfl⟩
instance : FdT Tryd.prog 174 6 6 116 := ⟨fun a w => by kernel_rfl, fun cs w => by kernel_rfl⟩
instance : FdT Tryd.prog 174 8 8 171 := ⟨fun a w => by kernel_rfl, fun cs w => by kernel_rfl⟩
instance : FdT Tryd.prog 174 9 9 172 := ⟨fun a w => by kernel_rfl, fun cs w => by kernel_rfl⟩
instance : FdT Tryd.prog 174 10 10 173 := ⟨fun a w => by kernel_rfl, fun cs w => by kernel_rfl⟩
instance : TyT Tryd.prog 175 11 true := ⟨fun w => Tryd.isAgg175 w, fun w => Tryd.sizeOf175 w⟩
instance : MkI Tryd.prog 175 := ⟨fun v w => by kernel_rfl⟩
instance : ZvT Tryd.prog 175 (.agg #[.int .u64 0, .int .u64 0, .int .u32 0, .int .u8 0, .int .u8 0, .int .u8 0, .int .u8 0, .nilFunc, .pointer none, .int .i32 0, .int .i32 0]) := ⟨fun w => Tryd.zeroValue175 w⟩
instance : FdT Tryd.prog 175 0 0 12 := ⟨fun a w => by kernel_rfl, fun cs w => by kernel_rfl⟩
instance : FdT Tryd.prog 175 1 1 12 := ⟨fun a w => by kernel_rfl, fun cs w => by kernel_rfl⟩
instance : FdT Tryd.prog 175 2 2 151 := ⟨fun a w => by kernel_rfl, fun cs w => by kernel_rfl⟩
instance : FdT Tryd.prog 175 3 3 169 := ⟨fun a w => by kernel_rfl, fun cs w => by kernel_rfl⟩
instance : FdT Tryd.prog 175 4 4 5 := ⟨fun a w => by kernel_rfl, fun cs w => by kernel_rfl⟩
instance : FdT Tryd.prog 175 5 5 5 := ⟨fun a w => by kernel_rfl, fun cs w => by kernel_rfl⟩
instance : FdT Tryd.prog 175 6 6 116 := ⟨fun a w => by kernel_rfl, fun cs w => by kernel_rfl⟩
instance : FdT Tryd.prog 175 8 8 171 := ⟨fun a w => by kernel_rfl, fun cs w => by kernel_rfl⟩
instance : FdT Tryd.prog 175 9 9 172 := ⟨fun a w => by kernel_rfl, fun cs w => by kernel_rfl⟩
instance : FdT Tryd.prog 175 10 10 173 := ⟨fun a w => by kernel_rfl, fun cs w => by kernel_rfl⟩
instance : TyT Tryd.prog 178 2 true := ⟨fun w => Tryd.isAgg178 w, fun w => Tryd.sizeOf178 w⟩
instance : MkI Tryd.prog 178 := ⟨fun v w => by kernel_rfl⟩
instance : ZvT Tryd.prog 178 (.agg #[.string ⟨#[]⟩, .int .u8 0]) := ⟨fun w => Tryd.zeroValue178 w⟩
instance : FdT Tryd.prog 178 0 0 9 := ⟨fun a w => by kernel_rfl, fun cs w => by kernel_rfl⟩
instance : FdT Tryd.prog 178 1 1 116 := ⟨fun a w => by kernel_rfl, fun cs w => by kernel_rfl⟩
instance : BldT Tryd.prog 178 [(0, 1), (1, 1)] [.string ⟨#[]⟩, .int .u8 0] := ⟨fun parts => by kernel_rfl⟩
instance : TyT Tryd.prog 179 2 true := ⟨fun w => Tryd.isAgg179 w, fun w => Tryd.sizeOf179 w⟩
instance : MkI Tryd.prog 179 := ⟨fun v w => by kernel_rfl⟩
instance : ZvT Tryd.prog 179 (.agg #[.string ⟨#[]⟩, .int .u8 0]) := ⟨fun w => Tryd.zeroValue179 w⟩
instance : FdT Tryd.prog 179 0 0 9 := ⟨fun a w => by kernel_rfl, fun cs w => by kernel_rfl⟩
instance : FdT Tryd.prog 179 1 1 116 := ⟨fun a w => by kernel_rfl, fun cs w => by kernel_rfl⟩
instance : BldT Tryd.prog 179 [(0, 1), (1, 1)] [.string ⟨#[]⟩, .int .u8 0] := ⟨fun parts => by kernel_rfl⟩
instance : TyT Tryd.prog 180 1 false := ⟨fun w => Tryd.isAgg180 w, fun w => Tryd.sizeOf180 w⟩
instance : MkI Tryd.prog 180 := ⟨fun v w => by kernel_rfl⟩
instance : ZvT Tryd.prog 180 (.pointer none) := ⟨fun w => Tryd.zeroValue180 w⟩
instance : TyT Tryd.prog 182 1 false := ⟨fun w => Tryd.isAgg182 w, fun w => Tryd.sizeOf182 w⟩
instance : MkI Tryd.prog 182 := ⟨fun v w => by kernel_rfl⟩
instance : IntT Tryd.prog 182 .u16 := ⟨Tryd.underlying182⟩
instance : ZvT Tryd.prog 182 (.int .u16 0) := ⟨fun w => Tryd.zeroValue182 w⟩
instance : TyT Tryd.prog 183 5 true := ⟨fun w => Tryd.isAgg183 w, fun w => Tryd.sizeOf183 w⟩
instance : MkI Tryd.prog 183 := ⟨fun v w => by kernel_rfl⟩
instance : ZvT Tryd.prog 183 (.agg #[.int .i32 0, .int .u16 0, .int .u16 0, .int .u32 0, .int .u32 0]) := ⟨fun w => Tryd.zeroValue183 w⟩
instance : FdT Tryd.prog 183 0 0 172 := ⟨fun a w => by kernel_rfl, fun cs w => by kernel_rfl⟩
instance : FdT Tryd.prog 183 1 1 182 := ⟨fun a w => by kernel_rfl, fun cs w => by kernel_rfl⟩
instance : FdT Tryd.prog 183 2 2 182 := ⟨fun a w => by kernel_rfl, fun cs w => by kernel_rfl⟩
instance : FdT Tryd.prog 183 3 3 151 := ⟨fun a w => by kernel_rfl, fun cs w => by kernel_rfl⟩
instance : FdT Tryd.prog 183 4 4 151 := ⟨fun a w => by kernel_rfl, fun cs w => by kernel_rfl⟩
instance : BldT Tryd.prog 183 [(0, 1), (1, 1), (2, 1), (3, 1), (4, 1)] [.int .i32 0, .int .u16 0, .int .u16 0, .int .u32 0, .int .u32 0] := ⟨fun parts => by kernel_rfl⟩
instance : TyT Tryd.prog 184 5 true := ⟨fun w => Tryd.isAgg184 w, fun w => Tryd.sizeOf184 w⟩
instance : MkI Tryd.prog 184 := ⟨fun v w => by kernel_rfl⟩
instance : ZvT Tryd.prog 184 (.agg #[.int .i32 0, .int .u16 0, .int .u16 0, .int .u32 0, .int .u32 0]) := ⟨fun w => Tryd.zeroValue184 w⟩
instance : FdT Tryd.prog 184 0 0 172 := ⟨fun a w => by kernel_rfl, fun cs w => by kernel_rfl⟩
instance : FdT Tryd.prog 184 1 1 182 := ⟨fun a w => by kernel_rfl, fun cs w => by kernel_rfl⟩
instance : FdT Tryd.prog 184 2 2 182 := ⟨fun a w => by kernel_rfl, fun cs w => by kernel_rfl⟩
instance : FdT Tryd.prog 184 3 3 151 := ⟨fun a w => by kernel_rfl, fun cs w => by kernel_rfl⟩
instance : FdT Tryd.prog 184 4 4 151 := ⟨fun a w => by kernel_rfl, fun cs w => by kernel_rfl⟩
instance : BldT Tryd.prog 184 [(0, 1), (1, 1), (2, 1), (3, 1), (4, 1)] [.int .i32 0, .int .u16 0, .int .u16 0, .int .u32 0, .int .u32 0] := ⟨fun parts => by kernel_rfl⟩
instance : TyT Tryd.prog 185 1 false := ⟨fun w => Tryd.isAgg185 w, fun w => Tryd.sizeOf185 w⟩
instance : MkI Tryd.prog 185 := ⟨fun v w => by kernel_rfl⟩
instance : ZvT Tryd.prog 185 (.slice none 0 0) := ⟨fun w => Tryd.zeroValue185 w⟩
instance : SlT Tryd.prog 185 188 4 16 (.agg #[.int .i32 0, .int .i32 0, .int .i32 0, .int .i32 0]) := ⟨by kernel_rfl, by kernel_rfl, rfl, by decide, by decide⟩
instance : TyT Tryd.prog 186 1 false := ⟨fun w => Tryd.isAgg186 w, fun w => Tryd.sizeOf186 w⟩
instance : MkI Tryd.prog 186 := ⟨fun v w => by kernel_rfl⟩
instance : IntT Tryd.prog 186 .i32 := ⟨Tryd.underlying186⟩
instance : ZvT Tryd.prog 186 (.int .i32 0) := ⟨fun w => Tryd.zeroValue186 w⟩
instance : TyT Tryd.prog 187 4 true := ⟨fun w => Tryd.isAgg187 w, fun w => Tryd.sizeOf187 w⟩
instance : MkI Tryd.prog 187 := ⟨fun v w => by kernel_rfl⟩
instance : ZvT Tryd.prog 187 (.agg #[.int .i32 0, .int .i32 0, .int .i32 0, .int .i32 0]) := ⟨fun w => Tryd.zeroValue187 w⟩
instance : FdT Tryd.prog 187 0 0 172 := ⟨fun a w => by kernel_rfl, fun cs w => by kernel_rfl⟩
instance : FdT Tryd.prog 187 1 1 173 := ⟨fun a w => by kernel_rfl, fun cs w => by kernel_rfl⟩
instance : FdT Tryd.prog 187 2 2 186 := ⟨fun a w => by kernel_rfl, fun cs w => by kernel_rfl⟩
instance : FdT Tryd.prog 187 3 3 186 := ⟨fun a w => by kernel_rfl, fun cs w => by kernel_rfl⟩
instance : BldT Tryd.prog 187 [(0, 1), (1, 1), (2, 1), (3, 1)] [.int .i32 0, .int .i32 0, .int .i32 0, .int .i32 0] := ⟨fun parts => by kernel_rfl⟩
instance : TyT Tryd.prog 188 4 true := ⟨fun w => Tryd.isAgg188 w, fun w => Tryd.sizeOf188 w⟩
instance : MkI Tryd.prog 188 := ⟨fun v w => by kernel_rfl⟩
instance : ZvT Tryd.prog 188 (.agg #[.int .i32 0, .int .i32 0, .int .i32 0, .int .i32 0]) := ⟨fun w => Tryd.zeroValue188 w⟩
instance : FdT Tryd.prog 188 0 0 172 := ⟨fun a w => by kernel_rfl, fun cs w => by kernel_rfl⟩
instance : FdT Tryd.prog 188 1 1 173 := ⟨fun a w => by kernel_rfl, fun cs w => by kernel_rfl⟩
instance : FdT Tryd.prog 188 2 2 186 := ⟨fun a w => by kernel_rfl, fun cs w => by kernel_rfl⟩
instance : FdT Tryd.prog 188 3 3 186 := ⟨fun a w => by kernel_rfl, fun cs w => by kernel_rfl⟩
instance : BldT Tryd.prog 188 [(0, 1), (1, 1), (2, 1), (3, 1)] [.int .i32 0, .int .i32 0, .int .i32 0, .int .i32 0] := ⟨fun parts => by kernel_rfl⟩
instance : TyT Tryd.prog 189 1 false := ⟨fun w => Tryd.isAgg189 w, fun w => Tryd.sizeOf189 w⟩
instance : MkI Tryd.prog 189 := ⟨fun v w => by kernel_rfl⟩
instance : ZvT Tryd.prog 189 (.pointer none) := ⟨fun w => Tryd.zeroValue189 w⟩
/- Functions with a body. -/
instance : CalT Tryd.prog 2 := ⟨fun args w => Tryd.call2 args w⟩
instance : CalT Tryd.prog 3 := ⟨fun args w => Tryd.call3 args w⟩
instance : CalT Tryd.prog 4 := ⟨fun args w => Tryd.call4 args w⟩
instance : CalT Tryd.prog 5 := ⟨fun args w => Tryd.call5 args w⟩
instance : CalT Tryd.prog 6 := ⟨fun args w => Tryd.call6 args w⟩
instance : CalT Tryd.prog 7 := ⟨fun args w => Tryd.call7 args w⟩
instance : CalT Tryd.prog 8 := ⟨fun args w => Tryd.call8 args w⟩
instance : CalT Tryd.prog 9 := ⟨fun args w => Tryd.call9 args w⟩
instance : CalT Tryd.prog 10 := ⟨fun args w => Tryd.call10 args w⟩
instance : CalT Tryd.prog 11 := ⟨fun args w => Tryd.call11 args w⟩
instance : CalT Tryd.prog 12 := ⟨fun args w => Tryd.call12 args w⟩
instance : CalT Tryd.prog 13 := ⟨fun args w => Tryd.call13 args w⟩
instance : CalT Tryd.prog 14 := ⟨fun args w => Tryd.call14 args w⟩
instance : CalT Tryd.prog 15 := ⟨fun args w => Tryd.call15 args w⟩
instance : CalT Tryd.prog 16 := ⟨fun args w => Tryd.call16 args w⟩
instance : CalT Tryd.prog 17 := ⟨fun args w => Tryd.call17 args w⟩
instance : CalT Tryd.prog 18 := ⟨fun args w => Tryd.call18 args w⟩
instance : CalT Tryd.prog 19 := ⟨fun args w => Tryd.call19 args w⟩
instance : CalT Tryd.prog 20 := ⟨fun args w => Tryd.call20 args w⟩
instance : CalT Tryd.prog 21 := ⟨fun args w => Tryd.call21 args w⟩
instance : CalT Tryd.prog 22 := ⟨fun args w => Tryd.call22 args w⟩
instance : CalT Tryd.prog 23 := ⟨fun args w => Tryd.call23 args w⟩
instance : CalT Tryd.prog 24 := ⟨fun args w => Tryd.call24 args w⟩
instance : CalT Tryd.prog 25 := ⟨fun args w => Tryd.call25 args w⟩
instance : CalT Tryd.prog 26 := ⟨fun args w => Tryd.call26 args w⟩
instance : CalT Tryd.prog 27 := ⟨fun args w => Tryd.call27 args w⟩
instance : CalT Tryd.prog 28 := ⟨fun args w => Tryd.call28 args w⟩
instance : CalT Tryd.prog 29 := ⟨fun args w => Tryd.call29 args w⟩
instance : CalT Tryd.prog 30 := ⟨fun args w => Tryd.call30 args w⟩
instance : CalT Tryd.prog 31 := ⟨fun args w => Tryd.call31 args w⟩
instance : CalT Tryd.prog 32 := ⟨fun args w => Tryd.call32 args w⟩
instance : CalT Tryd.prog 33 := ⟨fun args w => Tryd.call33 args w⟩
instance : CalT Tryd.prog 34 := ⟨fun args w => Tryd.call34 args w⟩
instance : CalT Tryd.prog 35 := ⟨fun args w => Tryd.call35 args w⟩
instance : CalT Tryd.prog 36 := ⟨fun args w => Tryd.call36 args w⟩
instance : CalT Tryd.prog 37 := ⟨fun args w => Tryd.call37 args w⟩
instance : CalT Tryd.prog 38 := ⟨fun args w => Tryd.call38 args w⟩
instance : CalT Tryd.prog 40 := ⟨fun args w => Tryd.call40 args w⟩
instance : CalT Tryd.prog 41 := ⟨fun args w => Tryd.call41 args w⟩
instance : CalT Tryd.prog 42 := ⟨fun args w => Tryd.call42 args w⟩
instance : CalT Tryd.prog 43 := ⟨fun args w => Tryd.call43 args w⟩
instance : CalT Tryd.prog 44 := ⟨fun args w => Tryd.call44 args w⟩
instance : CalT Tryd.prog 45 := ⟨fun args w => Tryd.call45 args w⟩
instance : CalT Tryd.prog 46 := ⟨fun args w => Tryd.call46 args w⟩
instance : CalT Tryd.prog 47 := ⟨fun args w => Tryd.call47 args w⟩
instance : CalT Tryd.prog 48 := ⟨fun args w => Tryd.call48 args w⟩
instance : CalT Tryd.prog 49 := ⟨fun args w => Tryd.call49 args w⟩
instance : CalT Tryd.prog 50 := ⟨fun args w => Tryd.call50 args w⟩
instance : CalT Tryd.prog 51 := ⟨fun args w => Tryd.call51 args w⟩
instance : CalT Tryd.prog 52 := ⟨fun args w => Tryd.call52 args w⟩
instance : CalT Tryd.prog 56 := ⟨fun args w => Tryd.call56 args w⟩
instance : CalT Tryd.prog 57 := ⟨fun args w => Tryd.call57 args w⟩
instance : CalT Tryd.prog 58 := ⟨fun args w => Tryd.call58 args w⟩
instance : CalT Tryd.prog 59 := ⟨fun args w => Tryd.call59 args w⟩
instance : CalT Tryd.prog 60 := ⟨fun args w => Tryd.call60 args w⟩
instance : CalT Tryd.prog 64 := ⟨fun args w => Tryd.call64 args w⟩
instance : CalT Tryd.prog 65 := ⟨fun args w => Tryd.call65 args w⟩
instance : CalT Tryd.prog 66 := ⟨fun args w => Tryd.call66 args w⟩
instance : CalT Tryd.prog 67 := ⟨fun args w => Tryd.call67 args w⟩
instance : CalT Tryd.prog 68 := ⟨fun args w => Tryd.call68 args w⟩
instance : CalT Tryd.prog 69 := ⟨fun args w => Tryd.call69 args w⟩
instance : CalT Tryd.prog 70 := ⟨fun args w => Tryd.call70 args w⟩
instance : CalT Tryd.prog 71 := ⟨fun args w => Tryd.call71 args w⟩
instance : CalT Tryd.prog 72 := ⟨fun args w => Tryd.call72 args w⟩
instance : CalT Tryd.prog 73 := ⟨fun args w => Tryd.call73 args w⟩
instance : CalT Tryd.prog 74 := ⟨fun args w => Tryd.call74 args w⟩
instance : CalT Tryd.prog 75 := ⟨fun args w => Tryd.call75 args w⟩
instance : CalT Tryd.prog 76 := ⟨fun args w => Tryd.call76 args w⟩
instance : CalT Tryd.prog 77 := ⟨fun args w => Tryd.call77 args w⟩
instance : CalT Tryd.prog 78 := ⟨fun args w => Tryd.call78 args w⟩
instance : CalT Tryd.prog 79 := ⟨fun args w => Tryd.call79 args w⟩
instance : CalT Tryd.prog 80 := ⟨fun args w => Tryd.call80 args w⟩
instance : CalT Tryd.prog 81 := ⟨fun args w => Tryd.call81 args w⟩
instance : CalT Tryd.prog 82 := ⟨fun args w => Tryd.call82 args w⟩
instance : CalT Tryd.prog 83 := ⟨fun args w => Tryd.call83 args w⟩
instance : CalT Tryd.prog 84 := ⟨fun args w => Tryd.call84 args w⟩
instance : CalT Tryd.prog 85 := ⟨fun args w => Tryd.call85 args w⟩
instance : CalT Tryd.prog 122 := ⟨fun args w => Tryd.call122 args w⟩
end Go.Proofs.YtejndjmlgacffaaDoor
