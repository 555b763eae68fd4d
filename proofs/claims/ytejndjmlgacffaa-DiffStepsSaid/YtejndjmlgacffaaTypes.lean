/- The seat's types and functions, as instances. Printed by wip/tools/types.py. -/
import Derived.Test.YtejndjmlgacffaaEngB
import Derived.Test.YtejndjmlgacffaaProg
import Derived.KernelRfl
namespace Go.Proofs.Ytejndjmlgacffaa
open Go.Port
instance : TyT Try.prog 2 1 false := ⟨fun w => Try.isAgg2 w, fun w => Try.sizeOf2 w⟩
instance : MkI Try.prog 2 := ⟨fun v w => by kernel_rfl⟩
instance : IntT Try.prog 2 .i64 := ⟨Try.underlying2⟩
instance : ZvT Try.prog 2 (.int .i64 0) := ⟨fun w => Try.zeroValue2 w⟩
instance : TyT Try.prog 3 1 false := ⟨fun w => Try.isAgg3 w, fun w => Try.sizeOf3 w⟩
instance : MkI Try.prog 3 := ⟨fun v w => by kernel_rfl⟩
instance : IntT Try.prog 3 .i64 := ⟨Try.underlying3⟩
instance : ZvT Try.prog 3 (.int .i64 0) := ⟨fun w => Try.zeroValue3 w⟩
instance : TyT Try.prog 4 1 false := ⟨fun w => Try.isAgg4 w, fun w => Try.sizeOf4 w⟩
instance : MkI Try.prog 4 := ⟨fun v w => by kernel_rfl⟩
instance : ZvT Try.prog 4 (.bool false) := ⟨fun w => Try.zeroValue4 w⟩
instance : TyT Try.prog 5 1 false := ⟨fun w => Try.isAgg5 w, fun w => Try.sizeOf5 w⟩
instance : MkI Try.prog 5 := ⟨fun v w => by kernel_rfl⟩
instance : IntT Try.prog 5 .u8 := ⟨Try.underlying5⟩
instance : ZvT Try.prog 5 (.int .u8 0) := ⟨fun w => Try.zeroValue5 w⟩
instance : TyT Try.prog 6 1 false := ⟨fun w => Try.isAgg6 w, fun w => Try.sizeOf6 w⟩
instance : MkI Try.prog 6 := ⟨fun v w => by kernel_rfl⟩
instance : IntT Try.prog 6 .u8 := ⟨Try.underlying6⟩
instance : ZvT Try.prog 6 (.int .u8 0) := ⟨fun w => Try.zeroValue6 w⟩
instance : TyT Try.prog 7 4 true := ⟨fun w => Try.isAgg7 w, fun w => Try.sizeOf7 w⟩
instance : MkI Try.prog 7 := ⟨fun v w => by kernel_rfl⟩
instance : ZvT Try.prog 7 (.agg #[.int .i64 0, .int .i64 0, .bool false, .int .u8 0]) := ⟨fun w => Try.zeroValue7 w⟩
instance : FdT Try.prog 7 0 0 2 := ⟨fun a w => by kernel_rfl, fun cs w => by kernel_rfl⟩
instance : FdT Try.prog 7 1 1 3 := ⟨fun a w => by kernel_rfl, fun cs w => by kernel_rfl⟩
instance : FdT Try.prog 7 2 2 4 := ⟨fun a w => by kernel_rfl, fun cs w => by kernel_rfl⟩
instance : FdT Try.prog 7 3 3 6 := ⟨fun a w => by kernel_rfl, fun cs w => by kernel_rfl⟩
instance : BldT Try.prog 7 [(0, 1), (1, 1), (2, 1), (3, 1)] [.int .i64 0, .int .i64 0, .bool false, .int .u8 0] := ⟨fun parts => by kernel_rfl⟩
instance : TyT Try.prog 8 4 true := ⟨fun w => Try.isAgg8 w, fun w => Try.sizeOf8 w⟩
instance : MkI Try.prog 8 := ⟨fun v w => by kernel_rfl⟩
instance : ZvT Try.prog 8 (.agg #[.int .i64 0, .int .i64 0, .bool false, .int .u8 0]) := ⟨fun w => Try.zeroValue8 w⟩
instance : FdT Try.prog 8 0 0 2 := ⟨fun a w => by kernel_rfl, fun cs w => by kernel_rfl⟩
instance : FdT Try.prog 8 1 1 3 := ⟨fun a w => by kernel_rfl, fun cs w => by kernel_rfl⟩
instance : FdT Try.prog 8 2 2 4 := ⟨fun a w => by kernel_rfl, fun cs w => by kernel_rfl⟩
instance : FdT Try.prog 8 3 3 6 := ⟨fun a w => by kernel_rfl, fun cs w => by kernel_rfl⟩
instance : BldT Try.prog 8 [(0, 1), (1, 1), (2, 1), (3, 1)] [.int .i64 0, .int .i64 0, .bool false, .int .u8 0] := ⟨fun parts => by kernel_rfl⟩
instance : TyT Try.prog 9 1 false := ⟨fun w => Try.isAgg9 w, fun w => Try.sizeOf9 w⟩
instance : MkI Try.prog 9 := ⟨fun v w => by kernel_rfl⟩
instance : StrT Try.prog 9 := ⟨Try.underlying9⟩
instance : ZvT Try.prog 9 (.string ⟨#[]⟩) := ⟨fun w => Try.zeroValue9 w⟩
instance : TyT Try.prog 10 1 false := ⟨fun w => Try.isAgg10 w, fun w => Try.sizeOf10 w⟩
instance : MkI Try.prog 10 := ⟨fun v w => by kernel_rfl⟩
instance : StrT Try.prog 10 := ⟨Try.underlying10⟩
instance : ZvT Try.prog 10 (.string ⟨#[]⟩) := ⟨fun w => Try.zeroValue10 w⟩
instance : TyT Try.prog 11 1 false := ⟨fun w => Try.isAgg11 w, fun w => Try.sizeOf11 w⟩
instance : MkI Try.prog 11 := ⟨fun v w => by kernel_rfl⟩
instance : StrT Try.prog 11 := ⟨Try.underlying11⟩
instance : ZvT Try.prog 11 (.string ⟨#[]⟩) := ⟨fun w => Try.zeroValue11 w⟩
instance : TyT Try.prog 12 1 false := ⟨fun w => Try.isAgg12 w, fun w => Try.sizeOf12 w⟩
instance : MkI Try.prog 12 := ⟨fun v w => by kernel_rfl⟩
instance : IntT Try.prog 12 .u64 := ⟨Try.underlying12⟩
instance : ZvT Try.prog 12 (.int .u64 0) := ⟨fun w => Try.zeroValue12 w⟩
instance : TyT Try.prog 13 2 true := ⟨fun w => Try.isAgg13 w, fun w => Try.sizeOf13 w⟩
instance : MkI Try.prog 13 := ⟨fun v w => by kernel_rfl⟩
instance : ZvT Try.prog 13 (.agg #[.string ⟨#[]⟩, .int .u64 0]) := ⟨fun w => Try.zeroValue13 w⟩
instance : FdT Try.prog 13 0 0 9 := ⟨fun a w => by kernel_rfl, fun cs w => by kernel_rfl⟩
instance : FdT Try.prog 13 1 1 12 := ⟨fun a w => by kernel_rfl, fun cs w => by kernel_rfl⟩
instance : BldT Try.prog 13 [(0, 1), (1, 1)] [.string ⟨#[]⟩, .int .u64 0] := ⟨fun parts => by kernel_rfl⟩
instance : TyT Try.prog 14 2 true := ⟨fun w => Try.isAgg14 w, fun w => Try.sizeOf14 w⟩
instance : MkI Try.prog 14 := ⟨fun v w => by kernel_rfl⟩
instance : ZvT Try.prog 14 (.agg #[.string ⟨#[]⟩, .int .u64 0]) := ⟨fun w => Try.zeroValue14 w⟩
instance : FdT Try.prog 14 0 0 9 := ⟨fun a w => by kernel_rfl, fun cs w => by kernel_rfl⟩
instance : FdT Try.prog 14 1 1 12 := ⟨fun a w => by kernel_rfl, fun cs w => by kernel_rfl⟩
instance : BldT Try.prog 14 [(0, 1), (1, 1)] [.string ⟨#[]⟩, .int .u64 0] := ⟨fun parts => by kernel_rfl⟩
instance : TyT Try.prog 15 1 false := ⟨fun w => Try.isAgg15 w, fun w => Try.sizeOf15 w⟩
instance : MkI Try.prog 15 := ⟨fun v w => by kernel_rfl⟩
instance : ZvT Try.prog 15 (.pointer none) := ⟨fun w => Try.zeroValue15 w⟩
instance : TyT Try.prog 16 1 false := ⟨fun w => Try.isAgg16 w, fun w => Try.sizeOf16 w⟩
instance : MkI Try.prog 16 := ⟨fun v w => by kernel_rfl⟩
instance : ZvT Try.prog 16 (.pointer none) := ⟨fun w => Try.zeroValue16 w⟩
instance : TyT Try.prog 17 1 false := ⟨fun w => Try.isAgg17 w, fun w => Try.sizeOf17 w⟩
instance : MkI Try.prog 17 := ⟨fun v w => by kernel_rfl⟩
instance : ZvT Try.prog 17 (.pointer none) := ⟨fun w => Try.zeroValue17 w⟩
instance : TyT Try.prog 18 1 true := ⟨fun w => Try.isAgg18 w, fun w => Try.sizeOf18 w⟩
instance : MkI Try.prog 18 := ⟨fun v w => by kernel_rfl⟩
instance : ZvT Try.prog 18 (.agg #[.pointer none]) := ⟨fun w => Try.zeroValue18 w⟩
instance : FdT Try.prog 18 0 0 17 := ⟨fun a w => by kernel_rfl, fun cs w => by kernel_rfl⟩
instance : BldT Try.prog 18 [(0, 1)] [.pointer none] := ⟨fun parts => by kernel_rfl⟩
instance : TyT Try.prog 19 1 true := ⟨fun w => Try.isAgg19 w, fun w => Try.sizeOf19 w⟩
instance : MkI Try.prog 19 := ⟨fun v w => by kernel_rfl⟩
instance : ZvT Try.prog 19 (.agg #[.pointer none]) := ⟨fun w => Try.zeroValue19 w⟩
instance : FdT Try.prog 19 0 0 17 := ⟨fun a w => by kernel_rfl, fun cs w => by kernel_rfl⟩
instance : BldT Try.prog 19 [(0, 1)] [.pointer none] := ⟨fun parts => by kernel_rfl⟩
instance : TyT Try.prog 20 1 false := ⟨fun w => Try.isAgg20 w, fun w => Try.sizeOf20 w⟩
instance : IfT Try.prog 20 := ⟨⟨_, Try.underlying20⟩⟩
instance : ZvT Try.prog 20 (.nilIface) := ⟨fun w => Try.zeroValue20 w⟩
instance : TyT Try.prog 21 1 false := ⟨fun w => Try.isAgg21 w, fun w => Try.sizeOf21 w⟩
instance : MkI Try.prog 21 := ⟨fun v w => by kernel_rfl⟩
instance : IntT Try.prog 21 .i32 := ⟨Try.underlying21⟩
instance : ZvT Try.prog 21 (.int .i32 0) := ⟨fun w => Try.zeroValue21 w⟩
instance : TyT Try.prog 22 1 false := ⟨fun w => Try.isAgg22 w, fun w => Try.sizeOf22 w⟩
instance : MkI Try.prog 22 := ⟨fun v w => by kernel_rfl⟩
instance : ZvT Try.prog 22 (.slice none 0 0) := ⟨fun w => Try.zeroValue22 w⟩
instance : SlT Try.prog 22 31 11 104 (.agg #[.bool false, .bool false, .bool false, .int .i64 0, .int .i64 0, .int .i64 0, .int .i64 0, .int .i64 0, .int .i64 0, .slice none 0 0, .slice none 0 0]) := ⟨by kernel_rfl, by kernel_rfl, rfl, by decide, by decide⟩
instance : TyT Try.prog 23 1 false := ⟨fun w => Try.isAgg23 w, fun w => Try.sizeOf23 w⟩
instance : IfT Try.prog 23 := ⟨⟨_, Try.underlying23⟩⟩
instance : ZvT Try.prog 23 (.nilIface) := ⟨fun w => Try.zeroValue23 w⟩
instance : TyT Try.prog 24 1 false := ⟨fun w => Try.isAgg24 w, fun w => Try.sizeOf24 w⟩
instance : IfT Try.prog 24 := ⟨⟨_, Try.underlying24⟩⟩
instance : ZvT Try.prog 24 (.nilIface) := ⟨fun w => Try.zeroValue24 w⟩
instance : TyT Try.prog 27 2 true := ⟨fun w => Try.isAgg27 w, fun w => Try.sizeOf27 w⟩
instance : MkI Try.prog 27 := ⟨fun v w => by kernel_rfl⟩
instance : ZvT Try.prog 27 (.agg #[.int .i64 0, .int .i64 0]) := ⟨fun w => Try.zeroValue27 w⟩
instance : FdT Try.prog 27 0 0 3 := ⟨fun a w => by kernel_rfl, fun cs w => by kernel_rfl⟩
instance : FdT Try.prog 27 1 1 3 := ⟨fun a w => by kernel_rfl, fun cs w => by kernel_rfl⟩
instance : BldT Try.prog 27 [(0, 1), (1, 1)] [.int .i64 0, .int .i64 0] := ⟨fun parts => by kernel_rfl⟩
instance : TyT Try.prog 28 2 true := ⟨fun w => Try.isAgg28 w, fun w => Try.sizeOf28 w⟩
instance : MkI Try.prog 28 := ⟨fun v w => by kernel_rfl⟩
instance : ZvT Try.prog 28 (.agg #[.int .i64 0, .int .i64 0]) := ⟨fun w => Try.zeroValue28 w⟩
instance : FdT Try.prog 28 0 0 3 := ⟨fun a w => by kernel_rfl, fun cs w => by kernel_rfl⟩
instance : FdT Try.prog 28 1 1 3 := ⟨fun a w => by kernel_rfl, fun cs w => by kernel_rfl⟩
instance : BldT Try.prog 28 [(0, 1), (1, 1)] [.int .i64 0, .int .i64 0] := ⟨fun parts => by kernel_rfl⟩
instance : TyT Try.prog 29 1 false := ⟨fun w => Try.isAgg29 w, fun w => Try.sizeOf29 w⟩
instance : MkI Try.prog 29 := ⟨fun v w => by kernel_rfl⟩
instance : ZvT Try.prog 29 (.slice none 0 0) := ⟨fun w => Try.zeroValue29 w⟩
instance : SlT Try.prog 29 49 2 16 (.agg #[.int .i64 0, .int .i64 0]) := ⟨by kernel_rfl, by kernel_rfl, rfl, by decide, by decide⟩
instance : TyT Try.prog 30 11 true := ⟨fun w => Try.isAgg30 w, fun w => Try.sizeOf30 w⟩
instance : MkI Try.prog 30 := ⟨fun v w => by kernel_rfl⟩
instance : ZvT Try.prog 30 (.agg #[.bool false, .bool false, .bool false, .int .i64 0, .int .i64 0, .int .i64 0, .int .i64 0, .int .i64 0, .int .i64 0, .slice none 0 0, .slice none 0 0]) := ⟨fun w => Try.zeroValue30 w⟩
instance : FdT Try.prog 30 0 0 4 := ⟨fun a w => by kernel_rfl, fun cs w => by kernel_rfl⟩
instance : FdT Try.prog 30 1 1 4 := ⟨fun a w => by kernel_rfl, fun cs w => by kernel_rfl⟩
instance : FdT Try.prog 30 2 2 4 := ⟨fun a w => by kernel_rfl, fun cs w => by kernel_rfl⟩
instance : FdT Try.prog 30 3 3 3 := ⟨fun a w => by kernel_rfl, fun cs w => by kernel_rfl⟩
instance : FdT Try.prog 30 4 4 3 := ⟨fun a w => by kernel_rfl, fun cs w => by kernel_rfl⟩
instance : FdT Try.prog 30 5 5 28 := ⟨fun a w => by kernel_rfl, fun cs w => by kernel_rfl⟩
instance : FdT Try.prog 30 6 7 28 := ⟨fun a w => by kernel_rfl, fun cs w => by kernel_rfl⟩
instance : FdT Try.prog 30 7 9 29 := ⟨fun a w => by kernel_rfl, fun cs w => by kernel_rfl⟩
instance : FdT Try.prog 30 8 10 29 := ⟨fun a w => by kernel_rfl, fun cs w => by kernel_rfl⟩
instance : BldT Try.prog 30 [(0, 1), (1, 1), (2, 1), (3, 1), (4, 1), (5, 2), (7, 2), (9, 1), (10, 1)] [.bool false, .bool false, .bool false, .int .i64 0, .int .i64 0, .int .i64 0, .int .i64 0, .int .i64 0, .int .i64 0, .slice none 0 0, .slice none 0 0] := ⟨fun parts => by kernel_rfl⟩
instance : TyT Try.prog 31 11 true := ⟨fun w => Try.isAgg31 w, fun w => Try.sizeOf31 w⟩
instance : MkI Try.prog 31 := ⟨fun v w => by kernel_rfl⟩
instance : ZvT Try.prog 31 (.agg #[.bool false, .bool false, .bool false, .int .i64 0, .int .i64 0, .int .i64 0, .int .i64 0, .int .i64 0, .int .i64 0, .slice none 0 0, .slice none 0 0]) := ⟨fun w => Try.zeroValue31 w⟩
instance : FdT Try.prog 31 0 0 4 := ⟨fun a w => by kernel_rfl, fun cs w => by kernel_rfl⟩
instance : FdT Try.prog 31 1 1 4 := ⟨fun a w => by kernel_rfl, fun cs w => by kernel_rfl⟩
instance : FdT Try.prog 31 2 2 4 := ⟨fun a w => by kernel_rfl, fun cs w => by kernel_rfl⟩
instance : FdT Try.prog 31 3 3 3 := ⟨fun a w => by kernel_rfl, fun cs w => by kernel_rfl⟩
instance : FdT Try.prog 31 4 4 3 := ⟨fun a w => by kernel_rfl, fun cs w => by kernel_rfl⟩
instance : FdT Try.prog 31 5 5 28 := ⟨fun a w => by kernel_rfl, fun cs w => by kernel_rfl⟩
instance : FdT Try.prog 31 6 7 28 := ⟨fun a w => by kernel_rfl, fun cs w => by kernel_rfl⟩
instance : FdT Try.prog 31 7 9 29 := ⟨fun a w => by kernel_rfl, fun cs w => by kernel_rfl⟩
instance : FdT Try.prog 31 8 10 29 := ⟨fun a w => by kernel_rfl, fun cs w => by kernel_rfl⟩
instance : BldT Try.prog 31 [(0, 1), (1, 1), (2, 1), (3, 1), (4, 1), (5, 2), (7, 2), (9, 1), (10, 1)] [.bool false, .bool false, .bool false, .int .i64 0, .int .i64 0, .int .i64 0, .int .i64 0, .int .i64 0, .int .i64 0, .slice none 0 0, .slice none 0 0] := ⟨fun parts => by kernel_rfl⟩
instance : TyT Try.prog 32 1 false := ⟨fun w => Try.isAgg32 w, fun w => Try.sizeOf32 w⟩
instance : MkI Try.prog 32 := ⟨fun v w => by kernel_rfl⟩
instance : ZvT Try.prog 32 (.slice none 0 0) := ⟨fun w => Try.zeroValue32 w⟩
instance : SlT Try.prog 32 40 13 120 (.agg #[.int .i64 0, .bool false, .bool false, .bool false, .bool false, .int .i64 0, .int .i64 0, .int .i64 0, .int .i64 0, .int .i64 0, .int .i64 0, .slice none 0 0, .slice none 0 0]) := ⟨by kernel_rfl, by kernel_rfl, rfl, by decide, by decide⟩
instance : TyT Try.prog 39 13 true := ⟨fun w => Try.isAgg39 w, fun w => Try.sizeOf39 w⟩
instance : MkI Try.prog 39 := ⟨fun v w => by kernel_rfl⟩
instance : ZvT Try.prog 39 (.agg #[.int .i64 0, .bool false, .bool false, .bool false, .bool false, .int .i64 0, .int .i64 0, .int .i64 0, .int .i64 0, .int .i64 0, .int .i64 0, .slice none 0 0, .slice none 0 0]) := ⟨fun w => Try.zeroValue39 w⟩
instance : FdT Try.prog 39 0 0 3 := ⟨fun a w => by kernel_rfl, fun cs w => by kernel_rfl⟩
instance : FdT Try.prog 39 1 1 4 := ⟨fun a w => by kernel_rfl, fun cs w => by kernel_rfl⟩
instance : FdT Try.prog 39 2 2 31 := ⟨fun a w => by kernel_rfl, fun cs w => by kernel_rfl⟩
instance : BldT Try.prog 39 [(0, 1), (1, 1), (2, 11)] [.int .i64 0, .bool false, .bool false, .bool false, .bool false, .int .i64 0, .int .i64 0, .int .i64 0, .int .i64 0, .int .i64 0, .int .i64 0, .slice none 0 0, .slice none 0 0] := ⟨fun parts => by kernel_rfl⟩
instance : TyT Try.prog 40 13 true := ⟨fun w => Try.isAgg40 w, fun w => Try.sizeOf40 w⟩
instance : MkI Try.prog 40 := ⟨fun v w => by kernel_rfl⟩
instance : ZvT Try.prog 40 (.agg #[.int .i64 0, .bool false, .bool false, .bool false, .bool false, .int .i64 0, .int .i64 0, .int .i64 0, .int .i64 0, .int .i64 0, .int .i64 0, .slice none 0 0, .slice none 0 0]) := ⟨fun w => Try.zeroValue40 w⟩
instance : FdT Try.prog 40 0 0 3 := ⟨fun a w => by kernel_rfl, fun cs w => by kernel_rfl⟩
instance : FdT Try.prog 40 1 1 4 := ⟨fun a w => by kernel_rfl, fun cs w => by kernel_rfl⟩
instance : FdT Try.prog 40 2 2 31 := ⟨fun a w => by kernel_rfl, fun cs w => by kernel_rfl⟩
instance : BldT Try.prog 40 [(0, 1), (1, 1), (2, 11)] [.int .i64 0, .bool false, .bool false, .bool false, .bool false, .int .i64 0, .int .i64 0, .int .i64 0, .int .i64 0, .int .i64 0, .int .i64 0, .slice none 0 0, .slice none 0 0] := ⟨fun parts => by kernel_rfl⟩
instance : TyT Try.prog 42 1 false := ⟨fun w => Try.isAgg42 w, fun w => Try.sizeOf42 w⟩
instance : MkI Try.prog 42 := ⟨fun v w => by kernel_rfl⟩
instance : ZvT Try.prog 42 (.pointer none) := ⟨fun w => Try.zeroValue42 w⟩
instance : TyT Try.prog 46 3 true := ⟨fun w => Try.isAgg46 w, fun w => Try.sizeOf46 w⟩
instance : MkI Try.prog 46 := ⟨fun v w => by kernel_rfl⟩
instance : ZvT Try.prog 46 (.agg #[.int .i64 0, .int .i64 0, .int .i64 0]) := ⟨fun w => Try.zeroValue46 w⟩
instance : FdT Try.prog 46 0 0 3 := ⟨fun a w => by kernel_rfl, fun cs w => by kernel_rfl⟩
instance : FdT Try.prog 46 1 1 3 := ⟨fun a w => by kernel_rfl, fun cs w => by kernel_rfl⟩
instance : FdT Try.prog 46 2 2 3 := ⟨fun a w => by kernel_rfl, fun cs w => by kernel_rfl⟩
instance : BldT Try.prog 46 [(0, 1), (1, 1), (2, 1)] [.int .i64 0, .int .i64 0, .int .i64 0] := ⟨fun parts => by kernel_rfl⟩
instance : TyT Try.prog 47 3 true := ⟨fun w => Try.isAgg47 w, fun w => Try.sizeOf47 w⟩
instance : MkI Try.prog 47 := ⟨fun v w => by kernel_rfl⟩
instance : ZvT Try.prog 47 (.agg #[.int .i64 0, .int .i64 0, .int .i64 0]) := ⟨fun w => Try.zeroValue47 w⟩
instance : FdT Try.prog 47 0 0 3 := ⟨fun a w => by kernel_rfl, fun cs w => by kernel_rfl⟩
instance : FdT Try.prog 47 1 1 3 := ⟨fun a w => by kernel_rfl, fun cs w => by kernel_rfl⟩
instance : FdT Try.prog 47 2 2 3 := ⟨fun a w => by kernel_rfl, fun cs w => by kernel_rfl⟩
instance : BldT Try.prog 47 [(0, 1), (1, 1), (2, 1)] [.int .i64 0, .int .i64 0, .int .i64 0] := ⟨fun parts => by kernel_rfl⟩
instance : TyT Try.prog 49 2 true := ⟨fun w => Try.isAgg49 w, fun w => Try.sizeOf49 w⟩
instance : MkI Try.prog 49 := ⟨fun v w => by kernel_rfl⟩
instance : ZvT Try.prog 49 (.agg #[.int .i64 0, .int .i64 0]) := ⟨fun w => Try.zeroValue49 w⟩
instance : ArT Try.prog 49 2 3 1 := ⟨Try.underlying49, fun w => Try.sizeOf3 w⟩
instance : TyT Try.prog 53 1 false := ⟨fun w => Try.isAgg53 w, fun w => Try.sizeOf53 w⟩
instance : MkI Try.prog 53 := ⟨fun v w => by kernel_rfl⟩
instance : ZvT Try.prog 53 (.slice none 0 0) := ⟨fun w => Try.zeroValue53 w⟩
instance : SlT Try.prog 53 47 3 24 (.agg #[.int .i64 0, .int .i64 0, .int .i64 0]) := ⟨by kernel_rfl, by kernel_rfl, rfl, by decide, by decide⟩
instance : TyT Try.prog 57 1 false := ⟨fun w => Try.isAgg57 w, fun w => Try.sizeOf57 w⟩
instance : MkI Try.prog 57 := ⟨fun v w => by kernel_rfl⟩
instance : ZvT Try.prog 57 (.slice none 0 0) := ⟨fun w => Try.zeroValue57 w⟩
instance : SlT Try.prog 57 63 3 24 (.agg #[.int .i64 0, .int .i64 0, .int .i64 0]) := ⟨by kernel_rfl, by kernel_rfl, rfl, by decide, by decide⟩
instance : TyT Try.prog 58 1 false := ⟨fun w => Try.isAgg58 w, fun w => Try.sizeOf58 w⟩
instance : MkI Try.prog 58 := ⟨fun v w => by kernel_rfl⟩
instance : ZvT Try.prog 58 (.pointer none) := ⟨fun w => Try.zeroValue58 w⟩
instance : TyT Try.prog 62 3 true := ⟨fun w => Try.isAgg62 w, fun w => Try.sizeOf62 w⟩
instance : MkI Try.prog 62 := ⟨fun v w => by kernel_rfl⟩
instance : ZvT Try.prog 62 (.agg #[.int .i64 0, .int .i64 0, .int .i64 0]) := ⟨fun w => Try.zeroValue62 w⟩
instance : FdT Try.prog 62 0 0 28 := ⟨fun a w => by kernel_rfl, fun cs w => by kernel_rfl⟩
instance : FdT Try.prog 62 1 2 3 := ⟨fun a w => by kernel_rfl, fun cs w => by kernel_rfl⟩
instance : BldT Try.prog 62 [(0, 2), (2, 1)] [.int .i64 0, .int .i64 0, .int .i64 0] := ⟨fun parts => by kernel_rfl⟩
instance : TyT Try.prog 63 3 true := ⟨fun w => Try.isAgg63 w, fun w => Try.sizeOf63 w⟩
instance : MkI Try.prog 63 := ⟨fun v w => by kernel_rfl⟩
instance : ZvT Try.prog 63 (.agg #[.int .i64 0, .int .i64 0, .int .i64 0]) := ⟨fun w => Try.zeroValue63 w⟩
instance : FdT Try.prog 63 0 0 28 := ⟨fun a w => by kernel_rfl, fun cs w => by kernel_rfl⟩
instance : FdT Try.prog 63 1 2 3 := ⟨fun a w => by kernel_rfl, fun cs w => by kernel_rfl⟩
instance : BldT Try.prog 63 [(0, 2), (2, 1)] [.int .i64 0, .int .i64 0, .int .i64 0] := ⟨fun parts => by kernel_rfl⟩
instance : TyT Try.prog 73 1 false := ⟨fun w => Try.isAgg73 w, fun w => Try.sizeOf73 w⟩
instance : MkI Try.prog 73 := ⟨fun v w => by kernel_rfl⟩
instance : ZvT Try.prog 73 (.slice none 0 0) := ⟨fun w => Try.zeroValue73 w⟩
instance : SlT Try.prog 73 3 1 8 (.int .i64 0) := ⟨by kernel_rfl, by kernel_rfl, rfl, by decide, by decide⟩
instance : TyT Try.prog 74 1 false := ⟨fun w => Try.isAgg74 w, fun w => Try.sizeOf74 w⟩
instance : MkI Try.prog 74 := ⟨fun v w => by kernel_rfl⟩
instance : ZvT Try.prog 74 (.slice none 0 0) := ⟨fun w => Try.zeroValue74 w⟩
instance : SlT Try.prog 74 73 1 24 (.slice none 0 0) := ⟨by kernel_rfl, by kernel_rfl, rfl, by decide, by decide⟩
instance : TyT Try.prog 78 1 false := ⟨fun w => Try.isAgg78 w, fun w => Try.sizeOf78 w⟩
instance : MkI Try.prog 78 := ⟨fun v w => by kernel_rfl⟩
instance : IntT Try.prog 78 .i64 := ⟨Try.underlying78⟩
instance : ZvT Try.prog 78 (.int .i64 0) := ⟨fun w => Try.zeroValue78 w⟩
instance : TyT Try.prog 87 1 false := ⟨fun w => Try.isAgg87 w, fun w => Try.sizeOf87 w⟩
instance : MkI Try.prog 87 := ⟨fun v w => by kernel_rfl⟩
instance : ZvT Try.prog 87 (.map none) := ⟨fun w => Try.zeroValue87 w⟩
instance : TyT Try.prog 88 4 true := ⟨fun w => Try.isAgg88 w, fun w => Try.sizeOf88 w⟩
instance : MkI Try.prog 88 := ⟨fun v w => by kernel_rfl⟩
instance : ZvT Try.prog 88 (.agg #[.int .i64 0, .int .i64 0, .int .i64 0, .map none]) := ⟨fun w => Try.zeroValue88 w⟩
instance : FdT Try.prog 88 0 0 3 := ⟨fun a w => by kernel_rfl, fun cs w => by kernel_rfl⟩
instance : FdT Try.prog 88 1 1 3 := ⟨fun a w => by kernel_rfl, fun cs w => by kernel_rfl⟩
instance : FdT Try.prog 88 2 2 3 := ⟨fun a w => by kernel_rfl, fun cs w => by kernel_rfl⟩
instance : FdT Try.prog 88 3 3 87 := ⟨fun a w => by kernel_rfl, fun cs w => by kernel_rfl⟩
instance : BldT Try.prog 88 [(0, 1), (1, 1), (2, 1), (3, 1)] [.int .i64 0, .int .i64 0, .int .i64 0, .map none] := ⟨fun parts => by kernel_rfl⟩
instance : TyT Try.prog 89 4 true := ⟨fun w => Try.isAgg89 w, fun w => Try.sizeOf89 w⟩
instance : MkI Try.prog 89 := ⟨fun v w => by kernel_rfl⟩
instance : ZvT Try.prog 89 (.agg #[.int .i64 0, .int .i64 0, .int .i64 0, .map none]) := ⟨fun w => Try.zeroValue89 w⟩
instance : FdT Try.prog 89 0 0 3 := ⟨fun a w => by kernel_rfl, fun cs w => by kernel_rfl⟩
instance : FdT Try.prog 89 1 1 3 := ⟨fun a w => by kernel_rfl, fun cs w => by kernel_rfl⟩
instance : FdT Try.prog 89 2 2 3 := ⟨fun a w => by kernel_rfl, fun cs w => by kernel_rfl⟩
instance : FdT Try.prog 89 3 3 87 := ⟨fun a w => by kernel_rfl, fun cs w => by kernel_rfl⟩
instance : BldT Try.prog 89 [(0, 1), (1, 1), (2, 1), (3, 1)] [.int .i64 0, .int .i64 0, .int .i64 0, .map none] := ⟨fun parts => by kernel_rfl⟩
instance : TyT Try.prog 102 1 false := ⟨fun w => Try.isAgg102 w, fun w => Try.sizeOf102 w⟩
instance : MkI Try.prog 102 := ⟨fun v w => by kernel_rfl⟩
instance : ZvT Try.prog 102 (.pointer none) := ⟨fun w => Try.zeroValue102 w⟩
instance : TyT Try.prog 103 2 true := ⟨fun w => Try.isAgg103 w, fun w => Try.sizeOf103 w⟩
instance : MkI Try.prog 103 := ⟨fun v w => by kernel_rfl⟩
instance : ZvT Try.prog 103 (.agg #[.pointer none, .pointer none]) := ⟨fun w => Try.zeroValue103 w⟩
instance : ArT Try.prog 103 2 102 1 := ⟨Try.underlying103, fun w => Try.sizeOf102 w⟩
instance : TyT Try.prog 104 1 false := ⟨fun w => Try.isAgg104 w, fun w => Try.sizeOf104 w⟩
instance : MkI Try.prog 104 := ⟨fun v w => by kernel_rfl⟩
instance : ZvT Try.prog 104 (.pointer none) := ⟨fun w => Try.zeroValue104 w⟩
instance : TyT Try.prog 105 3 true := ⟨fun w => Try.isAgg105 w, fun w => Try.sizeOf105 w⟩
instance : MkI Try.prog 105 := ⟨fun v w => by kernel_rfl⟩
instance : ZvT Try.prog 105 (.agg #[.pointer none, .pointer none, .pointer none]) := ⟨fun w => Try.zeroValue105 w⟩
instance : FdT Try.prog 105 0 0 103 := ⟨fun a w => by kernel_rfl, fun cs w => by kernel_rfl⟩
instance : FdT Try.prog 105 1 2 104 := ⟨fun a w => by kernel_rfl, fun cs w => by kernel_rfl⟩
instance : BldT Try.prog 105 [(0, 2), (2, 1)] [.pointer none, .pointer none, .pointer none] := ⟨fun parts => by kernel_rfl⟩
instance : TyT Try.prog 106 3 true := ⟨fun w => Try.isAgg106 w, fun w => Try.sizeOf106 w⟩
instance : MkI Try.prog 106 := ⟨fun v w => by kernel_rfl⟩
instance : ZvT Try.prog 106 (.agg #[.pointer none, .pointer none, .pointer none]) := ⟨fun w => Try.zeroValue106 w⟩
instance : FdT Try.prog 106 0 0 103 := ⟨fun a w => by kernel_rfl, fun cs w => by kernel_rfl⟩
instance : FdT Try.prog 106 1 2 104 := ⟨fun a w => by kernel_rfl, fun cs w => by kernel_rfl⟩
instance : BldT Try.prog 106 [(0, 2), (2, 1)] [.pointer none, .pointer none, .pointer none] := ⟨fun parts => by kernel_rfl⟩
instance : TyT Try.prog 107 2 true := ⟨fun w => Try.isAgg107 w, fun w => Try.sizeOf107 w⟩
instance : MkI Try.prog 107 := ⟨fun v w => by kernel_rfl⟩
instance : ZvT Try.prog 107 (.agg #[.pointer none, .int .i64 0]) := ⟨fun w => Try.zeroValue107 w⟩
instance : FdT Try.prog 107 0 0 102 := ⟨fun a w => by kernel_rfl, fun cs w => by kernel_rfl⟩
instance : FdT Try.prog 107 1 1 3 := ⟨fun a w => by kernel_rfl, fun cs w => by kernel_rfl⟩
instance : BldT Try.prog 107 [(0, 1), (1, 1)] [.pointer none, .int .i64 0] := ⟨fun parts => by kernel_rfl⟩
instance : TyT Try.prog 108 2 true := ⟨fun w => Try.isAgg108 w, fun w => Try.sizeOf108 w⟩
instance : MkI Try.prog 108 := ⟨fun v w => by kernel_rfl⟩
instance : ZvT Try.prog 108 (.agg #[.pointer none, .int .i64 0]) := ⟨fun w => Try.zeroValue108 w⟩
instance : FdT Try.prog 108 0 0 102 := ⟨fun a w => by kernel_rfl, fun cs w => by kernel_rfl⟩
instance : FdT Try.prog 108 1 1 3 := ⟨fun a w => by kernel_rfl, fun cs w => by kernel_rfl⟩
instance : BldT Try.prog 108 [(0, 1), (1, 1)] [.pointer none, .int .i64 0] := ⟨fun parts => by kernel_rfl⟩
instance : TyT Try.prog 110 1 false := ⟨fun w => Try.isAgg110 w, fun w => Try.sizeOf110 w⟩
instance : MkI Try.prog 110 := ⟨fun v w => by kernel_rfl⟩
instance : ZvT Try.prog 110 (.slice none 0 0) := ⟨fun w => Try.zeroValue110 w⟩
instance : SlT Try.prog 110 102 1 8 (.pointer none) := ⟨by kernel_rfl, by kernel_rfl, rfl, by decide, by decide⟩
instance : TyT Try.prog 132 1 false := ⟨fun w => Try.isAgg132 w, fun w => Try.sizeOf132 w⟩
instance : MkI Try.prog 132 := ⟨fun v w => by kernel_rfl⟩
instance : IntT Try.prog 132 .u64 := ⟨Try.underlying132⟩
instance : ZvT Try.prog 132 (.int .u64 0) := ⟨fun w => Try.zeroValue132 w⟩
instance : TyT Try.prog 133 1 false := ⟨fun w => Try.isAgg133 w, fun w => Try.sizeOf133 w⟩
instance : MkI Try.prog 133 := ⟨fun v w => by kernel_rfl⟩
instance : ZvT Try.prog 133 (.pointer none) := ⟨fun w => Try.zeroValue133 w⟩
instance : TyT Try.prog 136 1 false := ⟨fun w => Try.isAgg136 w, fun w => Try.sizeOf136 w⟩
instance : MkI Try.prog 136 := ⟨fun v w => by kernel_rfl⟩
instance : ZvT Try.prog 136 (.slice none 0 0) := ⟨fun w => Try.zeroValue136 w⟩
instance : SlT Try.prog 136 28 2 16 (.agg #[.int .i64 0, .int .i64 0]) := ⟨by kernel_rfl, by kernel_rfl, rfl, by decide, by decide⟩
instance : TyT Try.prog 137 1 false := ⟨fun w => Try.isAgg137 w, fun w => Try.sizeOf137 w⟩
instance : MkI Try.prog 137 := ⟨fun v w => by kernel_rfl⟩
instance : ZvT Try.prog 137 (.slice none 0 0) := ⟨fun w => Try.zeroValue137 w⟩
instance : SlT Try.prog 137 29 1 24 (.slice none 0 0) := ⟨by kernel_rfl, by kernel_rfl, rfl, by decide, by decide⟩
instance : TyT Try.prog 141 1 false := ⟨fun w => Try.isAgg141 w, fun w => Try.sizeOf141 w⟩
instance : MkI Try.prog 141 := ⟨fun v w => by kernel_rfl⟩
instance : IntT Try.prog 141 .i64 := ⟨Try.underlying141⟩
instance : ZvT Try.prog 141 (.int .i64 0) := ⟨fun w => Try.zeroValue141 w⟩
instance : TyT Try.prog 148 1 false := ⟨fun w => Try.isAgg148 w, fun w => Try.sizeOf148 w⟩
instance : MkI Try.prog 148 := ⟨fun v w => by kernel_rfl⟩
instance : IntT Try.prog 148 .u32 := ⟨Try.underlying148⟩
instance : ZvT Try.prog 148 (.int .u32 0) := ⟨fun w => Try.zeroValue148 w⟩
instance : TyT Try.prog 150 1 false := ⟨fun w => Try.isAgg150 w, fun w => Try.sizeOf150 w⟩
instance : MkI Try.prog 150 := ⟨fun v w => by kernel_rfl⟩
instance : IntT Try.prog 150 .u64 := ⟨Try.underlying150⟩
instance : ZvT Try.prog 150 (.int .u64 0) := ⟨fun w => Try.zeroValue150 w⟩
instance : TyT Try.prog 162 1 false := ⟨fun w => Try.isAgg162 w, fun w => Try.sizeOf162 w⟩
instance : MkI Try.prog 162 := ⟨fun v w => by kernel_rfl⟩
instance : IntT Try.prog 162 .u64 := ⟨Try.underlying162⟩
instance : ZvT Try.prog 162 (.int .u64 0) := ⟨fun w => Try.zeroValue162 w⟩
instance : TyT Try.prog 173 1 false := ⟨fun w => Try.isAgg173 w, fun w => Try.sizeOf173 w⟩
instance : MkI Try.prog 173 := ⟨fun v w => by kernel_rfl⟩
instance : ZvT Try.prog 173 (.pointer none) := ⟨fun w => Try.zeroValue173 w⟩
instance : TyT Try.prog 187 4 true := ⟨fun w => Try.isAgg187 w, fun w => Try.sizeOf187 w⟩
instance : MkI Try.prog 187 := ⟨fun v w => by kernel_rfl⟩
instance : ZvT Try.prog 187 (.agg #[.pointer none, .pointer none, .pointer none, .string ⟨#[]⟩]) := ⟨fun w => Try.zeroValue187 w⟩
instance : FdT Try.prog 187 0 0 17 := ⟨fun a w => by kernel_rfl, fun cs w => by kernel_rfl⟩
instance : FdT Try.prog 187 1 1 17 := ⟨fun a w => by kernel_rfl, fun cs w => by kernel_rfl⟩
instance : FdT Try.prog 187 2 2 17 := ⟨fun a w => by kernel_rfl, fun cs w => by kernel_rfl⟩
instance : FdT Try.prog 187 3 3 9 := ⟨fun a w => by kernel_rfl, fun cs w => by kernel_rfl⟩
instance : BldT Try.prog 187 [(0, 1), (1, 1), (2, 1), (3, 1)] [.pointer none, .pointer none, .pointer none, .string ⟨#[]⟩] := ⟨fun parts => by kernel_rfl⟩
instance : TyT Try.prog 188 4 true := ⟨fun w => Try.isAgg188 w, fun w => Try.sizeOf188 w⟩
instance : MkI Try.prog 188 := ⟨fun v w => by kernel_rfl⟩
instance : ZvT Try.prog 188 (.agg #[.pointer none, .pointer none, .pointer none, .string ⟨#[]⟩]) := ⟨fun w => Try.zeroValue188 w⟩
instance : FdT Try.prog 188 0 0 17 := ⟨fun a w => by kernel_rfl, fun cs w => by kernel_rfl⟩
instance : FdT Try.prog 188 1 1 17 := ⟨fun a w => by kernel_rfl, fun cs w => by kernel_rfl⟩
instance : FdT Try.prog 188 2 2 17 := ⟨fun a w => by kernel_rfl, fun cs w => by kernel_rfl⟩
instance : FdT Try.prog 188 3 3 9 := ⟨fun a w => by kernel_rfl, fun cs w => by kernel_rfl⟩
instance : BldT Try.prog 188 [(0, 1), (1, 1), (2, 1), (3, 1)] [.pointer none, .pointer none, .pointer none, .string ⟨#[]⟩] := ⟨fun parts => by kernel_rfl⟩
instance : TyT Try.prog 189 0 true := ⟨fun w => Try.isAgg189 w, fun w => Try.sizeOf189 w⟩
instance : MkI Try.prog 189 := ⟨fun v w => by kernel_rfl⟩
instance : ZvT Try.prog 189 (.agg #[]) := ⟨fun w => Try.zeroValue189 w⟩
instance : ArT Try.prog 189 0 16 1 := ⟨Try.underlying189, fun w => Try.sizeOf16 w⟩
instance : TyT Try.prog 190 0 true := ⟨fun w => Try.isAgg190 w, fun w => Try.sizeOf190 w⟩
instance : MkI Try.prog 190 := ⟨fun v w => by kernel_rfl⟩
instance : ZvT Try.prog 190 (.agg #[]) := ⟨fun w => Try.zeroValue190 w⟩
instance : BldT Try.prog 190 [(0, 0)] [] := ⟨fun parts => by kernel_rfl⟩
instance : TyT Try.prog 191 0 true := ⟨fun w => Try.isAgg191 w, fun w => Try.sizeOf191 w⟩
instance : MkI Try.prog 191 := ⟨fun v w => by kernel_rfl⟩
instance : ZvT Try.prog 191 (.agg #[]) := ⟨fun w => Try.zeroValue191 w⟩
instance : BldT Try.prog 191 [(0, 0)] [] := ⟨fun parts => by kernel_rfl⟩
instance : TyT Try.prog 192 1 false := ⟨fun w => Try.isAgg192 w, fun w => Try.sizeOf192 w⟩
instance : MkI Try.prog 192 := ⟨fun v w => by kernel_rfl⟩
instance : IntT Try.prog 192 .u8 := ⟨Try.underlying192⟩
instance : ZvT Try.prog 192 (.int .u8 0) := ⟨fun w => Try.zeroValue192 w⟩
instance : TyT Try.prog 193 1 false := ⟨fun w => Try.isAgg193 w, fun w => Try.sizeOf193 w⟩
instance : MkI Try.prog 193 := ⟨fun v w => by kernel_rfl⟩
instance : IntT Try.prog 193 .u8 := ⟨Try.underlying193⟩
instance : ZvT Try.prog 193 (.int .u8 0) := ⟨fun w => Try.zeroValue193 w⟩
instance : TyT Try.prog 195 1 false := ⟨fun w => Try.isAgg195 w, fun w => Try.sizeOf195 w⟩
instance : MkI Try.prog 195 := ⟨fun v w => by kernel_rfl⟩
instance : ZvT Try.prog 195 (.pointer none) := ⟨fun w => Try.zeroValue195 w⟩
instance : TyT Try.prog 196 1 false := ⟨fun w => Try.isAgg196 w, fun w => Try.sizeOf196 w⟩
instance : MkI Try.prog 196 := ⟨fun v w => by kernel_rfl⟩
instance : IntT Try.prog 196 .i32 := ⟨Try.underlying196⟩
instance : ZvT Try.prog 196 (.int .i32 0) := ⟨fun w => Try.zeroValue196 w⟩
instance : TyT Try.prog 197 1 false := ⟨fun w => Try.isAgg197 w, fun w => Try.sizeOf197 w⟩
instance : MkI Try.prog 197 := ⟨fun v w => by kernel_rfl⟩
instance : IntT Try.prog 197 .i32 := ⟨Try.underlying197⟩
instance : ZvT Try.prog 197 (.int .i32 0) := ⟨fun w => Try.zeroValue197 w⟩
instance : TyT Try.prog 198 11 true := ⟨fun w => Try.isAgg198 w, fun w => Try.sizeOf198 w⟩
instance : MkI Try.prog 198 := ⟨fun v w => by kernel_rfl⟩
instance : ZvT Try.prog 198 (.agg #[.int .u64 0, .int .u64 0, .int .u32 0, .int .u8 0, .int .u8 0, .int .u8 0, .int .u8 0, .nilFunc, .pointer none, .int .i32 0, .int .i32 0]) := ⟨fun w => Try.zeroValue198 w⟩
instance : FdT Try.prog 198 0 0 12 := ⟨fun a w => by kernel_rfl, fun cs w => by kernel_rfl⟩
instance : FdT Try.prog 198 1 1 12 := ⟨fun a w => by kernel_rfl, fun cs w => by kernel_rfl⟩
instance : FdT Try.prog 198 2 2 148 := ⟨fun a w => by kernel_rfl, fun cs w => by kernel_rfl⟩
instance : FdT Try.prog 198 3 3 192 := ⟨fun a w => by kernel_rfl, fun cs w => by kernel_rfl⟩
instance : FdT Try.prog 198 4 4 5 := ⟨fun a w => by kernel_rfl, fun cs w => by kernel_rfl⟩
instance : FdT Try.prog 198 5 5 5 := ⟨fun a w => by kernel_rfl, fun cs w => by kernel_rfl⟩
instance : FdT Try.prog 198 6 6 193 := ⟨fun a w => by kernel_rfl, fun cs w => by kernel_rfl⟩
instance : FdT Try.prog 198 8 8 195 := ⟨fun a w => by kernel_rfl, fun cs w => by kernel_rfl⟩
instance : FdT Try.prog 198 9 9 196 := ⟨fun a w => by kernel_rfl, fun cs w => by kernel_rfl⟩
instance : FdT Try.prog 198 10 10 197 := ⟨fun a w => by kernel_rfl, fun cs w => by kernel_rfl⟩
instance : TyT Try.prog 199 11 true := ⟨fun w => Try.isAgg199 w, fun w => Try.sizeOf199 w⟩
instance : MkI Try.prog 199 := ⟨fun v w => by kernel_rfl⟩
instance : ZvT Try.prog 199 (.agg #[.int .u64 0, .int .u64 0, .int .u32 0, .int .u8 0, .int .u8 0, .int .u8 0, .int .u8 0, .nilFunc, .pointer none, .int .i32 0, .int .i32 0]) := ⟨fun w => Try.zeroValue199 w⟩
instance : FdT Try.prog 199 0 0 12 := ⟨fun a w => by kernel_rfl, fun cs w => by kernel_rfl⟩
instance : FdT Try.prog 199 1 1 12 := ⟨fun a w => by kernel_rfl, fun cs w => by kernel_rfl⟩
instance : FdT Try.prog 199 2 2 148 := ⟨fun a w => by kernel_rfl, fun cs w => by kernel_rfl⟩
instance : FdT Try.prog 199 3 3 192 := ⟨fun a w => by kernel_rfl, fun cs w => by kernel_rfl⟩
instance : FdT Try.prog 199 4 4 5 := ⟨fun a w => by kernel_rfl, fun cs w => by kernel_rfl⟩
instance : FdT Try.prog 199 5 5 5 := ⟨fun a w => by kernel_rfl, fun cs w => by kernel_rfl⟩
instance : FdT Try.prog 199 6 6 193 := ⟨fun a w => by kernel_rfl, fun cs w => by kernel_rfl⟩
instance : FdT Try.prog 199 8 8 195 := ⟨fun a w => by kernel_rfl, fun cs w => by kernel_rfl⟩
instance : FdT Try.prog 199 9 9 196 := ⟨fun a w => by kernel_rfl, fun cs w => by kernel_rfl⟩
instance : FdT Try.prog 199 10 10 197 := ⟨fun a w => by kernel_rfl, fun cs w => by kernel_rfl⟩
instance : TyT Try.prog 200 1 false := ⟨fun w => Try.isAgg200 w, fun w => Try.sizeOf200 w⟩
instance : MkI Try.prog 200 := ⟨fun v w => by kernel_rfl⟩
instance : ZvT Try.prog 200 (.pointer none) := ⟨fun w => Try.zeroValue200 w⟩
/- Functions with a body. -/
instance : CalT Try.prog 2 := ⟨fun args w => Try.call2 args w⟩
instance : CalT Try.prog 3 := ⟨fun args w => Try.call3 args w⟩
instance : CalT Try.prog 4 := ⟨fun args w => Try.call4 args w⟩
instance : CalT Try.prog 5 := ⟨fun args w => Try.call5 args w⟩
instance : CalT Try.prog 6 := ⟨fun args w => Try.call6 args w⟩
instance : CalT Try.prog 7 := ⟨fun args w => Try.call7 args w⟩
instance : CalT Try.prog 8 := ⟨fun args w => Try.call8 args w⟩
instance : CalT Try.prog 9 := ⟨fun args w => Try.call9 args w⟩
instance : CalT Try.prog 10 := ⟨fun args w => Try.call10 args w⟩
instance : CalT Try.prog 11 := ⟨fun args w => Try.call11 args w⟩
instance : CalT Try.prog 12 := ⟨fun args w => Try.call12 args w⟩
instance : CalT Try.prog 13 := ⟨fun args w => Try.call13 args w⟩
instance : CalT Try.prog 14 := ⟨fun args w => Try.call14 args w⟩
instance : CalT Try.prog 15 := ⟨fun args w => Try.call15 args w⟩
instance : CalT Try.prog 16 := ⟨fun args w => Try.call16 args w⟩
instance : CalT Try.prog 17 := ⟨fun args w => Try.call17 args w⟩
instance : CalT Try.prog 18 := ⟨fun args w => Try.call18 args w⟩
instance : CalT Try.prog 19 := ⟨fun args w => Try.call19 args w⟩
instance : CalT Try.prog 20 := ⟨fun args w => Try.call20 args w⟩
instance : CalT Try.prog 21 := ⟨fun args w => Try.call21 args w⟩
instance : CalT Try.prog 22 := ⟨fun args w => Try.call22 args w⟩
instance : CalT Try.prog 23 := ⟨fun args w => Try.call23 args w⟩
instance : CalT Try.prog 24 := ⟨fun args w => Try.call24 args w⟩
instance : CalT Try.prog 25 := ⟨fun args w => Try.call25 args w⟩
instance : CalT Try.prog 26 := ⟨fun args w => Try.call26 args w⟩
instance : CalT Try.prog 27 := ⟨fun args w => Try.call27 args w⟩
instance : CalT Try.prog 28 := ⟨fun args w => Try.call28 args w⟩
instance : CalT Try.prog 29 := ⟨fun args w => Try.call29 args w⟩
instance : CalT Try.prog 30 := ⟨fun args w => Try.call30 args w⟩
instance : CalT Try.prog 31 := ⟨fun args w => Try.call31 args w⟩
instance : CalT Try.prog 32 := ⟨fun args w => Try.call32 args w⟩
instance : CalT Try.prog 33 := ⟨fun args w => Try.call33 args w⟩
instance : CalT Try.prog 34 := ⟨fun args w => Try.call34 args w⟩
instance : CalT Try.prog 35 := ⟨fun args w => Try.call35 args w⟩
instance : CalT Try.prog 36 := ⟨fun args w => Try.call36 args w⟩
instance : CalT Try.prog 37 := ⟨fun args w => Try.call37 args w⟩
instance : CalT Try.prog 38 := ⟨fun args w => Try.call38 args w⟩
instance : CalT Try.prog 39 := ⟨fun args w => Try.call39 args w⟩
instance : CalT Try.prog 40 := ⟨fun args w => Try.call40 args w⟩
instance : CalT Try.prog 41 := ⟨fun args w => Try.call41 args w⟩
instance : CalT Try.prog 42 := ⟨fun args w => Try.call42 args w⟩
instance : CalT Try.prog 43 := ⟨fun args w => Try.call43 args w⟩
instance : CalT Try.prog 44 := ⟨fun args w => Try.call44 args w⟩
instance : CalT Try.prog 45 := ⟨fun args w => Try.call45 args w⟩
instance : CalT Try.prog 46 := ⟨fun args w => Try.call46 args w⟩
instance : CalT Try.prog 47 := ⟨fun args w => Try.call47 args w⟩
instance : CalT Try.prog 48 := ⟨fun args w => Try.call48 args w⟩
instance : CalT Try.prog 49 := ⟨fun args w => Try.call49 args w⟩
instance : CalT Try.prog 50 := ⟨fun args w => Try.call50 args w⟩
instance : CalT Try.prog 51 := ⟨fun args w => Try.call51 args w⟩
instance : CalT Try.prog 52 := ⟨fun args w => Try.call52 args w⟩
instance : CalT Try.prog 53 := ⟨fun args w => Try.call53 args w⟩
instance : CalT Try.prog 54 := ⟨fun args w => Try.call54 args w⟩
instance : CalT Try.prog 55 := ⟨fun args w => Try.call55 args w⟩
instance : CalT Try.prog 56 := ⟨fun args w => Try.call56 args w⟩
instance : CalT Try.prog 57 := ⟨fun args w => Try.call57 args w⟩
instance : CalT Try.prog 58 := ⟨fun args w => Try.call58 args w⟩
instance : CalT Try.prog 59 := ⟨fun args w => Try.call59 args w⟩
instance : CalT Try.prog 61 := ⟨fun args w => Try.call61 args w⟩
instance : CalT Try.prog 62 := ⟨fun args w => Try.call62 args w⟩
instance : CalT Try.prog 63 := ⟨fun args w => Try.call63 args w⟩
instance : CalT Try.prog 64 := ⟨fun args w => Try.call64 args w⟩
instance : CalT Try.prog 65 := ⟨fun args w => Try.call65 args w⟩
instance : CalT Try.prog 66 := ⟨fun args w => Try.call66 args w⟩
instance : CalT Try.prog 67 := ⟨fun args w => Try.call67 args w⟩
instance : CalT Try.prog 69 := ⟨fun args w => Try.call69 args w⟩
instance : CalT Try.prog 70 := ⟨fun args w => Try.call70 args w⟩
instance : CalT Try.prog 71 := ⟨fun args w => Try.call71 args w⟩
instance : CalT Try.prog 72 := ⟨fun args w => Try.call72 args w⟩
instance : CalT Try.prog 73 := ⟨fun args w => Try.call73 args w⟩
instance : CalT Try.prog 74 := ⟨fun args w => Try.call74 args w⟩
instance : CalT Try.prog 75 := ⟨fun args w => Try.call75 args w⟩
instance : CalT Try.prog 76 := ⟨fun args w => Try.call76 args w⟩
instance : CalT Try.prog 77 := ⟨fun args w => Try.call77 args w⟩
instance : CalT Try.prog 78 := ⟨fun args w => Try.call78 args w⟩
instance : CalT Try.prog 79 := ⟨fun args w => Try.call79 args w⟩
instance : CalT Try.prog 80 := ⟨fun args w => Try.call80 args w⟩
instance : CalT Try.prog 81 := ⟨fun args w => Try.call81 args w⟩
instance : CalT Try.prog 82 := ⟨fun args w => Try.call82 args w⟩
instance : CalT Try.prog 83 := ⟨fun args w => Try.call83 args w⟩
instance : CalT Try.prog 84 := ⟨fun args w => Try.call84 args w⟩
instance : CalT Try.prog 85 := ⟨fun args w => Try.call85 args w⟩
instance : CalT Try.prog 86 := ⟨fun args w => Try.call86 args w⟩
instance : CalT Try.prog 87 := ⟨fun args w => Try.call87 args w⟩
instance : CalT Try.prog 88 := ⟨fun args w => Try.call88 args w⟩
instance : CalT Try.prog 89 := ⟨fun args w => Try.call89 args w⟩
instance : CalT Try.prog 90 := ⟨fun args w => Try.call90 args w⟩
instance : CalT Try.prog 91 := ⟨fun args w => Try.call91 args w⟩
instance : CalT Try.prog 92 := ⟨fun args w => Try.call92 args w⟩
instance : CalT Try.prog 93 := ⟨fun args w => Try.call93 args w⟩
instance : CalT Try.prog 94 := ⟨fun args w => Try.call94 args w⟩
instance : CalT Try.prog 95 := ⟨fun args w => Try.call95 args w⟩
instance : CalT Try.prog 96 := ⟨fun args w => Try.call96 args w⟩
instance : CalT Try.prog 97 := ⟨fun args w => Try.call97 args w⟩
instance : CalT Try.prog 98 := ⟨fun args w => Try.call98 args w⟩
instance : CalT Try.prog 99 := ⟨fun args w => Try.call99 args w⟩
instance : CalT Try.prog 100 := ⟨fun args w => Try.call100 args w⟩
instance : CalT Try.prog 101 := ⟨fun args w => Try.call101 args w⟩
instance : CalT Try.prog 102 := ⟨fun args w => Try.call102 args w⟩
instance : CalT Try.prog 103 := ⟨fun args w => Try.call103 args w⟩
instance : CalT Try.prog 104 := ⟨fun args w => Try.call104 args w⟩
instance : CalT Try.prog 105 := ⟨fun args w => Try.call105 args w⟩
instance : CalT Try.prog 106 := ⟨fun args w => Try.call106 args w⟩
instance : CalT Try.prog 107 := ⟨fun args w => Try.call107 args w⟩
instance : CalT Try.prog 108 := ⟨fun args w => Try.call108 args w⟩
instance : CalT Try.prog 109 := ⟨fun args w => Try.call109 args w⟩
instance : CalT Try.prog 110 := ⟨fun args w => Try.call110 args w⟩
instance : CalT Try.prog 111 := ⟨fun args w => Try.call111 args w⟩
instance : CalT Try.prog 112 := ⟨fun args w => Try.call112 args w⟩
instance : CalT Try.prog 113 := ⟨fun args w => Try.call113 args w⟩
instance : CalT Try.prog 114 := ⟨fun args w => Try.call114 args w⟩
instance : CalT Try.prog 115 := ⟨fun args w => Try.call115 args w⟩
instance : CalT Try.prog 116 := ⟨fun args w => Try.call116 args w⟩
instance : CalT Try.prog 117 := ⟨fun args w => Try.call117 args w⟩
instance : CalT Try.prog 118 := ⟨fun args w => Try.call118 args w⟩
instance : CalT Try.prog 119 := ⟨fun args w => Try.call119 args w⟩
instance : CalT Try.prog 120 := ⟨fun args w => Try.call120 args w⟩
instance : CalT Try.prog 121 := ⟨fun args w => Try.call121 args w⟩
instance : CalT Try.prog 122 := ⟨fun args w => Try.call122 args w⟩
instance : CalT Try.prog 123 := ⟨fun args w => Try.call123 args w⟩
instance : CalT Try.prog 124 := ⟨fun args w => Try.call124 args w⟩
instance : CalT Try.prog 125 := ⟨fun args w => Try.call125 args w⟩
instance : CalT Try.prog 126 := ⟨fun args w => Try.call126 args w⟩
instance : CalT Try.prog 127 := ⟨fun args w => Try.call127 args w⟩
instance : CalT Try.prog 128 := ⟨fun args w => Try.call128 args w⟩
instance : CalT Try.prog 129 := ⟨fun args w => Try.call129 args w⟩
instance : CalT Try.prog 130 := ⟨fun args w => Try.call130 args w⟩
instance : CalT Try.prog 131 := ⟨fun args w => Try.call131 args w⟩
instance : CalT Try.prog 132 := ⟨fun args w => Try.call132 args w⟩
instance : CalT Try.prog 133 := ⟨fun args w => Try.call133 args w⟩
instance : CalT Try.prog 134 := ⟨fun args w => Try.call134 args w⟩
instance : CalT Try.prog 135 := ⟨fun args w => Try.call135 args w⟩
instance : CalT Try.prog 136 := ⟨fun args w => Try.call136 args w⟩
instance : CalT Try.prog 137 := ⟨fun args w => Try.call137 args w⟩
instance : CalT Try.prog 138 := ⟨fun args w => Try.call138 args w⟩
end Go.Proofs.Ytejndjmlgacffaa
