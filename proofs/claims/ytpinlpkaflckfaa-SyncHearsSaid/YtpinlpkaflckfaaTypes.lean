/- The seat's types and functions, as instances. Printed by wip/tools/types.py. -/
import Derived.Test.YtpinlpkaflckfaaSxMore
import Derived.Test.YtpinlpkaflckfaaProg
import Derived.KernelRfl
namespace Go.Proofs.Ytpinlpkaflckfaa
open Go.Port
instance : TyT Try.prog 2 1 false := ⟨fun w => Try.isAgg2 w, fun w => Try.sizeOf2 w⟩
instance : MkI Try.prog 2 := ⟨fun v w => by kernel_rfl⟩
instance : IntT Try.prog 2 .i64 := ⟨Try.underlying2⟩
instance : ZvT Try.prog 2 (.int .i64 0) := ⟨fun w => Try.zeroValue2 w⟩
instance : TyT Try.prog 3 1 false := ⟨fun w => Try.isAgg3 w, fun w => Try.sizeOf3 w⟩
instance : MkI Try.prog 3 := ⟨fun v w => by kernel_rfl⟩
instance : IntT Try.prog 3 .i64 := ⟨Try.underlying3⟩
instance : ZvT Try.prog 3 (.int .i64 0) := ⟨fun w => Try.zeroValue3 w⟩
instance : TyT Try.prog 4 1 false := ⟨fun w => Try.isAgg4 w, fun w => Try.sizeOf4 w⟩
instance : MkI Try.prog 4 := ⟨fun v w => by kernel_rfl⟩
instance : ZvT Try.prog 4 (.bool false) := ⟨fun w => Try.zeroValue4 w⟩
instance : TyT Try.prog 5 1 false := ⟨fun w => Try.isAgg5 w, fun w => Try.sizeOf5 w⟩
instance : MkI Try.prog 5 := ⟨fun v w => by kernel_rfl⟩
instance : IntT Try.prog 5 .u8 := ⟨Try.underlying5⟩
instance : ZvT Try.prog 5 (.int .u8 0) := ⟨fun w => Try.zeroValue5 w⟩
instance : TyT Try.prog 6 1 false := ⟨fun w => Try.isAgg6 w, fun w => Try.sizeOf6 w⟩
instance : MkI Try.prog 6 := ⟨fun v w => by kernel_rfl⟩
instance : IntT Try.prog 6 .u8 := ⟨Try.underlying6⟩
instance : ZvT Try.prog 6 (.int .u8 0) := ⟨fun w => Try.zeroValue6 w⟩
instance : TyT Try.prog 7 4 true := ⟨fun w => Try.isAgg7 w, fun w => Try.sizeOf7 w⟩
instance : MkI Try.prog 7 := ⟨fun v w => by kernel_rfl⟩
instance : ZvT Try.prog 7 (.agg #[.int .i64 0, .int .i64 0, .bool false, .int .u8 0]) := ⟨fun w => Try.zeroValue7 w⟩
instance : FdT Try.prog 7 0 0 2 := ⟨fun a w => by kernel_rfl, fun cs w => by kernel_rfl⟩
instance : FdT Try.prog 7 1 1 3 := ⟨fun a w => by kernel_rfl, fun cs w => by kernel_rfl⟩
instance : FdT Try.prog 7 2 2 4 := ⟨fun a w => by kernel_rfl, fun cs w => by kernel_rfl⟩
instance : FdT Try.prog 7 3 3 6 := ⟨fun a w => by kernel_rfl, fun cs w => by kernel_rfl⟩
instance : BldT Try.prog 7 [(0, 1), (1, 1), (2, 1), (3, 1)] [.int .i64 0, .int .i64 0, .bool false, .int .u8 0] := ⟨fun parts => by kernel_rfl⟩
instance : TyT Try.prog 8 4 true := ⟨fun w => Try.isAgg8 w, fun w => Try.sizeOf8 w⟩
instance : MkI Try.prog 8 := ⟨fun v w => by kernel_rfl⟩
instance : ZvT Try.prog 8 (.agg #[.int .i64 0, .int .i64 0, .bool false, .int .u8 0]) := ⟨fun w => Try.zeroValue8 w⟩
instance : FdT Try.prog 8 0 0 2 := ⟨fun a w => by kernel_rfl, fun cs w => by kernel_rfl⟩
instance : FdT Try.prog 8 1 1 3 := ⟨fun a w => by kernel_rfl, fun cs w => by kernel_rfl⟩
instance : FdT Try.prog 8 2 2 4 := ⟨fun a w => by kernel_rfl, fun cs w => by kernel_rfl⟩
instance : FdT Try.prog 8 3 3 6 := ⟨fun a w => by kernel_rfl, fun cs w => by kernel_rfl⟩
instance : BldT Try.prog 8 [(0, 1), (1, 1), (2, 1), (3, 1)] [.int .i64 0, .int .i64 0, .bool false, .int .u8 0] := ⟨fun parts => by kernel_rfl⟩
instance : TyT Try.prog 9 1 false := ⟨fun w => Try.isAgg9 w, fun w => Try.sizeOf9 w⟩
instance : MkI Try.prog 9 := ⟨fun v w => by kernel_rfl⟩
instance : StrT Try.prog 9 := ⟨Try.underlying9⟩
instance : ZvT Try.prog 9 (.string ⟨#[]⟩) := ⟨fun w => Try.zeroValue9 w⟩
instance : TyT Try.prog 10 1 false := ⟨fun w => Try.isAgg10 w, fun w => Try.sizeOf10 w⟩
instance : MkI Try.prog 10 := ⟨fun v w => by kernel_rfl⟩
instance : StrT Try.prog 10 := ⟨Try.underlying10⟩
instance : ZvT Try.prog 10 (.string ⟨#[]⟩) := ⟨fun w => Try.zeroValue10 w⟩
instance : TyT Try.prog 11 1 false := ⟨fun w => Try.isAgg11 w, fun w => Try.sizeOf11 w⟩
instance : MkI Try.prog 11 := ⟨fun v w => by kernel_rfl⟩
instance : StrT Try.prog 11 := ⟨Try.underlying11⟩
instance : ZvT Try.prog 11 (.string ⟨#[]⟩) := ⟨fun w => Try.zeroValue11 w⟩
instance : TyT Try.prog 12 1 false := ⟨fun w => Try.isAgg12 w, fun w => Try.sizeOf12 w⟩
instance : MkI Try.prog 12 := ⟨fun v w => by kernel_rfl⟩
instance : IntT Try.prog 12 .u64 := ⟨Try.underlying12⟩
instance : ZvT Try.prog 12 (.int .u64 0) := ⟨fun w => Try.zeroValue12 w⟩
instance : TyT Try.prog 13 2 true := ⟨fun w => Try.isAgg13 w, fun w => Try.sizeOf13 w⟩
instance : MkI Try.prog 13 := ⟨fun v w => by kernel_rfl⟩
instance : ZvT Try.prog 13 (.agg #[.string ⟨#[]⟩, .int .u64 0]) := ⟨fun w => Try.zeroValue13 w⟩
instance : FdT Try.prog 13 0 0 9 := ⟨fun a w => by kernel_rfl, fun cs w => by kernel_rfl⟩
instance : FdT Try.prog 13 1 1 12 := ⟨fun a w => by kernel_rfl, fun cs w => by kernel_rfl⟩
instance : BldT Try.prog 13 [(0, 1), (1, 1)] [.string ⟨#[]⟩, .int .u64 0] := ⟨fun parts => by kernel_rfl⟩
instance : TyT Try.prog 14 2 true := ⟨fun w => Try.isAgg14 w, fun w => Try.sizeOf14 w⟩
instance : MkI Try.prog 14 := ⟨fun v w => by kernel_rfl⟩
instance : ZvT Try.prog 14 (.agg #[.string ⟨#[]⟩, .int .u64 0]) := ⟨fun w => Try.zeroValue14 w⟩
instance : FdT Try.prog 14 0 0 9 := ⟨fun a w => by kernel_rfl, fun cs w => by kernel_rfl⟩
instance : FdT Try.prog 14 1 1 12 := ⟨fun a w => by kernel_rfl, fun cs w => by kernel_rfl⟩
instance : BldT Try.prog 14 [(0, 1), (1, 1)] [.string ⟨#[]⟩, .int .u64 0] := ⟨fun parts => by kernel_rfl⟩
instance : TyT Try.prog 15 1 false := ⟨fun w => Try.isAgg15 w, fun w => Try.sizeOf15 w⟩
instance : MkI Try.prog 15 := ⟨fun v w => by kernel_rfl⟩
instance : ZvT Try.prog 15 (.pointer none) := ⟨fun w => Try.zeroValue15 w⟩
instance : TyT Try.prog 16 1 false := ⟨fun w => Try.isAgg16 w, fun w => Try.sizeOf16 w⟩
instance : MkI Try.prog 16 := ⟨fun v w => by kernel_rfl⟩
instance : ZvT Try.prog 16 (.pointer none) := ⟨fun w => Try.zeroValue16 w⟩
instance : TyT Try.prog 17 1 false := ⟨fun w => Try.isAgg17 w, fun w => Try.sizeOf17 w⟩
instance : MkI Try.prog 17 := ⟨fun v w => by kernel_rfl⟩
instance : ZvT Try.prog 17 (.pointer none) := ⟨fun w => Try.zeroValue17 w⟩
instance : TyT Try.prog 18 1 true := ⟨fun w => Try.isAgg18 w, fun w => Try.sizeOf18 w⟩
instance : MkI Try.prog 18 := ⟨fun v w => by kernel_rfl⟩
instance : ZvT Try.prog 18 (.agg #[.pointer none]) := ⟨fun w => Try.zeroValue18 w⟩
instance : FdT Try.prog 18 0 0 17 := ⟨fun a w => by kernel_rfl, fun cs w => by kernel_rfl⟩
instance : BldT Try.prog 18 [(0, 1)] [.pointer none] := ⟨fun parts => by kernel_rfl⟩
instance : TyT Try.prog 19 1 true := ⟨fun w => Try.isAgg19 w, fun w => Try.sizeOf19 w⟩
instance : MkI Try.prog 19 := ⟨fun v w => by kernel_rfl⟩
instance : ZvT Try.prog 19 (.agg #[.pointer none]) := ⟨fun w => Try.zeroValue19 w⟩
instance : FdT Try.prog 19 0 0 17 := ⟨fun a w => by kernel_rfl, fun cs w => by kernel_rfl⟩
instance : BldT Try.prog 19 [(0, 1)] [.pointer none] := ⟨fun parts => by kernel_rfl⟩
instance : TyT Try.prog 20 1 false := ⟨fun w => Try.isAgg20 w, fun w => Try.sizeOf20 w⟩
instance : IfT Try.prog 20 := ⟨⟨_, Try.underlying20⟩⟩
instance : ZvT Try.prog 20 (.nilIface) := ⟨fun w => Try.zeroValue20 w⟩
instance : TyT Try.prog 21 1 false := ⟨fun w => Try.isAgg21 w, fun w => Try.sizeOf21 w⟩
instance : MkI Try.prog 21 := ⟨fun v w => by kernel_rfl⟩
instance : IntT Try.prog 21 .i32 := ⟨Try.underlying21⟩
instance : ZvT Try.prog 21 (.int .i32 0) := ⟨fun w => Try.zeroValue21 w⟩
instance : TyT Try.prog 22 1 false := ⟨fun w => Try.isAgg22 w, fun w => Try.sizeOf22 w⟩
instance : MkI Try.prog 22 := ⟨fun v w => by kernel_rfl⟩
instance : ZvT Try.prog 22 (.slice none 0 0) := ⟨fun w => Try.zeroValue22 w⟩
instance : SlT Try.prog 22 25 8 80 (.agg #[.int .i64 0, .int .i64 0, .int .i64 0, .int .i64 0, .int .i64 0, .int .i64 0, .bool false, .slice none 0 0]) := ⟨by kernel_rfl, by kernel_rfl, rfl, by decide, by decide⟩
instance : TyT Try.prog 23 1 false := ⟨fun w => Try.isAgg23 w, fun w => Try.sizeOf23 w⟩
instance : MkI Try.prog 23 := ⟨fun v w => by kernel_rfl⟩
instance : ZvT Try.prog 23 (.slice none 0 0) := ⟨fun w => Try.zeroValue23 w⟩
instance : SlT Try.prog 23 5 1 1 (.int .u8 0) := ⟨by kernel_rfl, by kernel_rfl, rfl, by decide, by decide⟩
instance : TyT Try.prog 24 8 true := ⟨fun w => Try.isAgg24 w, fun w => Try.sizeOf24 w⟩
instance : MkI Try.prog 24 := ⟨fun v w => by kernel_rfl⟩
instance : ZvT Try.prog 24 (.agg #[.int .i64 0, .int .i64 0, .int .i64 0, .int .i64 0, .int .i64 0, .int .i64 0, .bool false, .slice none 0 0]) := ⟨fun w => Try.zeroValue24 w⟩
instance : FdT Try.prog 24 0 0 3 := ⟨fun a w => by kernel_rfl, fun cs w => by kernel_rfl⟩
instance : FdT Try.prog 24 1 1 3 := ⟨fun a w => by kernel_rfl, fun cs w => by kernel_rfl⟩
instance : FdT Try.prog 24 2 2 3 := ⟨fun a w => by kernel_rfl, fun cs w => by kernel_rfl⟩
instance : FdT Try.prog 24 3 3 3 := ⟨fun a w => by kernel_rfl, fun cs w => by kernel_rfl⟩
instance : FdT Try.prog 24 4 4 3 := ⟨fun a w => by kernel_rfl, fun cs w => by kernel_rfl⟩
instance : FdT Try.prog 24 5 5 3 := ⟨fun a w => by kernel_rfl, fun cs w => by kernel_rfl⟩
instance : FdT Try.prog 24 6 6 4 := ⟨fun a w => by kernel_rfl, fun cs w => by kernel_rfl⟩
instance : FdT Try.prog 24 7 7 23 := ⟨fun a w => by kernel_rfl, fun cs w => by kernel_rfl⟩
instance : BldT Try.prog 24 [(0, 1), (1, 1), (2, 1), (3, 1), (4, 1), (5, 1), (6, 1), (7, 1)] [.int .i64 0, .int .i64 0, .int .i64 0, .int .i64 0, .int .i64 0, .int .i64 0, .bool false, .slice none 0 0] := ⟨fun parts => by kernel_rfl⟩
instance : TyT Try.prog 25 8 true := ⟨fun w => Try.isAgg25 w, fun w => Try.sizeOf25 w⟩
instance : MkI Try.prog 25 := ⟨fun v w => by kernel_rfl⟩
instance : ZvT Try.prog 25 (.agg #[.int .i64 0, .int .i64 0, .int .i64 0, .int .i64 0, .int .i64 0, .int .i64 0, .bool false, .slice none 0 0]) := ⟨fun w => Try.zeroValue25 w⟩
instance : FdT Try.prog 25 0 0 3 := ⟨fun a w => by kernel_rfl, fun cs w => by kernel_rfl⟩
instance : FdT Try.prog 25 1 1 3 := ⟨fun a w => by kernel_rfl, fun cs w => by kernel_rfl⟩
instance : FdT Try.prog 25 2 2 3 := ⟨fun a w => by kernel_rfl, fun cs w => by kernel_rfl⟩
instance : FdT Try.prog 25 3 3 3 := ⟨fun a w => by kernel_rfl, fun cs w => by kernel_rfl⟩
instance : FdT Try.prog 25 4 4 3 := ⟨fun a w => by kernel_rfl, fun cs w => by kernel_rfl⟩
instance : FdT Try.prog 25 5 5 3 := ⟨fun a w => by kernel_rfl, fun cs w => by kernel_rfl⟩
instance : FdT Try.prog 25 6 6 4 := ⟨fun a w => by kernel_rfl, fun cs w => by kernel_rfl⟩
instance : FdT Try.prog 25 7 7 23 := ⟨fun a w => by kernel_rfl, fun cs w => by kernel_rfl⟩
instance : BldT Try.prog 25 [(0, 1), (1, 1), (2, 1), (3, 1), (4, 1), (5, 1), (6, 1), (7, 1)] [.int .i64 0, .int .i64 0, .int .i64 0, .int .i64 0, .int .i64 0, .int .i64 0, .bool false, .slice none 0 0] := ⟨fun parts => by kernel_rfl⟩
instance : TyT Try.prog 26 1 false := ⟨fun w => Try.isAgg26 w, fun w => Try.sizeOf26 w⟩
instance : IfT Try.prog 26 := ⟨⟨_, Try.underlying26⟩⟩
instance : ZvT Try.prog 26 (.nilIface) := ⟨fun w => Try.zeroValue26 w⟩
instance : TyT Try.prog 27 1 false := ⟨fun w => Try.isAgg27 w, fun w => Try.sizeOf27 w⟩
instance : IfT Try.prog 27 := ⟨⟨_, Try.underlying27⟩⟩
instance : ZvT Try.prog 27 (.nilIface) := ⟨fun w => Try.zeroValue27 w⟩
instance : TyT Try.prog 34 7 true := ⟨fun w => Try.isAgg34 w, fun w => Try.sizeOf34 w⟩
instance : MkI Try.prog 34 := ⟨fun v w => by kernel_rfl⟩
instance : ZvT Try.prog 34 (.agg #[.int .i64 0, .int .i64 0, .int .i64 0, .int .i64 0, .int .i64 0, .int .i64 0, .slice none 0 0]) := ⟨fun w => Try.zeroValue34 w⟩
instance : FdT Try.prog 34 0 0 3 := ⟨fun a w => by kernel_rfl, fun cs w => by kernel_rfl⟩
instance : FdT Try.prog 34 1 1 3 := ⟨fun a w => by kernel_rfl, fun cs w => by kernel_rfl⟩
instance : FdT Try.prog 34 2 2 3 := ⟨fun a w => by kernel_rfl, fun cs w => by kernel_rfl⟩
instance : FdT Try.prog 34 3 3 3 := ⟨fun a w => by kernel_rfl, fun cs w => by kernel_rfl⟩
instance : FdT Try.prog 34 4 4 3 := ⟨fun a w => by kernel_rfl, fun cs w => by kernel_rfl⟩
instance : FdT Try.prog 34 5 5 3 := ⟨fun a w => by kernel_rfl, fun cs w => by kernel_rfl⟩
instance : FdT Try.prog 34 6 6 23 := ⟨fun a w => by kernel_rfl, fun cs w => by kernel_rfl⟩
instance : BldT Try.prog 34 [(0, 1), (1, 1), (2, 1), (3, 1), (4, 1), (5, 1), (6, 1)] [.int .i64 0, .int .i64 0, .int .i64 0, .int .i64 0, .int .i64 0, .int .i64 0, .slice none 0 0] := ⟨fun parts => by kernel_rfl⟩
instance : TyT Try.prog 35 7 true := ⟨fun w => Try.isAgg35 w, fun w => Try.sizeOf35 w⟩
instance : MkI Try.prog 35 := ⟨fun v w => by kernel_rfl⟩
instance : ZvT Try.prog 35 (.agg #[.int .i64 0, .int .i64 0, .int .i64 0, .int .i64 0, .int .i64 0, .int .i64 0, .slice none 0 0]) := ⟨fun w => Try.zeroValue35 w⟩
instance : FdT Try.prog 35 0 0 3 := ⟨fun a w => by kernel_rfl, fun cs w => by kernel_rfl⟩
instance : FdT Try.prog 35 1 1 3 := ⟨fun a w => by kernel_rfl, fun cs w => by kernel_rfl⟩
instance : FdT Try.prog 35 2 2 3 := ⟨fun a w => by kernel_rfl, fun cs w => by kernel_rfl⟩
instance : FdT Try.prog 35 3 3 3 := ⟨fun a w => by kernel_rfl, fun cs w => by kernel_rfl⟩
instance : FdT Try.prog 35 4 4 3 := ⟨fun a w => by kernel_rfl, fun cs w => by kernel_rfl⟩
instance : FdT Try.prog 35 5 5 3 := ⟨fun a w => by kernel_rfl, fun cs w => by kernel_rfl⟩
instance : FdT Try.prog 35 6 6 23 := ⟨fun a w => by kernel_rfl, fun cs w => by kernel_rfl⟩
instance : BldT Try.prog 35 [(0, 1), (1, 1), (2, 1), (3, 1), (4, 1), (5, 1), (6, 1)] [.int .i64 0, .int .i64 0, .int .i64 0, .int .i64 0, .int .i64 0, .int .i64 0, .slice none 0 0] := ⟨fun parts => by kernel_rfl⟩
instance : TyT Try.prog 36 5 true := ⟨fun w => Try.isAgg36 w, fun w => Try.sizeOf36 w⟩
instance : MkI Try.prog 36 := ⟨fun v w => by kernel_rfl⟩
instance : ZvT Try.prog 36 (.agg #[.int .i64 0, .int .i64 0, .int .i64 0, .int .i64 0, .int .i64 0]) := ⟨fun w => Try.zeroValue36 w⟩
instance : FdT Try.prog 36 0 0 3 := ⟨fun a w => by kernel_rfl, fun cs w => by kernel_rfl⟩
instance : FdT Try.prog 36 1 1 3 := ⟨fun a w => by kernel_rfl, fun cs w => by kernel_rfl⟩
instance : FdT Try.prog 36 2 2 3 := ⟨fun a w => by kernel_rfl, fun cs w => by kernel_rfl⟩
instance : FdT Try.prog 36 3 3 3 := ⟨fun a w => by kernel_rfl, fun cs w => by kernel_rfl⟩
instance : FdT Try.prog 36 4 4 3 := ⟨fun a w => by kernel_rfl, fun cs w => by kernel_rfl⟩
instance : BldT Try.prog 36 [(0, 1), (1, 1), (2, 1), (3, 1), (4, 1)] [.int .i64 0, .int .i64 0, .int .i64 0, .int .i64 0, .int .i64 0] := ⟨fun parts => by kernel_rfl⟩
instance : TyT Try.prog 37 5 true := ⟨fun w => Try.isAgg37 w, fun w => Try.sizeOf37 w⟩
instance : MkI Try.prog 37 := ⟨fun v w => by kernel_rfl⟩
instance : ZvT Try.prog 37 (.agg #[.int .i64 0, .int .i64 0, .int .i64 0, .int .i64 0, .int .i64 0]) := ⟨fun w => Try.zeroValue37 w⟩
instance : FdT Try.prog 37 0 0 3 := ⟨fun a w => by kernel_rfl, fun cs w => by kernel_rfl⟩
instance : FdT Try.prog 37 1 1 3 := ⟨fun a w => by kernel_rfl, fun cs w => by kernel_rfl⟩
instance : FdT Try.prog 37 2 2 3 := ⟨fun a w => by kernel_rfl, fun cs w => by kernel_rfl⟩
instance : FdT Try.prog 37 3 3 3 := ⟨fun a w => by kernel_rfl, fun cs w => by kernel_rfl⟩
instance : FdT Try.prog 37 4 4 3 := ⟨fun a w => by kernel_rfl, fun cs w => by kernel_rfl⟩
instance : BldT Try.prog 37 [(0, 1), (1, 1), (2, 1), (3, 1), (4, 1)] [.int .i64 0, .int .i64 0, .int .i64 0, .int .i64 0, .int .i64 0] := ⟨fun parts => by kernel_rfl⟩
instance : TyT Try.prog 46 2 true := ⟨fun w => Try.isAgg46 w, fun w => Try.sizeOf46 w⟩
instance : MkI Try.prog 46 := ⟨fun v w => by kernel_rfl⟩
instance : ZvT Try.prog 46 (.agg #[.int .i64 0, .int .i64 0]) := ⟨fun w => Try.zeroValue46 w⟩
instance : ArT Try.prog 46 2 3 1 := ⟨Try.underlying46, fun w => Try.sizeOf3 w⟩
instance : TyT Try.prog 47 2 true := ⟨fun w => Try.isAgg47 w, fun w => Try.sizeOf47 w⟩
instance : MkI Try.prog 47 := ⟨fun v w => by kernel_rfl⟩
instance : ZvT Try.prog 47 (.agg #[.bool false, .bool false]) := ⟨fun w => Try.zeroValue47 w⟩
instance : ArT Try.prog 47 2 4 1 := ⟨Try.underlying47, fun w => Try.sizeOf4 w⟩
instance : TyT Try.prog 48 15 true := ⟨fun w => Try.isAgg48 w, fun w => Try.sizeOf48 w⟩
instance : MkI Try.prog 48 := ⟨fun v w => by kernel_rfl⟩
instance : ZvT Try.prog 48 (.agg #[.int .i64 0, .int .i64 0, .int .i64 0, .int .i64 0, .int .i64 0, .int .i64 0, .int .i64 0, .int .i64 0, .int .i64 0, .int .i64 0, .int .i64 0, .int .i64 0, .bool false, .bool false, .int .i64 0]) := ⟨fun w => Try.zeroValue48 w⟩
instance : FdT Try.prog 48 0 0 37 := ⟨fun a w => by kernel_rfl, fun cs w => by kernel_rfl⟩
instance : FdT Try.prog 48 1 5 3 := ⟨fun a w => by kernel_rfl, fun cs w => by kernel_rfl⟩
instance : FdT Try.prog 48 2 6 3 := ⟨fun a w => by kernel_rfl, fun cs w => by kernel_rfl⟩
instance : FdT Try.prog 48 3 7 3 := ⟨fun a w => by kernel_rfl, fun cs w => by kernel_rfl⟩
instance : FdT Try.prog 48 4 8 46 := ⟨fun a w => by kernel_rfl, fun cs w => by kernel_rfl⟩
instance : FdT Try.prog 48 5 10 46 := ⟨fun a w => by kernel_rfl, fun cs w => by kernel_rfl⟩
instance : FdT Try.prog 48 6 12 47 := ⟨fun a w => by kernel_rfl, fun cs w => by kernel_rfl⟩
instance : FdT Try.prog 48 7 14 3 := ⟨fun a w => by kernel_rfl, fun cs w => by kernel_rfl⟩
instance : BldT Try.prog 48 [(0, 5), (5, 1), (6, 1), (7, 1), (8, 2), (10, 2), (12, 2), (14, 1)] [.int .i64 0, .int .i64 0, .int .i64 0, .int .i64 0, .int .i64 0, .int .i64 0, .int .i64 0, .int .i64 0, .int .i64 0, .int .i64 0, .int .i64 0, .int .i64 0, .bool false, .bool false, .int .i64 0] := ⟨fun parts => by kernel_rfl⟩
instance : TyT Try.prog 49 15 true := ⟨fun w => Try.isAgg49 w, fun w => Try.sizeOf49 w⟩
instance : MkI Try.prog 49 := ⟨fun v w => by kernel_rfl⟩
instance : ZvT Try.prog 49 (.agg #[.int .i64 0, .int .i64 0, .int .i64 0, .int .i64 0, .int .i64 0, .int .i64 0, .int .i64 0, .int .i64 0, .int .i64 0, .int .i64 0, .int .i64 0, .int .i64 0, .bool false, .bool false, .int .i64 0]) := ⟨fun w => Try.zeroValue49 w⟩
instance : FdT Try.prog 49 0 0 37 := ⟨fun a w => by kernel_rfl, fun cs w => by kernel_rfl⟩
instance : FdT Try.prog 49 1 5 3 := ⟨fun a w => by kernel_rfl, fun cs w => by kernel_rfl⟩
instance : FdT Try.prog 49 2 6 3 := ⟨fun a w => by kernel_rfl, fun cs w => by kernel_rfl⟩
instance : FdT Try.prog 49 3 7 3 := ⟨fun a w => by kernel_rfl, fun cs w => by kernel_rfl⟩
instance : FdT Try.prog 49 4 8 46 := ⟨fun a w => by kernel_rfl, fun cs w => by kernel_rfl⟩
instance : FdT Try.prog 49 5 10 46 := ⟨fun a w => by kernel_rfl, fun cs w => by kernel_rfl⟩
instance : FdT Try.prog 49 6 12 47 := ⟨fun a w => by kernel_rfl, fun cs w => by kernel_rfl⟩
instance : FdT Try.prog 49 7 14 3 := ⟨fun a w => by kernel_rfl, fun cs w => by kernel_rfl⟩
instance : BldT Try.prog 49 [(0, 5), (5, 1), (6, 1), (7, 1), (8, 2), (10, 2), (12, 2), (14, 1)] [.int .i64 0, .int .i64 0, .int .i64 0, .int .i64 0, .int .i64 0, .int .i64 0, .int .i64 0, .int .i64 0, .int .i64 0, .int .i64 0, .int .i64 0, .int .i64 0, .bool false, .bool false, .int .i64 0] := ⟨fun parts => by kernel_rfl⟩
instance : TyT Try.prog 55 1 false := ⟨fun w => Try.isAgg55 w, fun w => Try.sizeOf55 w⟩
instance : MkI Try.prog 55 := ⟨fun v w => by kernel_rfl⟩
instance : ZvT Try.prog 55 (.slice none 0 0) := ⟨fun w => Try.zeroValue55 w⟩
instance : SlT Try.prog 55 71 1 24 (.slice none 0 0) := ⟨by kernel_rfl, by kernel_rfl, rfl, by decide, by decide⟩
instance : TyT Try.prog 56 1 false := ⟨fun w => Try.isAgg56 w, fun w => Try.sizeOf56 w⟩
instance : MkI Try.prog 56 := ⟨fun v w => by kernel_rfl⟩
instance : ZvT Try.prog 56 (.pointer none) := ⟨fun w => Try.zeroValue56 w⟩
instance : TyT Try.prog 58 1 false := ⟨fun w => Try.isAgg58 w, fun w => Try.sizeOf58 w⟩
instance : MkI Try.prog 58 := ⟨fun v w => by kernel_rfl⟩
instance : ZvT Try.prog 58 (.slice none 0 0) := ⟨fun w => Try.zeroValue58 w⟩
instance : SlT Try.prog 58 62 17 128 (.agg #[.int .i64 0, .int .i64 0, .int .i64 0, .int .i64 0, .int .i64 0, .int .i64 0, .int .i64 0, .int .i64 0, .int .i64 0, .int .i64 0, .int .i64 0, .int .i64 0, .int .i64 0, .int .i64 0, .bool false, .bool false, .int .i64 0]) := ⟨by kernel_rfl, by kernel_rfl, rfl, by decide, by decide⟩
instance : TyT Try.prog 61 17 true := ⟨fun w => Try.isAgg61 w, fun w => Try.sizeOf61 w⟩
instance : MkI Try.prog 61 := ⟨fun v w => by kernel_rfl⟩
instance : ZvT Try.prog 61 (.agg #[.int .i64 0, .int .i64 0, .int .i64 0, .int .i64 0, .int .i64 0, .int .i64 0, .int .i64 0, .int .i64 0, .int .i64 0, .int .i64 0, .int .i64 0, .int .i64 0, .int .i64 0, .int .i64 0, .bool false, .bool false, .int .i64 0]) := ⟨fun w => Try.zeroValue61 w⟩
instance : FdT Try.prog 61 0 0 3 := ⟨fun a w => by kernel_rfl, fun cs w => by kernel_rfl⟩
instance : FdT Try.prog 61 1 1 3 := ⟨fun a w => by kernel_rfl, fun cs w => by kernel_rfl⟩
instance : FdT Try.prog 61 2 2 49 := ⟨fun a w => by kernel_rfl, fun cs w => by kernel_rfl⟩
instance : BldT Try.prog 61 [(0, 1), (1, 1), (2, 15)] [.int .i64 0, .int .i64 0, .int .i64 0, .int .i64 0, .int .i64 0, .int .i64 0, .int .i64 0, .int .i64 0, .int .i64 0, .int .i64 0, .int .i64 0, .int .i64 0, .int .i64 0, .int .i64 0, .bool false, .bool false, .int .i64 0] := ⟨fun parts => by kernel_rfl⟩
instance : TyT Try.prog 62 17 true := ⟨fun w => Try.isAgg62 w, fun w => Try.sizeOf62 w⟩
instance : MkI Try.prog 62 := ⟨fun v w => by kernel_rfl⟩
instance : ZvT Try.prog 62 (.agg #[.int .i64 0, .int .i64 0, .int .i64 0, .int .i64 0, .int .i64 0, .int .i64 0, .int .i64 0, .int .i64 0, .int .i64 0, .int .i64 0, .int .i64 0, .int .i64 0, .int .i64 0, .int .i64 0, .bool false, .bool false, .int .i64 0]) := ⟨fun w => Try.zeroValue62 w⟩
instance : FdT Try.prog 62 0 0 3 := ⟨fun a w => by kernel_rfl, fun cs w => by kernel_rfl⟩
instance : FdT Try.prog 62 1 1 3 := ⟨fun a w => by kernel_rfl, fun cs w => by kernel_rfl⟩
instance : FdT Try.prog 62 2 2 49 := ⟨fun a w => by kernel_rfl, fun cs w => by kernel_rfl⟩
instance : BldT Try.prog 62 [(0, 1), (1, 1), (2, 15)] [.int .i64 0, .int .i64 0, .int .i64 0, .int .i64 0, .int .i64 0, .int .i64 0, .int .i64 0, .int .i64 0, .int .i64 0, .int .i64 0, .int .i64 0, .int .i64 0, .int .i64 0, .int .i64 0, .bool false, .bool false, .int .i64 0] := ⟨fun parts => by kernel_rfl⟩
instance : TyT Try.prog 64 1 false := ⟨fun w => Try.isAgg64 w, fun w => Try.sizeOf64 w⟩
instance : MkI Try.prog 64 := ⟨fun v w => by kernel_rfl⟩
instance : ZvT Try.prog 64 (.pointer none) := ⟨fun w => Try.zeroValue64 w⟩
instance : TyT Try.prog 71 1 false := ⟨fun w => Try.isAgg71 w, fun w => Try.sizeOf71 w⟩
instance : MkI Try.prog 71 := ⟨fun v w => by kernel_rfl⟩
instance : ZvT Try.prog 71 (.slice none 0 0) := ⟨fun w => Try.zeroValue71 w⟩
instance : SlT Try.prog 71 3 1 8 (.int .i64 0) := ⟨by kernel_rfl, by kernel_rfl, rfl, by decide, by decide⟩
instance : TyT Try.prog 74 1 false := ⟨fun w => Try.isAgg74 w, fun w => Try.sizeOf74 w⟩
instance : MkI Try.prog 74 := ⟨fun v w => by kernel_rfl⟩
instance : IntT Try.prog 74 .i64 := ⟨Try.underlying74⟩
instance : ZvT Try.prog 74 (.int .i64 0) := ⟨fun w => Try.zeroValue74 w⟩
instance : TyT Try.prog 91 1 false := ⟨fun w => Try.isAgg91 w, fun w => Try.sizeOf91 w⟩
instance : MkI Try.prog 91 := ⟨fun v w => by kernel_rfl⟩
instance : ZvT Try.prog 91 (.pointer none) := ⟨fun w => Try.zeroValue91 w⟩
instance : TyT Try.prog 93 1 false := ⟨fun w => Try.isAgg93 w, fun w => Try.sizeOf93 w⟩
instance : MkI Try.prog 93 := ⟨fun v w => by kernel_rfl⟩
instance : ZvT Try.prog 93 (.map none) := ⟨fun w => Try.zeroValue93 w⟩
instance : TyT Try.prog 94 2 true := ⟨fun w => Try.isAgg94 w, fun w => Try.sizeOf94 w⟩
instance : MkI Try.prog 94 := ⟨fun v w => by kernel_rfl⟩
instance : ZvT Try.prog 94 (.agg #[.int .i64 0, .map none]) := ⟨fun w => Try.zeroValue94 w⟩
instance : FdT Try.prog 94 0 0 3 := ⟨fun a w => by kernel_rfl, fun cs w => by kernel_rfl⟩
instance : FdT Try.prog 94 1 1 93 := ⟨fun a w => by kernel_rfl, fun cs w => by kernel_rfl⟩
instance : BldT Try.prog 94 [(0, 1), (1, 1)] [.int .i64 0, .map none] := ⟨fun parts => by kernel_rfl⟩
instance : TyT Try.prog 95 2 true := ⟨fun w => Try.isAgg95 w, fun w => Try.sizeOf95 w⟩
instance : MkI Try.prog 95 := ⟨fun v w => by kernel_rfl⟩
instance : ZvT Try.prog 95 (.agg #[.int .i64 0, .map none]) := ⟨fun w => Try.zeroValue95 w⟩
instance : FdT Try.prog 95 0 0 3 := ⟨fun a w => by kernel_rfl, fun cs w => by kernel_rfl⟩
instance : FdT Try.prog 95 1 1 93 := ⟨fun a w => by kernel_rfl, fun cs w => by kernel_rfl⟩
instance : BldT Try.prog 95 [(0, 1), (1, 1)] [.int .i64 0, .map none] := ⟨fun parts => by kernel_rfl⟩
instance : TyT Try.prog 98 1 false := ⟨fun w => Try.isAgg98 w, fun w => Try.sizeOf98 w⟩
instance : MkI Try.prog 98 := ⟨fun v w => by kernel_rfl⟩
instance : ZvT Try.prog 98 (.slice none 0 0) := ⟨fun w => Try.zeroValue98 w⟩
instance : SlT Try.prog 98 102 18 136 (.agg #[.int .i64 0, .int .i64 0, .int .i64 0, .int .i64 0, .int .i64 0, .int .i64 0, .int .i64 0, .int .i64 0, .int .i64 0, .int .i64 0, .int .i64 0, .int .i64 0, .int .i64 0, .int .i64 0, .bool false, .bool false, .int .i64 0, .int .i64 0]) := ⟨by kernel_rfl, by kernel_rfl, rfl, by decide, by decide⟩
instance : TyT Try.prog 99 4 true := ⟨fun w => Try.isAgg99 w, fun w => Try.sizeOf99 w⟩
instance : MkI Try.prog 99 := ⟨fun v w => by kernel_rfl⟩
instance : ZvT Try.prog 99 (.agg #[.int .i64 0, .int .i64 0, .int .i64 0, .slice none 0 0]) := ⟨fun w => Try.zeroValue99 w⟩
instance : FdT Try.prog 99 0 0 3 := ⟨fun a w => by kernel_rfl, fun cs w => by kernel_rfl⟩
instance : FdT Try.prog 99 1 1 3 := ⟨fun a w => by kernel_rfl, fun cs w => by kernel_rfl⟩
instance : FdT Try.prog 99 2 2 3 := ⟨fun a w => by kernel_rfl, fun cs w => by kernel_rfl⟩
instance : FdT Try.prog 99 3 3 98 := ⟨fun a w => by kernel_rfl, fun cs w => by kernel_rfl⟩
instance : BldT Try.prog 99 [(0, 1), (1, 1), (2, 1), (3, 1)] [.int .i64 0, .int .i64 0, .int .i64 0, .slice none 0 0] := ⟨fun parts => by kernel_rfl⟩
instance : TyT Try.prog 100 4 true := ⟨fun w => Try.isAgg100 w, fun w => Try.sizeOf100 w⟩
instance : MkI Try.prog 100 := ⟨fun v w => by kernel_rfl⟩
instance : ZvT Try.prog 100 (.agg #[.int .i64 0, .int .i64 0, .int .i64 0, .slice none 0 0]) := ⟨fun w => Try.zeroValue100 w⟩
instance : FdT Try.prog 100 0 0 3 := ⟨fun a w => by kernel_rfl, fun cs w => by kernel_rfl⟩
instance : FdT Try.prog 100 1 1 3 := ⟨fun a w => by kernel_rfl, fun cs w => by kernel_rfl⟩
instance : FdT Try.prog 100 2 2 3 := ⟨fun a w => by kernel_rfl, fun cs w => by kernel_rfl⟩
instance : FdT Try.prog 100 3 3 98 := ⟨fun a w => by kernel_rfl, fun cs w => by kernel_rfl⟩
instance : BldT Try.prog 100 [(0, 1), (1, 1), (2, 1), (3, 1)] [.int .i64 0, .int .i64 0, .int .i64 0, .slice none 0 0] := ⟨fun parts => by kernel_rfl⟩
instance : TyT Try.prog 101 18 true := ⟨fun w => Try.isAgg101 w, fun w => Try.sizeOf101 w⟩
instance : MkI Try.prog 101 := ⟨fun v w => by kernel_rfl⟩
instance : ZvT Try.prog 101 (.agg #[.int .i64 0, .int .i64 0, .int .i64 0, .int .i64 0, .int .i64 0, .int .i64 0, .int .i64 0, .int .i64 0, .int .i64 0, .int .i64 0, .int .i64 0, .int .i64 0, .int .i64 0, .int .i64 0, .bool false, .bool false, .int .i64 0, .int .i64 0]) := ⟨fun w => Try.zeroValue101 w⟩
instance : FdT Try.prog 101 0 0 62 := ⟨fun a w => by kernel_rfl, fun cs w => by kernel_rfl⟩
instance : FdT Try.prog 101 1 17 3 := ⟨fun a w => by kernel_rfl, fun cs w => by kernel_rfl⟩
instance : BldT Try.prog 101 [(0, 17), (17, 1)] [.int .i64 0, .int .i64 0, .int .i64 0, .int .i64 0, .int .i64 0, .int .i64 0, .int .i64 0, .int .i64 0, .int .i64 0, .int .i64 0, .int .i64 0, .int .i64 0, .int .i64 0, .int .i64 0, .bool false, .bool false, .int .i64 0, .int .i64 0] := ⟨fun parts => by kernel_rfl⟩
instance : TyT Try.prog 102 18 true := ⟨fun w => Try.isAgg102 w, fun w => Try.sizeOf102 w⟩
instance : MkI Try.prog 102 := ⟨fun v w => by kernel_rfl⟩
instance : ZvT Try.prog 102 (.agg #[.int .i64 0, .int .i64 0, .int .i64 0, .int .i64 0, .int .i64 0, .int .i64 0, .int .i64 0, .int .i64 0, .int .i64 0, .int .i64 0, .int .i64 0, .int .i64 0, .int .i64 0, .int .i64 0, .bool false, .bool false, .int .i64 0, .int .i64 0]) := ⟨fun w => Try.zeroValue102 w⟩
instance : FdT Try.prog 102 0 0 62 := ⟨fun a w => by kernel_rfl, fun cs w => by kernel_rfl⟩
instance : FdT Try.prog 102 1 17 3 := ⟨fun a w => by kernel_rfl, fun cs w => by kernel_rfl⟩
instance : BldT Try.prog 102 [(0, 17), (17, 1)] [.int .i64 0, .int .i64 0, .int .i64 0, .int .i64 0, .int .i64 0, .int .i64 0, .int .i64 0, .int .i64 0, .int .i64 0, .int .i64 0, .int .i64 0, .int .i64 0, .int .i64 0, .int .i64 0, .bool false, .bool false, .int .i64 0, .int .i64 0] := ⟨fun parts => by kernel_rfl⟩
instance : TyT Try.prog 103 1 false := ⟨fun w => Try.isAgg103 w, fun w => Try.sizeOf103 w⟩
instance : MkI Try.prog 103 := ⟨fun v w => by kernel_rfl⟩
instance : IntT Try.prog 103 .u64 := ⟨Try.underlying103⟩
instance : ZvT Try.prog 103 (.int .u64 0) := ⟨fun w => Try.zeroValue103 w⟩
instance : TyT Try.prog 105 4 true := ⟨fun w => Try.isAgg105 w, fun w => Try.sizeOf105 w⟩
instance : MkI Try.prog 105 := ⟨fun v w => by kernel_rfl⟩
instance : ZvT Try.prog 105 (.agg #[.int .i64 0, .int .i64 0, .int .i64 0, .int .i64 0]) := ⟨fun w => Try.zeroValue105 w⟩
instance : ArT Try.prog 105 4 3 1 := ⟨Try.underlying105, fun w => Try.sizeOf3 w⟩
instance : TyT Try.prog 109 1 false := ⟨fun w => Try.isAgg109 w, fun w => Try.sizeOf109 w⟩
instance : MkI Try.prog 109 := ⟨fun v w => by kernel_rfl⟩
instance : IntT Try.prog 109 .u32 := ⟨Try.underlying109⟩
instance : ZvT Try.prog 109 (.int .u32 0) := ⟨fun w => Try.zeroValue109 w⟩
instance : TyT Try.prog 111 4 true := ⟨fun w => Try.isAgg111 w, fun w => Try.sizeOf111 w⟩
instance : MkI Try.prog 111 := ⟨fun v w => by kernel_rfl⟩
instance : ZvT Try.prog 111 (.agg #[.pointer none, .pointer none, .pointer none, .string ⟨#[]⟩]) := ⟨fun w => Try.zeroValue111 w⟩
instance : FdT Try.prog 111 0 0 17 := ⟨fun a w => by kernel_rfl, fun cs w => by kernel_rfl⟩
instance : FdT Try.prog 111 1 1 17 := ⟨fun a w => by kernel_rfl, fun cs w => by kernel_rfl⟩
instance : FdT Try.prog 111 2 2 17 := ⟨fun a w => by kernel_rfl, fun cs w => by kernel_rfl⟩
instance : FdT Try.prog 111 3 3 9 := ⟨fun a w => by kernel_rfl, fun cs w => by kernel_rfl⟩
instance : BldT Try.prog 111 [(0, 1), (1, 1), (2, 1), (3, 1)] [.pointer none, .pointer none, .pointer none, .string ⟨#[]⟩] := ⟨fun parts => by kernel_rfl⟩
instance : TyT Try.prog 112 4 true := ⟨fun w => Try.isAgg112 w, fun w => Try.sizeOf112 w⟩
instance : MkI Try.prog 112 := ⟨fun v w => by kernel_rfl⟩
instance : ZvT Try.prog 112 (.agg #[.pointer none, .pointer none, .pointer none, .string ⟨#[]⟩]) := ⟨fun w => Try.zeroValue112 w⟩
instance : FdT Try.prog 112 0 0 17 := ⟨fun a w => by kernel_rfl, fun cs w => by kernel_rfl⟩
instance : FdT Try.prog 112 1 1 17 := ⟨fun a w => by kernel_rfl, fun cs w => by kernel_rfl⟩
instance : FdT Try.prog 112 2 2 17 := ⟨fun a w => by kernel_rfl, fun cs w => by kernel_rfl⟩
instance : FdT Try.prog 112 3 3 9 := ⟨fun a w => by kernel_rfl, fun cs w => by kernel_rfl⟩
instance : BldT Try.prog 112 [(0, 1), (1, 1), (2, 1), (3, 1)] [.pointer none, .pointer none, .pointer none, .string ⟨#[]⟩] := ⟨fun parts => by kernel_rfl⟩
instance : TyT Try.prog 113 0 true := ⟨fun w => Try.isAgg113 w, fun w => Try.sizeOf113 w⟩
instance : MkI Try.prog 113 := ⟨fun v w => by kernel_rfl⟩
instance : ZvT Try.prog 113 (.agg #[]) := ⟨fun w => Try.zeroValue113 w⟩
instance : ArT Try.prog 113 0 16 1 := ⟨Try.underlying113, fun w => Try.sizeOf16 w⟩
instance : TyT Try.prog 114 0 true := ⟨fun w => Try.isAgg114 w, fun w => Try.sizeOf114 w⟩
instance : MkI Try.prog 114 := ⟨fun v w => by kernel_rfl⟩
instance : ZvT Try.prog 114 (.agg #[]) := ⟨fun w => Try.zeroValue114 w⟩
instance : BldT Try.prog 114 [(0, 0)] [] := ⟨fun parts => by kernel_rfl⟩
instance : TyT Try.prog 115 0 true := ⟨fun w => Try.isAgg115 w, fun w => Try.sizeOf115 w⟩
instance : MkI Try.prog 115 := ⟨fun v w => by kernel_rfl⟩
instance : ZvT Try.prog 115 (.agg #[]) := ⟨fun w => Try.zeroValue115 w⟩
instance : BldT Try.prog 115 [(0, 0)] [] := ⟨fun parts => by kernel_rfl⟩
instance : TyT Try.prog 116 1 false := ⟨fun w => Try.isAgg116 w, fun w => Try.sizeOf116 w⟩
instance : MkI Try.prog 116 := ⟨fun v w => by kernel_rfl⟩
instance : IntT Try.prog 116 .u8 := ⟨Try.underlying116⟩
instance : ZvT Try.prog 116 (.int .u8 0) := ⟨fun w => Try.zeroValue116 w⟩
instance : TyT Try.prog 117 1 false := ⟨fun w => Try.isAgg117 w, fun w => Try.sizeOf117 w⟩
instance : MkI Try.prog 117 := ⟨fun v w => by kernel_rfl⟩
instance : IntT Try.prog 117 .u8 := ⟨Try.underlying117⟩
instance : ZvT Try.prog 117 (.int .u8 0) := ⟨fun w => Try.zeroValue117 w⟩
instance : TyT Try.prog 119 1 false := ⟨fun w => Try.isAgg119 w, fun w => Try.sizeOf119 w⟩
instance : MkI Try.prog 119 := ⟨fun v w => by kernel_rfl⟩
instance : ZvT Try.prog 119 (.pointer none) := ⟨fun w => Try.zeroValue119 w⟩
instance : TyT Try.prog 120 1 false := ⟨fun w => Try.isAgg120 w, fun w => Try.sizeOf120 w⟩
instance : MkI Try.prog 120 := ⟨fun v w => by kernel_rfl⟩
instance : IntT Try.prog 120 .i32 := ⟨Try.underlying120⟩
instance : ZvT Try.prog 120 (.int .i32 0) := ⟨fun w => Try.zeroValue120 w⟩
instance : TyT Try.prog 121 1 false := ⟨fun w => Try.isAgg121 w, fun w => Try.sizeOf121 w⟩
instance : MkI Try.prog 121 := ⟨fun v w => by kernel_rfl⟩
instance : IntT Try.prog 121 .i32 := ⟨Try.underlying121⟩
instance : ZvT Try.prog 121 (.int .i32 0) := ⟨fun w => Try.zeroValue121 w⟩
instance : TyT Try.prog 122 11 true := ⟨fun w => Try.isAgg122 w, fun w => Try.sizeOf122 w⟩
instance : MkI Try.prog 122 := ⟨fun v w => by kernel_rfl⟩
instance : ZvT Try.prog 122 (.agg #[.int .u64 0, .int .u64 0, .int .u32 0, .int .u8 0, .int .u8 0, .int .u8 0, .int .u8 0, .nilFunc, .pointer none, .int .i32 0, .int .i32 0]) := ⟨fun w => Try.zeroValue122 w⟩
instance : FdT Try.prog 122 0 0 12 := ⟨fun a w => by kernel_rfl, fun cs w => by kernel_rfl⟩
instance : FdT Try.prog 122 1 1 12 := ⟨fun a w => by kernel_rfl, fun cs w => by kernel_rfl⟩
instance : FdT Try.prog 122 2 2 109 := ⟨fun a w => by kernel_rfl, fun cs w => by kernel_rfl⟩
instance : FdT Try.prog 122 3 3 116 := ⟨fun a w => by kernel_rfl, fun cs w => by kernel_rfl⟩
instance : FdT Try.prog 122 4 4 5 := ⟨fun a w => by kernel_rfl, fun cs w => by kernel_rfl⟩
instance : FdT Try.prog 122 5 5 5 := ⟨fun a w => by kernel_rfl, fun cs w => by kernel_rfl⟩
instance : FdT Try.prog 122 6 6 117 := ⟨fun a w => by kernel_rfl, fun cs w => by kernel_rfl⟩
instance : FdT Try.prog 122 8 8 119 := ⟨fun a w => by kernel_rfl, fun cs w => by kernel_rfl⟩
instance : FdT Try.prog 122 9 9 120 := ⟨fun a w => by kernel_rfl, fun cs w => by kernel_rfl⟩
instance : FdT Try.prog 122 10 10 121 := ⟨fun a w => by kernel_rfl, fun cs w => by kernel_rfl⟩
instance : TyT Try.prog 123 11 true := ⟨fun w => Try.isAgg123 w, fun w => Try.sizeOf123 w⟩
instance : MkI Try.prog 123 := ⟨fun v w => by kernel_rfl⟩
instance : ZvT Try.prog 123 (.agg #[.int .u64 0, .int .u64 0, .int .u32 0, .int .u8 0, .int .u8 0, .int .u8 0, .int .u8 0, .nilFunc, .pointer none, .int .i32 0, .int .i32 0]) := ⟨fun w => Try.zeroValue123 w⟩
instance : FdT Try.prog 123 0 0 12 := ⟨fun a w => by kernel_rfl, fun cs w => by kernel_rfl⟩
instance : FdT Try.prog 123 1 1 12 := ⟨fun a w => by kernel_rfl, fun cs w => by kernel_rfl⟩
instance : FdT Try.prog 123 2 2 109 := ⟨fun a w => by kernel_rfl, fun cs w => by kernel_rfl⟩
instance : FdT Try.prog 123 3 3 116 := ⟨fun a w => by kernel_rfl, fun cs w => by kernel_rfl⟩
instance : FdT Try.prog 123 4 4 5 := ⟨fun a w => by kernel_rfl, fun cs w => by kernel_rfl⟩
instance : FdT Try.prog 123 5 5 5 := ⟨fun a w => by kernel_rfl, fun cs w => by kernel_rfl⟩
instance : FdT Try.prog 123 6 6 117 := ⟨fun a w => by kernel_rfl, fun cs w => by kernel_rfl⟩
instance : FdT Try.prog 123 8 8 119 := ⟨fun a w => by kernel_rfl, fun cs w => by kernel_rfl⟩
instance : FdT Try.prog 123 9 9 120 := ⟨fun a w => by kernel_rfl, fun cs w => by kernel_rfl⟩
instance : FdT Try.prog 123 10 10 121 := ⟨fun a w => by kernel_rfl, fun cs w => by kernel_rfl⟩
instance : TyT Try.prog 124 1 false := ⟨fun w => Try.isAgg124 w, fun w => Try.sizeOf124 w⟩
instance : MkI Try.prog 124 := ⟨fun v w => by kernel_rfl⟩
instance : ZvT Try.prog 124 (.pointer none) := ⟨fun w => Try.zeroValue124 w⟩
/- Functions with a body. -/
instance : CalT Try.prog 2 := ⟨fun args w => Try.call2 args w⟩
instance : CalT Try.prog 3 := ⟨fun args w => Try.call3 args w⟩
instance : CalT Try.prog 4 := ⟨fun args w => Try.call4 args w⟩
instance : CalT Try.prog 5 := ⟨fun args w => Try.call5 args w⟩
instance : CalT Try.prog 6 := ⟨fun args w => Try.call6 args w⟩
instance : CalT Try.prog 7 := ⟨fun args w => Try.call7 args w⟩
instance : CalT Try.prog 8 := ⟨fun args w => Try.call8 args w⟩
instance : CalT Try.prog 9 := ⟨fun args w => Try.call9 args w⟩
instance : CalT Try.prog 10 := ⟨fun args w => Try.call10 args w⟩
instance : CalT Try.prog 11 := ⟨fun args w => Try.call11 args w⟩
instance : CalT Try.prog 12 := ⟨fun args w => Try.call12 args w⟩
instance : CalT Try.prog 13 := ⟨fun args w => Try.call13 args w⟩
instance : CalT Try.prog 14 := ⟨fun args w => Try.call14 args w⟩
instance : CalT Try.prog 15 := ⟨fun args w => Try.call15 args w⟩
instance : CalT Try.prog 16 := ⟨fun args w => Try.call16 args w⟩
instance : CalT Try.prog 17 := ⟨fun args w => Try.call17 args w⟩
instance : CalT Try.prog 18 := ⟨fun args w => Try.call18 args w⟩
instance : CalT Try.prog 19 := ⟨fun args w => Try.call19 args w⟩
instance : CalT Try.prog 20 := ⟨fun args w => Try.call20 args w⟩
instance : CalT Try.prog 21 := ⟨fun args w => Try.call21 args w⟩
instance : CalT Try.prog 22 := ⟨fun args w => Try.call22 args w⟩
instance : CalT Try.prog 23 := ⟨fun args w => Try.call23 args w⟩
instance : CalT Try.prog 24 := ⟨fun args w => Try.call24 args w⟩
instance : CalT Try.prog 25 := ⟨fun args w => Try.call25 args w⟩
instance : CalT Try.prog 26 := ⟨fun args w => Try.call26 args w⟩
instance : CalT Try.prog 27 := ⟨fun args w => Try.call27 args w⟩
instance : CalT Try.prog 28 := ⟨fun args w => Try.call28 args w⟩
instance : CalT Try.prog 29 := ⟨fun args w => Try.call29 args w⟩
instance : CalT Try.prog 30 := ⟨fun args w => Try.call30 args w⟩
instance : CalT Try.prog 31 := ⟨fun args w => Try.call31 args w⟩
instance : CalT Try.prog 32 := ⟨fun args w => Try.call32 args w⟩
instance : CalT Try.prog 33 := ⟨fun args w => Try.call33 args w⟩
instance : CalT Try.prog 34 := ⟨fun args w => Try.call34 args w⟩
instance : CalT Try.prog 35 := ⟨fun args w => Try.call35 args w⟩
instance : CalT Try.prog 36 := ⟨fun args w => Try.call36 args w⟩
instance : CalT Try.prog 37 := ⟨fun args w => Try.call37 args w⟩
instance : CalT Try.prog 38 := ⟨fun args w => Try.call38 args w⟩
instance : CalT Try.prog 39 := ⟨fun args w => Try.call39 args w⟩
instance : CalT Try.prog 40 := ⟨fun args w => Try.call40 args w⟩
instance : CalT Try.prog 41 := ⟨fun args w => Try.call41 args w⟩
instance : CalT Try.prog 42 := ⟨fun args w => Try.call42 args w⟩
instance : CalT Try.prog 43 := ⟨fun args w => Try.call43 args w⟩
instance : CalT Try.prog 44 := ⟨fun args w => Try.call44 args w⟩
instance : CalT Try.prog 45 := ⟨fun args w => Try.call45 args w⟩
instance : CalT Try.prog 46 := ⟨fun args w => Try.call46 args w⟩
instance : CalT Try.prog 47 := ⟨fun args w => Try.call47 args w⟩
instance : CalT Try.prog 48 := ⟨fun args w => Try.call48 args w⟩
instance : CalT Try.prog 49 := ⟨fun args w => Try.call49 args w⟩
instance : CalT Try.prog 50 := ⟨fun args w => Try.call50 args w⟩
instance : CalT Try.prog 51 := ⟨fun args w => Try.call51 args w⟩
instance : CalT Try.prog 52 := ⟨fun args w => Try.call52 args w⟩
instance : CalT Try.prog 53 := ⟨fun args w => Try.call53 args w⟩
instance : CalT Try.prog 54 := ⟨fun args w => Try.call54 args w⟩
instance : CalT Try.prog 55 := ⟨fun args w => Try.call55 args w⟩
instance : CalT Try.prog 56 := ⟨fun args w => Try.call56 args w⟩
instance : CalT Try.prog 57 := ⟨fun args w => Try.call57 args w⟩
instance : CalT Try.prog 58 := ⟨fun args w => Try.call58 args w⟩
instance : CalT Try.prog 59 := ⟨fun args w => Try.call59 args w⟩
instance : CalT Try.prog 60 := ⟨fun args w => Try.call60 args w⟩
end Go.Proofs.Ytpinlpkaflckfaa
