/- The seat's types and functions, as instances. Printed by wip/tools/types.py. -/
import Derived.Test.YtgcflhgbojmbjaaDoorEngB
import Derived.Test.YtgcflhgbojmbjaaDoorProg
import Derived.KernelRfl
namespace Go.Proofs.YtgcflhgbojmbjaaDoor
open Go.Port
instance : TyT Tryd.prog 2 1 false := ⟨fun w => Tryd.isAgg2 w, fun w => Tryd.sizeOf2 w⟩
instance : MkI Tryd.prog 2 := ⟨fun v w => by kernel_rfl⟩
instance : IntT Tryd.prog 2 .i64 := ⟨Tryd.underlying2⟩
instance : ZvT Tryd.prog 2 (.int .i64 0) := ⟨fun w => Tryd.zeroValue2 w⟩
instance : TyT Tryd.prog 3 1 false := ⟨fun w => Tryd.isAgg3 w, fun w => Tryd.sizeOf3 w⟩
instance : MkI Tryd.prog 3 := ⟨fun v w => by kernel_rfl⟩
instance : IntT Tryd.prog 3 .i64 := ⟨Tryd.underlying3⟩
instance : ZvT Tryd.prog 3 (.int .i64 0) := ⟨fun w => Tryd.zeroValue3 w⟩
instance : TyT Tryd.prog 4 1 false := ⟨fun w => Tryd.isAgg4 w, fun w => Tryd.sizeOf4 w⟩
instance : MkI Tryd.prog 4 := ⟨fun v w => by kernel_rfl⟩
instance : ZvT Tryd.prog 4 (.bool false) := ⟨fun w => Tryd.zeroValue4 w⟩
instance : TyT Tryd.prog 5 1 false := ⟨fun w => Tryd.isAgg5 w, fun w => Tryd.sizeOf5 w⟩
instance : MkI Tryd.prog 5 := ⟨fun v w => by kernel_rfl⟩
instance : IntT Tryd.prog 5 .u8 := ⟨Tryd.underlying5⟩
instance : ZvT Tryd.prog 5 (.int .u8 0) := ⟨fun w => Tryd.zeroValue5 w⟩
instance : TyT Tryd.prog 6 1 false := ⟨fun w => Tryd.isAgg6 w, fun w => Tryd.sizeOf6 w⟩
instance : MkI Tryd.prog 6 := ⟨fun v w => by kernel_rfl⟩
instance : IntT Tryd.prog 6 .u8 := ⟨Tryd.underlying6⟩
instance : ZvT Tryd.prog 6 (.int .u8 0) := ⟨fun w => Tryd.zeroValue6 w⟩
instance : TyT Tryd.prog 7 4 true := ⟨fun w => Tryd.isAgg7 w, fun w => Tryd.sizeOf7 w⟩
instance : MkI Tryd.prog 7 := ⟨fun v w => by kernel_rfl⟩
instance : ZvT Tryd.prog 7 (.agg #[.int .i64 0, .int .i64 0, .bool false, .int .u8 0]) := ⟨fun w => Tryd.zeroValue7 w⟩
instance : FdT Tryd.prog 7 0 0 2 := ⟨fun a w => by kernel_rfl, fun cs w => by kernel_rfl⟩
instance : FdT Tryd.prog 7 1 1 3 := ⟨fun a w => by kernel_rfl, fun cs w => by kernel_rfl⟩
instance : FdT Tryd.prog 7 2 2 4 := ⟨fun a w => by kernel_rfl, fun cs w => by kernel_rfl⟩
instance : FdT Tryd.prog 7 3 3 6 := ⟨fun a w => by kernel_rfl, fun cs w => by kernel_rfl⟩
instance : BldT Tryd.prog 7 [(0, 1), (1, 1), (2, 1), (3, 1)] [.int .i64 0, .int .i64 0, .bool false, .int .u8 0] := ⟨fun parts => by kernel_rfl⟩
instance : TyT Tryd.prog 8 4 true := ⟨fun w => Tryd.isAgg8 w, fun w => Tryd.sizeOf8 w⟩
instance : MkI Tryd.prog 8 := ⟨fun v w => by kernel_rfl⟩
instance : ZvT Tryd.prog 8 (.agg #[.int .i64 0, .int .i64 0, .bool false, .int .u8 0]) := ⟨fun w => Tryd.zeroValue8 w⟩
instance : FdT Tryd.prog 8 0 0 2 := ⟨fun a w => by kernel_rfl, fun cs w => by kernel_rfl⟩
instance : FdT Tryd.prog 8 1 1 3 := ⟨fun a w => by kernel_rfl, fun cs w => by kernel_rfl⟩
instance : FdT Tryd.prog 8 2 2 4 := ⟨fun a w => by kernel_rfl, fun cs w => by kernel_rfl⟩
instance : FdT Tryd.prog 8 3 3 6 := ⟨fun a w => by kernel_rfl, fun cs w => by kernel_rfl⟩
instance : BldT Tryd.prog 8 [(0, 1), (1, 1), (2, 1), (3, 1)] [.int .i64 0, .int .i64 0, .bool false, .int .u8 0] := ⟨fun parts => by kernel_rfl⟩
instance : TyT Tryd.prog 9 1 false := ⟨fun w => Tryd.isAgg9 w, fun w => Tryd.sizeOf9 w⟩
instance : MkI Tryd.prog 9 := ⟨fun v w => by kernel_rfl⟩
instance : StrT Tryd.prog 9 := ⟨Tryd.underlying9⟩
instance : ZvT Tryd.prog 9 (.string ⟨#[]⟩) := ⟨fun w => Tryd.zeroValue9 w⟩
instance : TyT Tryd.prog 10 1 false := ⟨fun w => Tryd.isAgg10 w, fun w => Tryd.sizeOf10 w⟩
instance : MkI Tryd.prog 10 := ⟨fun v w => by kernel_rfl⟩
instance : StrT Tryd.prog 10 := ⟨Tryd.underlying10⟩
instance : ZvT Tryd.prog 10 (.string ⟨#[]⟩) := ⟨fun w => Tryd.zeroValue10 w⟩
instance : TyT Tryd.prog 11 1 false := ⟨fun w => Tryd.isAgg11 w, fun w => Tryd.sizeOf11 w⟩
instance : MkI Tryd.prog 11 := ⟨fun v w => by kernel_rfl⟩
instance : StrT Tryd.prog 11 := ⟨Tryd.underlying11⟩
instance : ZvT Tryd.prog 11 (.string ⟨#[]⟩) := ⟨fun w => Tryd.zeroValue11 w⟩
instance : TyT Tryd.prog 12 1 false := ⟨fun w => Tryd.isAgg12 w, fun w => Tryd.sizeOf12 w⟩
instance : MkI Tryd.prog 12 := ⟨fun v w => by kernel_rfl⟩
instance : IntT Tryd.prog 12 .u64 := ⟨Tryd.underlying12⟩
instance : ZvT Tryd.prog 12 (.int .u64 0) := ⟨fun w => Tryd.zeroValue12 w⟩
instance : TyT Tryd.prog 13 2 true := ⟨fun w => Tryd.isAgg13 w, fun w => Tryd.sizeOf13 w⟩
instance : MkI Tryd.prog 13 := ⟨fun v w => by kernel_rfl⟩
instance : ZvT Tryd.prog 13 (.agg #[.string ⟨#[]⟩, .int .u64 0]) := ⟨fun w => Tryd.zeroValue13 w⟩
instance : FdT Tryd.prog 13 0 0 9 := ⟨fun a w => by kernel_rfl, fun cs w => by kernel_rfl⟩
instance : FdT Tryd.prog 13 1 1 12 := ⟨fun a w => by kernel_rfl, fun cs w => by kernel_rfl⟩
instance : BldT Tryd.prog 13 [(0, 1), (1, 1)] [.string ⟨#[]⟩, .int .u64 0] := ⟨fun parts => by kernel_rfl⟩
instance : TyT Tryd.prog 14 2 true := ⟨fun w => Tryd.isAgg14 w, fun w => Tryd.sizeOf14 w⟩
instance : MkI Tryd.prog 14 := ⟨fun v w => by kernel_rfl⟩
instance : ZvT Tryd.prog 14 (.agg #[.string ⟨#[]⟩, .int .u64 0]) := ⟨fun w => Tryd.zeroValue14 w⟩
instance : FdT Tryd.prog 14 0 0 9 := ⟨fun a w => by kernel_rfl, fun cs w => by kernel_rfl⟩
instance : FdT Tryd.prog 14 1 1 12 := ⟨fun a w => by kernel_rfl, fun cs w => by kernel_rfl⟩
instance : BldT Tryd.prog 14 [(0, 1), (1, 1)] [.string ⟨#[]⟩, .int .u64 0] := ⟨fun parts => by kernel_rfl⟩
instance : TyT Tryd.prog 15 1 false := ⟨fun w => Tryd.isAgg15 w, fun w => Tryd.sizeOf15 w⟩
instance : MkI Tryd.prog 15 := ⟨fun v w => by kernel_rfl⟩
instance : ZvT Tryd.prog 15 (.pointer none) := ⟨fun w => Tryd.zeroValue15 w⟩
instance : TyT Tryd.prog 16 1 false := ⟨fun w => Tryd.isAgg16 w, fun w => Tryd.sizeOf16 w⟩
instance : MkI Tryd.prog 16 := ⟨fun v w => by kernel_rfl⟩
instance : ZvT Tryd.prog 16 (.pointer none) := ⟨fun w => Tryd.zeroValue16 w⟩
instance : TyT Tryd.prog 17 1 false := ⟨fun w => Tryd.isAgg17 w, fun w => Tryd.sizeOf17 w⟩
instance : MkI Tryd.prog 17 := ⟨fun v w => by kernel_rfl⟩
instance : ZvT Tryd.prog 17 (.pointer none) := ⟨fun w => Tryd.zeroValue17 w⟩
instance : TyT Tryd.prog 18 1 true := ⟨fun w => Tryd.isAgg18 w, fun w => Tryd.sizeOf18 w⟩
instance : MkI Tryd.prog 18 := ⟨fun v w => by kernel_rfl⟩
instance : ZvT Tryd.prog 18 (.agg #[.pointer none]) := ⟨fun w => Tryd.zeroValue18 w⟩
instance : FdT Tryd.prog 18 0 0 17 := ⟨fun a w => by kernel_rfl, fun cs w => by kernel_rfl⟩
instance : BldT Tryd.prog 18 [(0, 1)] [.pointer none] := ⟨fun parts => by kernel_rfl⟩
instance : TyT Tryd.prog 19 1 true := ⟨fun w => Tryd.isAgg19 w, fun w => Tryd.sizeOf19 w⟩
instance : MkI Tryd.prog 19 := ⟨fun v w => by kernel_rfl⟩
instance : ZvT Tryd.prog 19 (.agg #[.pointer none]) := ⟨fun w => Tryd.zeroValue19 w⟩
instance : FdT Tryd.prog 19 0 0 17 := ⟨fun a w => by kernel_rfl, fun cs w => by kernel_rfl⟩
instance : BldT Tryd.prog 19 [(0, 1)] [.pointer none] := ⟨fun parts => by kernel_rfl⟩
instance : TyT Tryd.prog 20 1 false := ⟨fun w => Tryd.isAgg20 w, fun w => Tryd.sizeOf20 w⟩
instance : IfT Tryd.prog 20 := ⟨⟨_, Tryd.underlying20⟩⟩
instance : ZvT Tryd.prog 20 (.nilIface) := ⟨fun w => Tryd.zeroValue20 w⟩
instance : TyT Tryd.prog 21 1 false := ⟨fun w => Tryd.isAgg21 w, fun w => Tryd.sizeOf21 w⟩
instance : MkI Tryd.prog 21 := ⟨fun v w => by kernel_rfl⟩
instance : IntT Tryd.prog 21 .i32 := ⟨Tryd.underlying21⟩
instance : ZvT Tryd.prog 21 (.int .i32 0) := ⟨fun w => Tryd.zeroValue21 w⟩
instance : TyT Tryd.prog 22 2 true := ⟨fun w => Tryd.isAgg22 w, fun w => Tryd.sizeOf22 w⟩
instance : MkI Tryd.prog 22 := ⟨fun v w => by kernel_rfl⟩
instance : ZvT Tryd.prog 22 (.agg #[.int .i64 0, .int .i64 0]) := ⟨fun w => Tryd.zeroValue22 w⟩
instance : FdT Tryd.prog 22 0 0 3 := ⟨fun a w => by kernel_rfl, fun cs w => by kernel_rfl⟩
instance : FdT Tryd.prog 22 1 1 3 := ⟨fun a w => by kernel_rfl, fun cs w => by kernel_rfl⟩
instance : BldT Tryd.prog 22 [(0, 1), (1, 1)] [.int .i64 0, .int .i64 0] := ⟨fun parts => by kernel_rfl⟩
instance : TyT Tryd.prog 23 2 true := ⟨fun w => Tryd.isAgg23 w, fun w => Tryd.sizeOf23 w⟩
instance : MkI Tryd.prog 23 := ⟨fun v w => by kernel_rfl⟩
instance : ZvT Tryd.prog 23 (.agg #[.int .i64 0, .int .i64 0]) := ⟨fun w => Tryd.zeroValue23 w⟩
instance : FdT Tryd.prog 23 0 0 3 := ⟨fun a w => by kernel_rfl, fun cs w => by kernel_rfl⟩
instance : FdT Tryd.prog 23 1 1 3 := ⟨fun a w => by kernel_rfl, fun cs w => by kernel_rfl⟩
instance : BldT Tryd.prog 23 [(0, 1), (1, 1)] [.int .i64 0, .int .i64 0] := ⟨fun parts => by kernel_rfl⟩
instance : TyT Tryd.prog 24 1 false := ⟨fun w => Tryd.isAgg24 w, fun w => Tryd.sizeOf24 w⟩
instance : IfT Tryd.prog 24 := ⟨⟨_, Tryd.underlying24⟩⟩
instance : ZvT Tryd.prog 24 (.nilIface) := ⟨fun w => Tryd.zeroValue24 w⟩
instance : TyT Tryd.prog 25 1 false := ⟨fun w => Tryd.isAgg25 w, fun w => Tryd.sizeOf25 w⟩
instance : IfT Tryd.prog 25 := ⟨⟨_, Tryd.underlying25⟩⟩
instance : ZvT Tryd.prog 25 (.nilIface) := ⟨fun w => Tryd.zeroValue25 w⟩
instance : TyT Tryd.prog 37 1 false := ⟨fun w => Tryd.isAgg37 w, fun w => Tryd.sizeOf37 w⟩
instance : MkI Tryd.prog 37 := ⟨fun v w => by kernel_rfl⟩
instance : IntT Tryd.prog 37 .i64 := ⟨Tryd.underlying37⟩
instance : ZvT Tryd.prog 37 (.int .i64 0) := ⟨fun w => Tryd.zeroValue37 w⟩
instance : TyT Tryd.prog 39 1 false := ⟨fun w => Tryd.isAgg39 w, fun w => Tryd.sizeOf39 w⟩
instance : MkI Tryd.prog 39 := ⟨fun v w => by kernel_rfl⟩
instance : ZvT Tryd.prog 39 (.slice none 0 0) := ⟨fun w => Tryd.zeroValue39 w⟩
instance : SlT Tryd.prog 39 9 1 16 (.string ⟨#[]⟩) := ⟨by kernel_rfl, by kernel_rfl, rfl, by decide, by decide⟩
instance : TyT Tryd.prog 46 1 false := ⟨fun w => Tryd.isAgg46 w, fun w => Tryd.sizeOf46 w⟩
instance : MkI Tryd.prog 46 := ⟨fun v w => by kernel_rfl⟩
instance : ZvT Tryd.prog 46 (.pointer none) := ⟨fun w => Tryd.zeroValue46 w⟩
instance : TyT Tryd.prog 47 1 false := ⟨fun w => Tryd.isAgg47 w, fun w => Tryd.sizeOf47 w⟩
instance : MkI Tryd.prog 47 := ⟨fun v w => by kernel_rfl⟩
instance : ZvT Tryd.prog 47 (.slice none 0 0) := ⟨fun w => Tryd.zeroValue47 w⟩
instance : SlT Tryd.prog 47 5 1 1 (.int .u8 0) := ⟨by kernel_rfl, by kernel_rfl, rfl, by decide, by decide⟩
instance : TyT Tryd.prog 48 2 true := ⟨fun w => Tryd.isAgg48 w, fun w => Tryd.sizeOf48 w⟩
instance : MkI Tryd.prog 48 := ⟨fun v w => by kernel_rfl⟩
instance : ZvT Tryd.prog 48 (.agg #[.pointer none, .slice none 0 0]) := ⟨fun w => Tryd.zeroValue48 w⟩
instance : FdT Tryd.prog 48 0 0 46 := ⟨fun a w => by kernel_rfl, fun cs w => by kernel_rfl⟩
instance : FdT Tryd.prog 48 1 1 47 := ⟨fun a w => by kernel_rfl, fun cs w => by kernel_rfl⟩
instance : BldT Tryd.prog 48 [(0, 1), (1, 1)] [.pointer none, .slice none 0 0] := ⟨fun parts => by kernel_rfl⟩
instance : TyT Tryd.prog 49 2 true := ⟨fun w => Tryd.isAgg49 w, fun w => Tryd.sizeOf49 w⟩
instance : MkI Tryd.prog 49 := ⟨fun v w => by kernel_rfl⟩
instance : ZvT Tryd.prog 49 (.agg #[.pointer none, .slice none 0 0]) := ⟨fun w => Tryd.zeroValue49 w⟩
instance : FdT Tryd.prog 49 0 0 46 := ⟨fun a w => by kernel_rfl, fun cs w => by kernel_rfl⟩
instance : FdT Tryd.prog 49 1 1 47 := ⟨fun a w => by kernel_rfl, fun cs w => by kernel_rfl⟩
instance : BldT Tryd.prog 49 [(0, 1), (1, 1)] [.pointer none, .slice none 0 0] := ⟨fun parts => by kernel_rfl⟩
instance : TyT Tryd.prog 53 1 false := ⟨fun w => Tryd.isAgg53 w, fun w => Tryd.sizeOf53 w⟩
instance : MkI Tryd.prog 53 := ⟨fun v w => by kernel_rfl⟩
instance : IntT Tryd.prog 53 .u64 := ⟨Tryd.underlying53⟩
instance : ZvT Tryd.prog 53 (.int .u64 0) := ⟨fun w => Tryd.zeroValue53 w⟩
instance : TyT Tryd.prog 56 1 false := ⟨fun w => Tryd.isAgg56 w, fun w => Tryd.sizeOf56 w⟩
instance : MkI Tryd.prog 56 := ⟨fun v w => by kernel_rfl⟩
instance : ZvT Tryd.prog 56 (.pointer none) := ⟨fun w => Tryd.zeroValue56 w⟩
instance : TyT Tryd.prog 59 1 false := ⟨fun w => Tryd.isAgg59 w, fun w => Tryd.sizeOf59 w⟩
instance : MkI Tryd.prog 59 := ⟨fun v w => by kernel_rfl⟩
instance : IntT Tryd.prog 59 .i64 := ⟨Tryd.underlying59⟩
instance : ZvT Tryd.prog 59 (.int .i64 0) := ⟨fun w => Tryd.zeroValue59 w⟩
instance : TyT Tryd.prog 62 1 false := ⟨fun w => Tryd.isAgg62 w, fun w => Tryd.sizeOf62 w⟩
instance : MkI Tryd.prog 62 := ⟨fun v w => by kernel_rfl⟩
instance : ZvT Tryd.prog 62 (.pointer none) := ⟨fun w => Tryd.zeroValue62 w⟩
instance : TyT Tryd.prog 65 24 true := ⟨fun w => Tryd.isAgg65 w, fun w => Tryd.sizeOf65 w⟩
instance : MkI Tryd.prog 65 := ⟨fun v w => by kernel_rfl⟩
instance : ZvT Tryd.prog 65 (.agg #[.int .u8 0, .int .u8 0, .int .u8 0, .int .u8 0, .int .u8 0, .int .u8 0, .int .u8 0, .int .u8 0, .int .u8 0, .int .u8 0, .int .u8 0, .int .u8 0, .int .u8 0, .int .u8 0, .int .u8 0, .int .u8 0, .int .u8 0, .int .u8 0, .int .u8 0, .int .u8 0, .int .u8 0, .int .u8 0, .int .u8 0, .int .u8 0]) := ⟨fun w => Tryd.zeroValue65 w⟩
instance : ArT Tryd.prog 65 24 5 1 := ⟨Tryd.underlying65, fun w => Tryd.sizeOf5 w⟩
instance : TyT Tryd.prog 66 1 false := ⟨fun w => Tryd.isAgg66 w, fun w => Tryd.sizeOf66 w⟩
instance : MkI Tryd.prog 66 := ⟨fun v w => by kernel_rfl⟩
instance : IntT Tryd.prog 66 .u64 := ⟨Tryd.underlying66⟩
instance : ZvT Tryd.prog 66 (.int .u64 0) := ⟨fun w => Tryd.zeroValue66 w⟩
instance : TyT Tryd.prog 71 1 false := ⟨fun w => Tryd.isAgg71 w, fun w => Tryd.sizeOf71 w⟩
instance : MkI Tryd.prog 71 := ⟨fun v w => by kernel_rfl⟩
instance : ZvT Tryd.prog 71 (.pointer none) := ⟨fun w => Tryd.zeroValue71 w⟩
instance : TyT Tryd.prog 79 3 true := ⟨fun w => Tryd.isAgg79 w, fun w => Tryd.sizeOf79 w⟩
instance : MkI Tryd.prog 79 := ⟨fun v w => by kernel_rfl⟩
instance : ZvT Tryd.prog 79 (.agg #[.string ⟨#[]⟩, .string ⟨#[]⟩, .nilIface]) := ⟨fun w => Tryd.zeroValue79 w⟩
instance : FdT Tryd.prog 79 0 0 9 := ⟨fun a w => by kernel_rfl, fun cs w => by kernel_rfl⟩
instance : FdT Tryd.prog 79 1 1 9 := ⟨fun a w => by kernel_rfl, fun cs w => by kernel_rfl⟩
instance : FdT Tryd.prog 79 2 2 25 := ⟨fun a w => by kernel_rfl, fun cs w => by kernel_rfl⟩
instance : BldT Tryd.prog 79 [(0, 1), (1, 1), (2, 1)] [.string ⟨#[]⟩, .string ⟨#[]⟩, .nilIface] := ⟨fun parts => by kernel_rfl⟩
instance : TyT Tryd.prog 80 3 true := ⟨fun w => Tryd.isAgg80 w, fun w => Tryd.sizeOf80 w⟩
instance : MkI Tryd.prog 80 := ⟨fun v w => by kernel_rfl⟩
instance : ZvT Tryd.prog 80 (.agg #[.string ⟨#[]⟩, .string ⟨#[]⟩, .nilIface]) := ⟨fun w => Tryd.zeroValue80 w⟩
instance : FdT Tryd.prog 80 0 0 9 := ⟨fun a w => by kernel_rfl, fun cs w => by kernel_rfl⟩
instance : FdT Tryd.prog 80 1 1 9 := ⟨fun a w => by kernel_rfl, fun cs w => by kernel_rfl⟩
instance : FdT Tryd.prog 80 2 2 25 := ⟨fun a w => by kernel_rfl, fun cs w => by kernel_rfl⟩
instance : BldT Tryd.prog 80 [(0, 1), (1, 1), (2, 1)] [.string ⟨#[]⟩, .string ⟨#[]⟩, .nilIface] := ⟨fun parts => by kernel_rfl⟩
instance : TyT Tryd.prog 83 20 true := ⟨fun w => Tryd.isAgg83 w, fun w => Tryd.sizeOf83 w⟩
instance : MkI Tryd.prog 83 := ⟨fun v w => by kernel_rfl⟩
instance : ZvT Tryd.prog 83 (.agg #[.int .u64 0, .int .u64 0, .int .u64 0, .int .u64 0, .int .u64 0, .int .u64 0, .int .u64 0, .int .u64 0, .int .u64 0, .int .u64 0, .int .u64 0, .int .u64 0, .int .u64 0, .int .u64 0, .int .u64 0, .int .u64 0, .int .u64 0, .int .u64 0, .int .u64 0, .int .u64 0]) := ⟨fun w => Tryd.zeroValue83 w⟩
instance : ArT Tryd.prog 83 20 66 1 := ⟨Tryd.underlying83, fun w => Tryd.sizeOf66 w⟩
instance : TyT Tryd.prog 84 1 false := ⟨fun w => Tryd.isAgg84 w, fun w => Tryd.sizeOf84 w⟩
instance : MkI Tryd.prog 84 := ⟨fun v w => by kernel_rfl⟩
instance : IntT Tryd.prog 84 .u32 := ⟨Tryd.underlying84⟩
instance : ZvT Tryd.prog 84 (.int .u32 0) := ⟨fun w => Tryd.zeroValue84 w⟩
instance : TyT Tryd.prog 85 65 true := ⟨fun w => Tryd.isAgg85 w, fun w => Tryd.sizeOf85 w⟩
instance : MkI Tryd.prog 85 := ⟨fun v w => by kernel_rfl⟩
instance : ArT Tryd.prog 85 65 5 1 := ⟨Tryd.underlying85, fun w => Tryd.sizeOf5 w⟩
instance : TyT Tryd.prog 94 1 false := ⟨fun w => Tryd.isAgg94 w, fun w => Tryd.sizeOf94 w⟩
instance : MkI Tryd.prog 94 := ⟨fun v w => by kernel_rfl⟩
instance : ZvT Tryd.prog 94 (.pointer none) := ⟨fun w => Tryd.zeroValue94 w⟩
instance : TyT Tryd.prog 95 1 true := ⟨fun w => Tryd.isAgg95 w, fun w => Tryd.sizeOf95 w⟩
instance : MkI Tryd.prog 95 := ⟨fun v w => by kernel_rfl⟩
instance : ZvT Tryd.prog 95 (.agg #[.string ⟨#[]⟩]) := ⟨fun w => Tryd.zeroValue95 w⟩
instance : FdT Tryd.prog 95 0 0 9 := ⟨fun a w => by kernel_rfl, fun cs w => by kernel_rfl⟩
instance : BldT Tryd.prog 95 [(0, 1)] [.string ⟨#[]⟩] := ⟨fun parts => by kernel_rfl⟩
instance : TyT Tryd.prog 96 1 true := ⟨fun w => Tryd.isAgg96 w, fun w => Tryd.sizeOf96 w⟩
instance : MkI Tryd.prog 96 := ⟨fun v w => by kernel_rfl⟩
instance : ZvT Tryd.prog 96 (.agg #[.string ⟨#[]⟩]) := ⟨fun w => Tryd.zeroValue96 w⟩
instance : FdT Tryd.prog 96 0 0 9 := ⟨fun a w => by kernel_rfl, fun cs w => by kernel_rfl⟩
instance : BldT Tryd.prog 96 [(0, 1)] [.string ⟨#[]⟩] := ⟨fun parts => by kernel_rfl⟩
instance : TyT Tryd.prog 98 32 true := ⟨fun w => Tryd.isAgg98 w, fun w => Tryd.sizeOf98 w⟩
instance : MkI Tryd.prog 98 := ⟨fun v w => by kernel_rfl⟩
instance : ZvT Tryd.prog 98 (.agg #[.int .u8 0, .int .u8 0, .int .u8 0, .int .u8 0, .int .u8 0, .int .u8 0, .int .u8 0, .int .u8 0, .int .u8 0, .int .u8 0, .int .u8 0, .int .u8 0, .int .u8 0, .int .u8 0, .int .u8 0, .int .u8 0, .int .u8 0, .int .u8 0, .int .u8 0, .int .u8 0, .int .u8 0, .int .u8 0, .int .u8 0, .int .u8 0, .int .u8 0, .int .u8 0, .int .u8 0, .int .u8 0, .int .u8 0, .int .u8 0, .int .u8 0, .int .u8 0]) := ⟨fun w => Tryd.zeroValue98 w⟩
instance : ArT Tryd.prog 98 32 5 1 := ⟨Tryd.underlying98, fun w => Tryd.sizeOf5 w⟩
instance : TyT Tryd.prog 99 64 true := ⟨fun w => Tryd.isAgg99 w, fun w => Tryd.sizeOf99 w⟩
instance : MkI Tryd.prog 99 := ⟨fun v w => by kernel_rfl⟩
instance : ZvT Tryd.prog 99 (.agg #[.int .u8 0, .int .u8 0, .int .u8 0, .int .u8 0, .int .u8 0, .int .u8 0, .int .u8 0, .int .u8 0, .int .u8 0, .int .u8 0, .int .u8 0, .int .u8 0, .int .u8 0, .int .u8 0, .int .u8 0, .int .u8 0, .int .u8 0, .int .u8 0, .int .u8 0, .int .u8 0, .int .u8 0, .int .u8 0, .int .u8 0, .int .u8 0, .int .u8 0, .int .u8 0, .int .u8 0, .int .u8 0, .int .u8 0, .int .u8 0, .int .u8 0, .int .u8 0, .int .u8 0, .int .u8 0, .int .u8 0, .int .u8 0, .int .u8 0, .int .u8 0, .int .u8 0, .int .u8 0, .int .u8 0, .int .u8 0, .int .u8 0, .int .u8 0, .int .u8 0, .int .u8 0, .int .u8 0, .int .u8 0, .int .u8 0, .int .u8 0, .int .u8 0, .int .u8 0, .int .u8 0, .int .u8 0, .int .u8 0, .int .u8 0, .int .u8 0, .int .u8 0, .int .u8 0, .int .u8 0, .int .u8 0, .int .u8 0, .int .u8 0, .int .u8 0]) := ⟨fun w => Tryd.zeroValue99 w⟩
instance : ArT Tryd.prog 99 64 5 1 := ⟨Tryd.underlying99, fun w => Tryd.sizeOf5 w⟩
instance : TyT Tryd.prog 100 256 true := ⟨fun w => Tryd.isAgg100 w, fun w => Tryd.sizeOf100 w⟩
instance : MkI Tryd.prog 100 := ⟨fun v w => by kernel_rfl⟩
instance : ArT Tryd.prog 100 256 5 1 := ⟨Tryd.underlying100, fun w => Tryd.sizeOf5 w⟩
instance : TyT Tryd.prog 101 2 true := ⟨fun w => Tryd.isAgg101 w, fun w => Tryd.sizeOf101 w⟩
instance : MkI Tryd.prog 101 := ⟨fun v w => by kernel_rfl⟩
instance : ZvT Tryd.prog 101 (.agg #[.int .u8 0, .int .u8 0]) := ⟨fun w => Tryd.zeroValue101 w⟩
instance : FdT Tryd.prog 101 0 0 5 := ⟨fun a w => by kernel_rfl, fun cs w => by kernel_rfl⟩
instance : FdT Tryd.prog 101 1 1 5 := ⟨fun a w => by kernel_rfl, fun cs w => by kernel_rfl⟩
instance : BldT Tryd.prog 101 [(0, 1), (1, 1)] [.int .u8 0, .int .u8 0] := ⟨fun parts => by kernel_rfl⟩
instance : TyT Tryd.prog 102 2 true := ⟨fun w => Tryd.isAgg102 w, fun w => Tryd.sizeOf102 w⟩
instance : MkI Tryd.prog 102 := ⟨fun v w => by kernel_rfl⟩
instance : ZvT Tryd.prog 102 (.agg #[.int .u8 0, .int .u8 0]) := ⟨fun w => Tryd.zeroValue102 w⟩
instance : FdT Tryd.prog 102 0 0 5 := ⟨fun a w => by kernel_rfl, fun cs w => by kernel_rfl⟩
instance : FdT Tryd.prog 102 1 1 5 := ⟨fun a w => by kernel_rfl, fun cs w => by kernel_rfl⟩
instance : BldT Tryd.prog 102 [(0, 1), (1, 1)] [.int .u8 0, .int .u8 0] := ⟨fun parts => by kernel_rfl⟩
instance : TyT Tryd.prog 103 32 true := ⟨fun w => Tryd.isAgg103 w, fun w => Tryd.sizeOf103 w⟩
instance : MkI Tryd.prog 103 := ⟨fun v w => by kernel_rfl⟩
instance : ZvT Tryd.prog 103 (.agg #[.int .u8 0, .int .u8 0, .int .u8 0, .int .u8 0, .int .u8 0, .int .u8 0, .int .u8 0, .int .u8 0, .int .u8 0, .int .u8 0, .int .u8 0, .int .u8 0, .int .u8 0, .int .u8 0, .int .u8 0, .int .u8 0, .int .u8 0, .int .u8 0, .int .u8 0, .int .u8 0, .int .u8 0, .int .u8 0, .int .u8 0, .int .u8 0, .int .u8 0, .int .u8 0, .int .u8 0, .int .u8 0, .int .u8 0, .int .u8 0, .int .u8 0, .int .u8 0]) := ⟨fun w => Tryd.zeroValue103 w⟩
instance : ArT Tryd.prog 103 16 102 2 := ⟨Tryd.underlying103, fun w => Tryd.sizeOf102 w⟩
instance : TyT Tryd.prog 104 4 true := ⟨fun w => Tryd.isAgg104 w, fun w => Tryd.sizeOf104 w⟩
instance : MkI Tryd.prog 104 := ⟨fun v w => by kernel_rfl⟩
instance : ZvT Tryd.prog 104 (.agg #[.pointer none, .pointer none, .pointer none, .string ⟨#[]⟩]) := ⟨fun w => Tryd.zeroValue104 w⟩
instance : FdT Tryd.prog 104 0 0 17 := ⟨fun a w => by kernel_rfl, fun cs w => by kernel_rfl⟩
instance : FdT Tryd.prog 104 1 1 17 := ⟨fun a w => by kernel_rfl, fun cs w => by kernel_rfl⟩
instance : FdT Tryd.prog 104 2 2 17 := ⟨fun a w => by kernel_rfl, fun cs w => by kernel_rfl⟩
instance : FdT Tryd.prog 104 3 3 9 := ⟨fun a w => by kernel_rfl, fun cs w => by kernel_rfl⟩
instance : BldT Tryd.prog 104 [(0, 1), (1, 1), (2, 1), (3, 1)] [.pointer none, .pointer none, .pointer none, .string ⟨#[]⟩] := ⟨fun parts => by kernel_rfl⟩
instance : TyT Tryd.prog 105 4 true := ⟨fun w => Tryd.isAgg105 w, fun w => Tryd.sizeOf105 w⟩
instance : MkI Tryd.prog 105 := ⟨fun v w => by kernel_rfl⟩
instance : ZvT Tryd.prog 105 (.agg #[.pointer none, .pointer none, .pointer none, .string ⟨#[]⟩]) := ⟨fun w => Tryd.zeroValue105 w⟩
instance : FdT Tryd.prog 105 0 0 17 := ⟨fun a w => by kernel_rfl, fun cs w => by kernel_rfl⟩
instance : FdT Tryd.prog 105 1 1 17 := ⟨fun a w => by kernel_rfl, fun cs w => by kernel_rfl⟩
instance : FdT Tryd.prog 105 2 2 17 := ⟨fun a w => by kernel_rfl, fun cs w => by kernel_rfl⟩
instance : FdT Tryd.prog 105 3 3 9 := ⟨fun a w => by kernel_rfl, fun cs w => by kernel_rfl⟩
instance : BldT Tryd.prog 105 [(0, 1), (1, 1), (2, 1), (3, 1)] [.pointer none, .pointer none, .pointer none, .string ⟨#[]⟩] := ⟨fun parts => by kernel_rfl⟩
instance : TyT Tryd.prog 106 0 true := ⟨fun w => Tryd.isAgg106 w, fun w => Tryd.sizeOf106 w⟩
instance : MkI Tryd.prog 106 := ⟨fun v w => by kernel_rfl⟩
instance : ZvT Tryd.prog 106 (.agg #[]) := ⟨fun w => Tryd.zeroValue106 w⟩
instance : ArT Tryd.prog 106 0 16 1 := ⟨Tryd.underlying106, fun w => Tryd.sizeOf16 w⟩
instance : TyT Tryd.prog 107 0 true := ⟨fun w => Tryd.isAgg107 w, fun w => Tryd.sizeOf107 w⟩
instance : MkI Tryd.prog 107 := ⟨fun v w => by kernel_rfl⟩
instance : ZvT Tryd.prog 107 (.agg #[]) := ⟨fun w => Tryd.zeroValue107 w⟩
instance : BldT Tryd.prog 107 [(0, 0)] [] := ⟨fun parts => by kernel_rfl⟩
instance : TyT Tryd.prog 108 0 true := ⟨fun w => Tryd.isAgg108 w, fun w => Tryd.sizeOf108 w⟩
instance : MkI Tryd.prog 108 := ⟨fun v w => by kernel_rfl⟩
instance : ZvT Tryd.prog 108 (.agg #[]) := ⟨fun w => Tryd.zeroValue108 w⟩
instance : BldT Tryd.prog 108 [(0, 0)] [] := ⟨fun parts => by kernel_rfl⟩
instance : TyT Tryd.prog 110 1 false := ⟨fun w => Tryd.isAgg110 w, fun w => Tryd.sizeOf110 w⟩
instance : MkI Tryd.prog 110 := ⟨fun v w => by kernel_rfl⟩
instance : IntT Tryd.prog 110 .u8 := ⟨Tryd.underlying110⟩
instance : ZvT Tryd.prog 110 (.int .u8 0) := ⟨fun w => Tryd.zeroValue110 w⟩
instance : TyT Tryd.prog 111 1 false := ⟨fun w => Tryd.isAgg111 w, fun w => Tryd.sizeOf111 w⟩
instance : MkI Tryd.prog 111 := ⟨fun v w => by kernel_rfl⟩
instance : IntT Tryd.prog 111 .u8 := ⟨Tryd.underlying111⟩
instance : ZvT Tryd.prog 111 (.int .u8 0) := ⟨fun w => Tryd.zeroValue111 w⟩
instance : TyT Tryd.prog 113 1 false := ⟨fun w => Tryd.isAgg113 w, fun w => Tryd.sizeOf113 w⟩
instance : MkI Tryd.prog 113 := ⟨fun v w => by kernel_rfl⟩
instance : IntT Tryd.prog 113 .i32 := ⟨Tryd.underlying113⟩
instance : ZvT Tryd.prog 113 (.int .i32 0) := ⟨fun w => Tryd.zeroValue113 w⟩
instance : TyT Tryd.prog 114 1 false := ⟨fun w => Tryd.isAgg114 w, fun w => Tryd.sizeOf114 w⟩
instance : MkI Tryd.prog 114 := ⟨fun v w => by kernel_rfl⟩
instance : IntT Tryd.prog 114 .i32 := ⟨Tryd.underlying114⟩
instance : ZvT Tryd.prog 114 (.int .i32 0) := ⟨fun w => Tryd.zeroValue114 w⟩
instance : TyT Tryd.prog 115 11 true := ⟨fun w => Tryd.isAgg115 w, fun w => Tryd.sizeOf115 w⟩
instance : MkI Tryd.prog 115 := ⟨fun v w => by kernel_rfl⟩
instance : ZvT Tryd.prog 115 (.agg #[.int .u64 0, .int .u64 0, .int .u32 0, .int .u8 0, .int .u8 0, .int .u8 0, .int .u8 0, .nilFunc, .pointer none, .int .i32 0, .int .i32 0]) := ⟨fun w => Tryd.zeroValue115 w⟩
instance : FdT Tryd.prog 115 0 0 12 := ⟨fun a w => by kernel_rfl, fun cs w => by kernel_rfl⟩
instance : FdT Tryd.prog 115 1 1 12 := ⟨fun a w => by kernel_rfl, fun cs w => by kernel_rfl⟩
instance : FdT Tryd.prog 115 2 2 84 := ⟨fun a w => by kernel_rfl, fun cs w => by kernel_rfl⟩
instance : FdT Tryd.prog 115 3 3 110 := ⟨fun a w => by kernel_rfl, fun cs w => by kernel_rfl⟩
instance : FdT Tryd.prog 115 4 4 5 := ⟨fun a w => by kernel_rfl, fun cs w => by kernel_rfl⟩
instance : FdT Tryd.prog 115 5 5 5 := ⟨fun a w => by kernel_rfl, fun cs w => by kernel_rfl⟩
instance : FdT Tryd.prog 115 6 6 111 := ⟨fun a w => by kernel_rfl, fun cs w => by kernel_rfl⟩
instance : FdT Tryd.prog 115 8 8 56 := ⟨fun a w => by kernel_rfl, fun cs w => by kernel_rfl⟩
instance : FdT Tryd.prog 115 9 9 113 := ⟨fun a w => by kernel_rfl, fun cs w => by kernel_rfl⟩
instance : FdT Tryd.prog 115 10 10 114 := ⟨fun a w => by kernel_rfl, fun cs w => by kernel_rfl⟩
instance : TyT Tryd.prog 116 11 true := ⟨fun w => Tryd.isAgg116 w, fun w => Tryd.sizeOf116 w⟩
instance : MkI Tryd.prog 116 := ⟨fun v w => by kernel_rfl⟩
instance : ZvT Tryd.prog 116 (.agg #[.int .u64 0, .int .u64 0, .int .u32 0, .int .u8 0, .int .u8 0, .int .u8 0, .int .u8 0, .nilFunc, .pointer none, .int .i32 0, .int .i32 0]) := ⟨fun w => Tryd.zeroValue116 w⟩
instance : FdT Tryd.prog 116 0 0 12 := ⟨fun a w => by kernel_rfl, fun cs w => by kernel_rfl⟩
instance : FdT Tryd.prog 116 1 1 12 := ⟨fun a w => by kernel_rfl, fun cs w => by kernel_rfl⟩
instance : FdT Tryd.prog 116 2 2 84 := ⟨fun a w => by kernel_rfl, fun cs w => by kernel_rfl⟩
instance : FdT Tryd.prog 116 3 3 110 := ⟨fun a w => by kernel_rfl, fun cs w => by kernel_rfl⟩
instance : FdT Tryd.prog 116 4 4 5 := ⟨fun a w => by kernel_rfl, fun cs w => by kernel_rfl⟩
instance : FdT Tryd.prog 116 5 5 5 := ⟨fun a w => by kernel_rfl, fun cs w => by kernel_rfl⟩
instance : FdT Tryd.prog 116 6 6 111 := ⟨fun a w => by kernel_rfl, fun cs w => by kernel_rfl⟩
instance : FdT Tryd.prog 116 8 8 56 := ⟨fun a w => by kernel_rfl, fun cs w => by kernel_rfl⟩
instance : FdT Tryd.prog 116 9 9 113 := ⟨fun a w => by kernel_rfl, fun cs w => by kernel_rfl⟩
instance : FdT Tryd.prog 116 10 10 114 := ⟨fun a w => by kernel_rfl, fun cs w => by kernel_rfl⟩
/- Functions with a body. -/
instance : CalT Tryd.prog 2 := ⟨fun args w => Tryd.call2 args w⟩
instance : CalT Tryd.prog 3 := ⟨fun args w => Tryd.call3 args w⟩
instance : CalT Tryd.prog 4 := ⟨fun args w => Tryd.call4 args w⟩
instance : CalT Tryd.prog 5 := ⟨fun args w => Tryd.call5 args w⟩
instance : CalT Tryd.prog 6 := ⟨fun args w => Tryd.call6 args w⟩
instance : CalT Tryd.prog 7 := ⟨fun args w => Tryd.call7 args w⟩
instance : CalT Tryd.prog 8 := ⟨fun args w => Tryd.call8 args w⟩
instance : CalT Tryd.prog 9 := ⟨fun args w => Tryd.call9 args w⟩
instance : CalT Tryd.prog 10 := ⟨fun args w => Tryd.call10 args w⟩
instance : CalT Tryd.prog 11 := ⟨fun args w => Tryd.call11 args w⟩
instance : CalT Tryd.prog 12 := ⟨fun args w => Tryd.call12 args w⟩
instance : CalT Tryd.prog 13 := ⟨fun args w => Tryd.call13 args w⟩
instance : CalT Tryd.prog 14 := ⟨fun args w => Tryd.call14 args w⟩
instance : CalT Tryd.prog 15 := ⟨fun args w => Tryd.call15 args w⟩
instance : CalT Tryd.prog 16 := ⟨fun args w => Tryd.call16 args w⟩
instance : CalT Tryd.prog 17 := ⟨fun args w => Tryd.call17 args w⟩
instance : CalT Tryd.prog 18 := ⟨fun args w => Tryd.call18 args w⟩
instance : CalT Tryd.prog 19 := ⟨fun args w => Tryd.call19 args w⟩
instance : CalT Tryd.prog 20 := ⟨fun args w => Tryd.call20 args w⟩
instance : CalT Tryd.prog 21 := ⟨fun args w => Tryd.call21 args w⟩
instance : CalT Tryd.prog 22 := ⟨fun args w => Tryd.call22 args w⟩
instance : CalT Tryd.prog 23 := ⟨fun args w => Tryd.call23 args w⟩
instance : CalT Tryd.prog 24 := ⟨fun args w => Tryd.call24 args w⟩
instance : CalT Tryd.prog 25 := ⟨fun args w => Tryd.call25 args w⟩
instance : CalT Tryd.prog 26 := ⟨fun args w => Tryd.call26 args w⟩
instance : CalT Tryd.prog 27 := ⟨fun args w => Tryd.call27 args w⟩
instance : CalT Tryd.prog 28 := ⟨fun args w => Tryd.call28 args w⟩
instance : CalT Tryd.prog 29 := ⟨fun args w => Tryd.call29 args w⟩
instance : CalT Tryd.prog 30 := ⟨fun args w => Tryd.call30 args w⟩
instance : CalT Tryd.prog 31 := ⟨fun args w => Tryd.call31 args w⟩
instance : CalT Tryd.prog 32 := ⟨fun args w => Tryd.call32 args w⟩
instance : CalT Tryd.prog 33 := ⟨fun args w => Tryd.call33 args w⟩
instance : CalT Tryd.prog 34 := ⟨fun args w => Tryd.call34 args w⟩
instance : CalT Tryd.prog 35 := ⟨fun args w => Tryd.call35 args w⟩
instance : CalT Tryd.prog 36 := ⟨fun args w => Tryd.call36 args w⟩
instance : CalT Tryd.prog 37 := ⟨fun args w => Tryd.call37 args w⟩
instance : CalT Tryd.prog 38 := ⟨fun args w => Tryd.call38 args w⟩
instance : CalT Tryd.prog 41 := ⟨fun args w => Tryd.call41 args w⟩
instance : CalT Tryd.prog 43 := ⟨fun args w => Tryd.call43 args w⟩
instance : CalT Tryd.prog 44 := ⟨fun args w => Tryd.call44 args w⟩
instance : CalT Tryd.prog 45 := ⟨fun args w => Tryd.call45 args w⟩
instance : CalT Tryd.prog 46 := ⟨fun args w => Tryd.call46 args w⟩
instance : CalT Tryd.prog 47 := ⟨fun args w => Tryd.call47 args w⟩
instance : CalT Tryd.prog 48 := ⟨fun args w => Tryd.call48 args w⟩
instance : CalT Tryd.prog 49 := ⟨fun args w => Tryd.call49 args w⟩
instance : CalT Tryd.prog 50 := ⟨fun args w => Tryd.call50 args w⟩
instance : CalT Tryd.prog 51 := ⟨fun args w => Tryd.call51 args w⟩
instance : CalT Tryd.prog 52 := ⟨fun args w => Tryd.call52 args w⟩
instance : CalT Tryd.prog 53 := ⟨fun args w => Tryd.call53 args w⟩
instance : CalT Tryd.prog 54 := ⟨fun args w => Tryd.call54 args w⟩
instance : CalT Tryd.prog 55 := ⟨fun args w => Tryd.call55 args w⟩
instance : CalT Tryd.prog 57 := ⟨fun args w => Tryd.call57 args w⟩
instance : CalT Tryd.prog 58 := ⟨fun args w => Tryd.call58 args w⟩
instance : CalT Tryd.prog 59 := ⟨fun args w => Tryd.call59 args w⟩
instance : CalT Tryd.prog 61 := ⟨fun args w => Tryd.call61 args w⟩
instance : CalT Tryd.prog 62 := ⟨fun args w => Tryd.call62 args w⟩
instance : CalT Tryd.prog 63 := ⟨fun args w => Tryd.call63 args w⟩
instance : CalT Tryd.prog 64 := ⟨fun args w => Tryd.call64 args w⟩
instance : CalT Tryd.prog 65 := ⟨fun args w => Tryd.call65 args w⟩
instance : CalT Tryd.prog 96 := ⟨fun args w => Tryd.call96 args w⟩
end Go.Proofs.YtgcflhgbojmbjaaDoor
