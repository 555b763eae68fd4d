/- The seat's types and functions, as instances. Printed by wip/tools/types.py. -/
import Derived.Test.YtlmhhnodhgmmdaaDoorSxMore
import Derived.Test.YtlmhhnodhgmmdaaDoorProg
import Derived.KernelRfl
namespace Go.Proofs.YtlmhhnodhgmmdaaDoor
open Go.Port
instance : TyT Tryd.prog 2 1 false := ⟨fun w => Tryd.isAgg2 w, fun w => Tryd.sizeOf2 w⟩
instance : MkI Tryd.prog 2 := ⟨fun v w => by kernel_rfl⟩
instance : IntT Tryd.prog 2 .i64 := ⟨Tryd.underlying2⟩
instance : ZvT Tryd.prog 2 (.int .i64 0) := ⟨fun w => Tryd.zeroValue2 w⟩
instance : TyT Tryd.prog 3 1 false := ⟨fun w => Tryd.isAgg3 w, fun w => Tryd.sizeOf3 w⟩
instance : MkI Tryd.prog 3 := ⟨fun v w => by kernel_rfl⟩
instance : IntT Tryd.prog 3 .i64 := ⟨Tryd.underlying3⟩
instance : ZvT Tryd.prog 3 (.int .i64 0) := ⟨fun w => Tryd.zeroValue3 w⟩
instance : TyT Tryd.prog 4 1 false := ⟨fun w => Tryd.isAgg4 w, fun w => Tryd.sizeOf4 w⟩
instance : MkI Tryd.prog 4 := ⟨fun v w => by kernel_rfl⟩
instance : ZvT Tryd.prog 4 (.bool false) := ⟨fun w => Tryd.zeroValue4 w⟩
instance : TyT Tryd.prog 5 1 false := ⟨fun w => Tryd.isAgg5 w, fun w => Tryd.sizeOf5 w⟩
instance : MkI Tryd.prog 5 := ⟨fun v w => by kernel_rfl⟩
instance : IntT Tryd.prog 5 .u8 := ⟨Tryd.underlying5⟩
instance : ZvT Tryd.prog 5 (.int .u8 0) := ⟨fun w => Tryd.zeroValue5 w⟩
instance : TyT Tryd.prog 6 1 false := ⟨fun w => Tryd.isAgg6 w, fun w => Tryd.sizeOf6 w⟩
instance : MkI Tryd.prog 6 := ⟨fun v w => by kernel_rfl⟩
instance : IntT Tryd.prog 6 .u8 := ⟨Tryd.underlying6⟩
instance : ZvT Tryd.prog 6 (.int .u8 0) := ⟨fun w => Tryd.zeroValue6 w⟩
instance : TyT Tryd.prog 7 4 true := ⟨fun w => Tryd.isAgg7 w, fun w => Tryd.sizeOf7 w⟩
instance : MkI Tryd.prog 7 := ⟨fun v w => by kernel_rfl⟩
instance : ZvT Tryd.prog 7 (.agg #[.int .i64 0, .int .i64 0, .bool false, .int .u8 0]) := ⟨fun w => Tryd.zeroValue7 w⟩
instance : FdT Tryd.prog 7 0 0 2 := ⟨fun a w => by kernel_rfl, fun cs w => by kernel_rfl⟩
instance : FdT Tryd.prog 7 1 1 3 := ⟨fun a w => by kernel_rfl, fun cs w => by kernel_rfl⟩
instance : FdT Tryd.prog 7 2 2 4 := ⟨fun a w => by kernel_rfl, fun cs w => by kernel_rfl⟩
instance : FdT Tryd.prog 7 3 3 6 := ⟨fun a w => by kernel_rfl, fun cs w => by kernel_rfl⟩
instance : BldT Tryd.prog 7 [(0, 1), (1, 1), (2, 1), (3, 1)] [.int .i64 0, .int .i64 0, .bool false, .int .u8 0] := ⟨fun parts => by kernel_rfl⟩
instance : TyT Tryd.prog 8 4 true := ⟨fun w => Tryd.isAgg8 w, fun w => Tryd.sizeOf8 w⟩
instance : MkI Tryd.prog 8 := ⟨fun v w => by kernel_rfl⟩
instance : ZvT Tryd.prog 8 (.agg #[.int .i64 0, .int .i64 0, .bool false, .int .u8 0]) := ⟨fun w => Tryd.zeroValue8 w⟩
instance : FdT Tryd.prog 8 0 0 2 := ⟨fun a w => by kernel_rfl, fun cs w => by kernel_rfl⟩
instance : FdT Tryd.prog 8 1 1 3 := ⟨fun a w => by kernel_rfl, fun cs w => by kernel_rfl⟩
instance : FdT Tryd.prog 8 2 2 4 := ⟨fun a w => by kernel_rfl, fun cs w => by kernel_rfl⟩
instance : FdT Tryd.prog 8 3 3 6 := ⟨fun a w => by kernel_rfl, fun cs w => by kernel_rfl⟩
instance : BldT Tryd.prog 8 [(0, 1), (1, 1), (2, 1), (3, 1)] [.int .i64 0, .int .i64 0, .bool false, .int .u8 0] := ⟨fun parts => by kernel_rfl⟩
instance : TyT Tryd.prog 9 1 false := ⟨fun w => Tryd.isAgg9 w, fun w => Tryd.sizeOf9 w⟩
instance : MkI Tryd.prog 9 := ⟨fun v w => by kernel_rfl⟩
instance : StrT Tryd.prog 9 := ⟨Tryd.underlying9⟩
instance : ZvT Tryd.prog 9 (.string ⟨#[]⟩) := ⟨fun w => Tryd.zeroValue9 w⟩
instance : TyT Tryd.prog 10 1 false := ⟨fun w => Tryd.isAgg10 w, fun w => Tryd.sizeOf10 w⟩
instance : MkI Tryd.prog 10 := ⟨fun v w => by kernel_rfl⟩
instance : StrT Tryd.prog 10 := ⟨Tryd.underlying10⟩
instance : ZvT Tryd.prog 10 (.string ⟨#[]⟩) := ⟨fun w => Tryd.zeroValue10 w⟩
instance : TyT Tryd.prog 11 1 false := ⟨fun w => Tryd.isAgg11 w, fun w => Tryd.sizeOf11 w⟩
instance : MkI Tryd.prog 11 := ⟨fun v w => by kernel_rfl⟩
instance : StrT Tryd.prog 11 := ⟨Tryd.underlying11⟩
instance : ZvT Tryd.prog 11 (.string ⟨#[]⟩) := ⟨fun w => Tryd.zeroValue11 w⟩
instance : TyT Tryd.prog 12 1 false := ⟨fun w => Tryd.isAgg12 w, fun w => Tryd.sizeOf12 w⟩
instance : MkI Tryd.prog 12 := ⟨fun v w => by kernel_rfl⟩
instance : IntT Tryd.prog 12 .u64 := ⟨Tryd.underlying12⟩
instance : ZvT Tryd.prog 12 (.int .u64 0) := ⟨fun w => Tryd.zeroValue12 w⟩
instance : TyT Tryd.prog 13 2 true := ⟨fun w => Tryd.isAgg13 w, fun w => Tryd.sizeOf13 w⟩
instance : MkI Tryd.prog 13 := ⟨fun v w => by kernel_rfl⟩
instance : ZvT Tryd.prog 13 (.agg #[.string ⟨#[]⟩, .int .u64 0]) := ⟨fun w => Tryd.zeroValue13 w⟩
instance : FdT Tryd.prog 13 0 0 9 := ⟨fun a w => by kernel_rfl, fun cs w => by kernel_rfl⟩
instance : FdT Tryd.prog 13 1 1 12 := ⟨fun a w => by kernel_rfl, fun cs w => by kernel_rfl⟩
instance : BldT Tryd.prog 13 [(0, 1), (1, 1)] [.string ⟨#[]⟩, .int .u64 0] := ⟨fun parts => by kernel_rfl⟩
instance : TyT Tryd.prog 14 2 true := ⟨fun w => Tryd.isAgg14 w, fun w => Tryd.sizeOf14 w⟩
instance : MkI Tryd.prog 14 := ⟨fun v w => by kernel_rfl⟩
instance : ZvT Tryd.prog 14 (.agg #[.string ⟨#[]⟩, .int .u64 0]) := ⟨fun w => Tryd.zeroValue14 w⟩
instance : FdT Tryd.prog 14 0 0 9 := ⟨fun a w => by kernel_rfl, fun cs w => by kernel_rfl⟩
instance : FdT Tryd.prog 14 1 1 12 := ⟨fun a w => by kernel_rfl, fun cs w => by kernel_rfl⟩
instance : BldT Tryd.prog 14 [(0, 1), (1, 1)] [.string ⟨#[]⟩, .int .u64 0] := ⟨fun parts => by kernel_rfl⟩
instance : TyT Tryd.prog 15 1 false := ⟨fun w => Tryd.isAgg15 w, fun w => Tryd.sizeOf15 w⟩
instance : MkI Tryd.prog 15 := ⟨fun v w => by kernel_rfl⟩
instance : ZvT Tryd.prog 15 (.pointer none) := ⟨fun w => Tryd.zeroValue15 w⟩
instance : TyT Tryd.prog 16 1 false := ⟨fun w => Tryd.isAgg16 w, fun w => Tryd.sizeOf16 w⟩
instance : MkI Tryd.prog 16 := ⟨fun v w => by kernel_rfl⟩
instance : ZvT Tryd.prog 16 (.pointer none) := ⟨fun w => Tryd.zeroValue16 w⟩
instance : TyT Tryd.prog 17 1 false := ⟨fun w => Tryd.isAgg17 w, fun w => Tryd.sizeOf17 w⟩
instance : MkI Tryd.prog 17 := ⟨fun v w => by kernel_rfl⟩
instance : ZvT Tryd.prog 17 (.pointer none) := ⟨fun w => Tryd.zeroValue17 w⟩
instance : TyT Tryd.prog 18 1 true := ⟨fun w => Tryd.isAgg18 w, fun w => Tryd.sizeOf18 w⟩
instance : MkI Tryd.prog 18 := ⟨fun v w => by kernel_rfl⟩
instance : ZvT Tryd.prog 18 (.agg #[.pointer none]) := ⟨fun w => Tryd.zeroValue18 w⟩
instance : FdT Tryd.prog 18 0 0 17 := ⟨fun a w => by kernel_rfl, fun cs w => by kernel_rfl⟩
instance : BldT Tryd.prog 18 [(0, 1)] [.pointer none] := ⟨fun parts => by kernel_rfl⟩
instance : TyT Tryd.prog 19 1 true := ⟨fun w => Tryd.isAgg19 w, fun w => Tryd.sizeOf19 w⟩
instance : MkI Tryd.prog 19 := ⟨fun v w => by kernel_rfl⟩
instance : ZvT Tryd.prog 19 (.agg #[.pointer none]) := ⟨fun w => Tryd.zeroValue19 w⟩
instance : FdT Tryd.prog 19 0 0 17 := ⟨fun a w => by kernel_rfl, fun cs w => by kernel_rfl⟩
instance : BldT Tryd.prog 19 [(0, 1)] [.pointer none] := ⟨fun parts => by kernel_rfl⟩
instance : TyT Tryd.prog 20 1 false := ⟨fun w => Tryd.isAgg20 w, fun w => Tryd.sizeOf20 w⟩
instance : IfT Tryd.prog 20 := ⟨⟨_, Tryd.underlying20⟩⟩
instance : ZvT Tryd.prog 20 (.nilIface) := ⟨fun w => Tryd.zeroValue20 w⟩
instance : TyT Tryd.prog 21 1 false := ⟨fun w => Tryd.isAgg21 w, fun w => Tryd.sizeOf21 w⟩
instance : MkI Tryd.prog 21 := ⟨fun v w => by kernel_rfl⟩
instance : IntT Tryd.prog 21 .i32 := ⟨Tryd.underlying21⟩
instance : ZvT Tryd.prog 21 (.int .i32 0) := ⟨fun w => Tryd.zeroValue21 w⟩
instance : TyT Tryd.prog 22 1 false := ⟨fun w => Tryd.isAgg22 w, fun w => Tryd.sizeOf22 w⟩
instance : MkI Tryd.prog 22 := ⟨fun v w => by kernel_rfl⟩
instance : ZvT Tryd.prog 22 (.slice none 0 0) := ⟨fun w => Tryd.zeroValue22 w⟩
instance : SlT Tryd.prog 22 5 1 1 (.int .u8 0) := ⟨by kernel_rfl, by kernel_rfl, rfl, by decide, by decide⟩
instance : TyT Tryd.prog 27 1 false := ⟨fun w => Tryd.isAgg27 w, fun w => Tryd.sizeOf27 w⟩
instance : IfT Tryd.prog 27 := ⟨⟨_, Tryd.underlying27⟩⟩
instance : ZvT Tryd.prog 27 (.nilIface) := ⟨fun w => Tryd.zeroValue27 w⟩
instance : TyT Tryd.prog 28 1 false := ⟨fun w => Tryd.isAgg28 w, fun w => Tryd.sizeOf28 w⟩
instance : IfT Tryd.prog 28 := ⟨⟨_, Tryd.underlying28⟩⟩
instance : ZvT Tryd.prog 28 (.nilIface) := ⟨fun w => Tryd.zeroValue28 w⟩
instance : TyT Tryd.prog 34 8 true := ⟨fun w => Tryd.isAgg34 w, fun w => Tryd.sizeOf34 w⟩
instance : MkI Tryd.prog 34 := ⟨fun v w => by kernel_rfl⟩
instance : ZvT Tryd.prog 34 (.agg #[.int .i64 0, .int .i64 0, .int .i64 0, .int .i64 0, .int .i64 0, .int .i64 0, .bool false, .slice none 0 0]) := ⟨fun w => Tryd.zeroValue34 w⟩
instance : FdT Tryd.prog 34 0 0 3 := ⟨fun a w => by kernel_rfl, fun cs w => by kernel_rfl⟩
instance : FdT Tryd.prog 34 1 1 3 := ⟨fun a w => by kernel_rfl, fun cs w => by kernel_rfl⟩
instance : FdT Tryd.prog 34 2 2 3 := ⟨fun a w => by kernel_rfl, fun cs w => by kernel_rfl⟩
instance : FdT Tryd.prog 34 3 3 3 := ⟨fun a w => by kernel_rfl, fun cs w => by kernel_rfl⟩
instance : FdT Tryd.prog 34 4 4 3 := ⟨fun a w => by kernel_rfl, fun cs w => by kernel_rfl⟩
instance : FdT Tryd.prog 34 5 5 3 := ⟨fun a w => by kernel_rfl, fun cs w => by kernel_rfl⟩
instance : FdT Tryd.prog 34 6 6 4 := ⟨fun a w => by kernel_rfl, fun cs w => by kernel_rfl⟩
instance : FdT Tryd.prog 34 7 7 22 := ⟨fun a w => by kernel_rfl, fun cs w => by kernel_rfl⟩
instance : BldT Tryd.prog 34 [(0, 1), (1, 1), (2, 1), (3, 1), (4, 1), (5, 1), (6, 1), (7, 1)] [.int .i64 0, .int .i64 0, .int .i64 0, .int .i64 0, .int .i64 0, .int .i64 0, .bool false, .slice none 0 0] := ⟨fun parts => by kernel_rfl⟩
instance : TyT Tryd.prog 35 8 true := ⟨fun w => Tryd.isAgg35 w, fun w => Tryd.sizeOf35 w⟩
instance : MkI Tryd.prog 35 := ⟨fun v w => by kernel_rfl⟩
instance : ZvT Tryd.prog 35 (.agg #[.int .i64 0, .int .i64 0, .int .i64 0, .int .i64 0, .int .i64 0, .int .i64 0, .bool false, .slice none 0 0]) := ⟨fun w => Tryd.zeroValue35 w⟩
instance : FdT Tryd.prog 35 0 0 3 := ⟨fun a w => by kernel_rfl, fun cs w => by kernel_rfl⟩
instance : FdT Tryd.prog 35 1 1 3 := ⟨fun a w => by kernel_rfl, fun cs w => by kernel_rfl⟩
instance : FdT Tryd.prog 35 2 2 3 := ⟨fun a w => by kernel_rfl, fun cs w => by kernel_rfl⟩
instance : FdT Tryd.prog 35 3 3 3 := ⟨fun a w => by kernel_rfl, fun cs w => by kernel_rfl⟩
instance : FdT Tryd.prog 35 4 4 3 := ⟨fun a w => by kernel_rfl, fun cs w => by kernel_rfl⟩
instance : FdT Tryd.prog 35 5 5 3 := ⟨fun a w => by kernel_rfl, fun cs w => by kernel_rfl⟩
instance : FdT Tryd.prog 35 6 6 4 := ⟨fun a w => by kernel_rfl, fun cs w => by kernel_rfl⟩
instance : FdT Tryd.prog 35 7 7 22 := ⟨fun a w => by kernel_rfl, fun cs w => by kernel_rfl⟩
instance : BldT Tryd.prog 35 [(0, 1), (1, 1), (2, 1), (3, 1), (4, 1), (5, 1), (6, 1), (7, 1)] [.int .i64 0, .int .i64 0, .int .i64 0, .int .i64 0, .int .i64 0, .int .i64 0, .bool false, .slice none 0 0] := ⟨fun parts => by kernel_rfl⟩
instance : TyT Tryd.prog 36 1 false := ⟨fun w => Tryd.isAgg36 w, fun w => Tryd.sizeOf36 w⟩
instance : MkI Tryd.prog 36 := ⟨fun v w => by kernel_rfl⟩
instance : ZvT Tryd.prog 36 (.slice none 0 0) := ⟨fun w => Tryd.zeroValue36 w⟩
instance : SlT Tryd.prog 36 35 8 80 (.agg #[.int .i64 0, .int .i64 0, .int .i64 0, .int .i64 0, .int .i64 0, .int .i64 0, .bool false, .slice none 0 0]) := ⟨by kernel_rfl, by kernel_rfl, rfl, by decide, by decide⟩
instance : TyT Tryd.prog 43 1 false := ⟨fun w => Tryd.isAgg43 w, fun w => Tryd.sizeOf43 w⟩
instance : MkI Tryd.prog 43 := ⟨fun v w => by kernel_rfl⟩
instance : ZvT Tryd.prog 43 (.slice none 0 0) := ⟨fun w => Tryd.zeroValue43 w⟩
instance : SlT Tryd.prog 43 3 1 8 (.int .i64 0) := ⟨by kernel_rfl, by kernel_rfl, rfl, by decide, by decide⟩
instance : TyT Tryd.prog 44 1 false := ⟨fun w => Tryd.isAgg44 w, fun w => Tryd.sizeOf44 w⟩
instance : MkI Tryd.prog 44 := ⟨fun v w => by kernel_rfl⟩
instance : ZvT Tryd.prog 44 (.pointer none) := ⟨fun w => Tryd.zeroValue44 w⟩
instance : TyT Tryd.prog 47 1 false := ⟨fun w => Tryd.isAgg47 w, fun w => Tryd.sizeOf47 w⟩
instance : MkI Tryd.prog 47 := ⟨fun v w => by kernel_rfl⟩
instance : ZvT Tryd.prog 47 (.pointer none) := ⟨fun w => Tryd.zeroValue47 w⟩
instance : TyT Tryd.prog 48 1 false := ⟨fun w => Tryd.isAgg48 w, fun w => Tryd.sizeOf48 w⟩
instance : MkI Tryd.prog 48 := ⟨fun v w => by kernel_rfl⟩
instance : ZvT Tryd.prog 48 (.slice none 0 0) := ⟨fun w => Tryd.zeroValue48 w⟩
instance : SlT Tryd.prog 48 93 11 120 (.agg #[.int .i64 0, .int .i64 0, .int .i64 0, .int .i64 0, .int .i64 0, .int .i64 0, .bool false, .slice none 0 0, .int .i64 0, .bool false, .slice none 0 0]) := ⟨by kernel_rfl, by kernel_rfl, rfl, by decide, by decide⟩
instance : TyT Tryd.prog 49 3 true := ⟨fun w => Tryd.isAgg49 w, fun w => Tryd.sizeOf49 w⟩
instance : MkI Tryd.prog 49 := ⟨fun v w => by kernel_rfl⟩
instance : ZvT Tryd.prog 49 (.agg #[.int .i64 0, .int .i64 0, .slice none 0 0]) := ⟨fun w => Tryd.zeroValue49 w⟩
instance : FdT Tryd.prog 49 0 0 3 := ⟨fun a w => by kernel_rfl, fun cs w => by kernel_rfl⟩
instance : FdT Tryd.prog 49 1 1 3 := ⟨fun a w => by kernel_rfl, fun cs w => by kernel_rfl⟩
instance : FdT Tryd.prog 49 2 2 48 := ⟨fun a w => by kernel_rfl, fun cs w => by kernel_rfl⟩
instance : BldT Tryd.prog 49 [(0, 1), (1, 1), (2, 1)] [.int .i64 0, .int .i64 0, .slice none 0 0] := ⟨fun parts => by kernel_rfl⟩
instance : TyT Tryd.prog 50 3 true := ⟨fun w => Tryd.isAgg50 w, fun w => Tryd.sizeOf50 w⟩
instance : MkI Tryd.prog 50 := ⟨fun v w => by kernel_rfl⟩
instance : ZvT Tryd.prog 50 (.agg #[.int .i64 0, .int .i64 0, .slice none 0 0]) := ⟨fun w => Tryd.zeroValue50 w⟩
instance : FdT Tryd.prog 50 0 0 3 := ⟨fun a w => by kernel_rfl, fun cs w => by kernel_rfl⟩
instance : FdT Tryd.prog 50 1 1 3 := ⟨fun a w => by kernel_rfl, fun cs w => by kernel_rfl⟩
instance : FdT Tryd.prog 50 2 2 48 := ⟨fun a w => by kernel_rfl, fun cs w => by kernel_rfl⟩
instance : BldT Tryd.prog 50 [(0, 1), (1, 1), (2, 1)] [.int .i64 0, .int .i64 0, .slice none 0 0] := ⟨fun parts => by kernel_rfl⟩
instance : TyT Tryd.prog 60 1 false := ⟨fun w => Tryd.isAgg60 w, fun w => Tryd.sizeOf60 w⟩
instance : MkI Tryd.prog 60 := ⟨fun v w => by kernel_rfl⟩
instance : ZvT Tryd.prog 60 (.slice none 0 0) := ⟨fun w => Tryd.zeroValue60 w⟩
instance : SlT Tryd.prog 60 4 1 1 (.bool false) := ⟨by kernel_rfl, by kernel_rfl, rfl, by decide, by decide⟩
instance : TyT Tryd.prog 62 1 false := ⟨fun w => Tryd.isAgg62 w, fun w => Tryd.sizeOf62 w⟩
instance : MkI Tryd.prog 62 := ⟨fun v w => by kernel_rfl⟩
instance : ZvT Tryd.prog 62 (.pointer none) := ⟨fun w => Tryd.zeroValue62 w⟩
instance : TyT Tryd.prog 67 1 false := ⟨fun w => Tryd.isAgg67 w, fun w => Tryd.sizeOf67 w⟩
instance : MkI Tryd.prog 67 := ⟨fun v w => by kernel_rfl⟩
instance : ZvT Tryd.prog 67 (.slice none 0 0) := ⟨fun w => Tryd.zeroValue67 w⟩
instance : SlT Tryd.prog 67 43 1 24 (.slice none 0 0) := ⟨by kernel_rfl, by kernel_rfl, rfl, by decide, by decide⟩
instance : TyT Tryd.prog 68 1 false := ⟨fun w => Tryd.isAgg68 w, fun w => Tryd.sizeOf68 w⟩
instance : MkI Tryd.prog 68 := ⟨fun v w => by kernel_rfl⟩
instance : ZvT Tryd.prog 68 (.pointer none) := ⟨fun w => Tryd.zeroValue68 w⟩
instance : TyT Tryd.prog 71 1 false := ⟨fun w => Tryd.isAgg71 w, fun w => Tryd.sizeOf71 w⟩
instance : MkI Tryd.prog 71 := ⟨fun v w => by kernel_rfl⟩
instance : ZvT Tryd.prog 71 (.pointer none) := ⟨fun w => Tryd.zeroValue71 w⟩
instance : TyT Tryd.prog 72 5 true := ⟨fun w => Tryd.isAgg72 w, fun w => Tryd.sizeOf72 w⟩
instance : MkI Tryd.prog 72 := ⟨fun v w => by kernel_rfl⟩
instance : ZvT Tryd.prog 72 (.agg #[.int .i64 0, .int .i64 0, .bool false, .int .i64 0, .int .i64 0]) := ⟨fun w => Tryd.zeroValue72 w⟩
instance : FdT Tryd.prog 72 0 0 3 := ⟨fun a w => by kernel_rfl, fun cs w => by kernel_rfl⟩
instance : FdT Tryd.prog 72 1 1 3 := ⟨fun a w => by kernel_rfl, fun cs w => by kernel_rfl⟩
instance : FdT Tryd.prog 72 2 2 4 := ⟨fun a w => by kernel_rfl, fun cs w => by kernel_rfl⟩
instance : FdT Tryd.prog 72 3 3 3 := ⟨fun a w => by kernel_rfl, fun cs w => by kernel_rfl⟩
instance : FdT Tryd.prog 72 4 4 3 := ⟨fun a w => by kernel_rfl, fun cs w => by kernel_rfl⟩
instance : BldT Tryd.prog 72 [(0, 1), (1, 1), (2, 1), (3, 1), (4, 1)] [.int .i64 0, .int .i64 0, .bool false, .int .i64 0, .int .i64 0] := ⟨fun parts => by kernel_rfl⟩
instance : TyT Tryd.prog 73 5 true := ⟨fun w => Tryd.isAgg73 w, fun w => Tryd.sizeOf73 w⟩
instance : MkI Tryd.prog 73 := ⟨fun v w => by kernel_rfl⟩
instance : ZvT Tryd.prog 73 (.agg #[.int .i64 0, .int .i64 0, .bool false, .int .i64 0, .int .i64 0]) := ⟨fun w => Tryd.zeroValue73 w⟩
instance : FdT Tryd.prog 73 0 0 3 := ⟨fun a w => by kernel_rfl, fun cs w => by kernel_rfl⟩
instance : FdT Tryd.prog 73 1 1 3 := ⟨fun a w => by kernel_rfl, fun cs w => by kernel_rfl⟩
instance : FdT Tryd.prog 73 2 2 4 := ⟨fun a w => by kernel_rfl, fun cs w => by kernel_rfl⟩
instance : FdT Tryd.prog 73 3 3 3 := ⟨fun a w => by kernel_rfl, fun cs w => by kernel_rfl⟩
instance : FdT Tryd.prog 73 4 4 3 := ⟨fun a w => by kernel_rfl, fun cs w => by kernel_rfl⟩
instance : BldT Tryd.prog 73 [(0, 1), (1, 1), (2, 1), (3, 1), (4, 1)] [.int .i64 0, .int .i64 0, .bool false, .int .i64 0, .int .i64 0] := ⟨fun parts => by kernel_rfl⟩
instance : TyT Tryd.prog 74 1 false := ⟨fun w => Tryd.isAgg74 w, fun w => Tryd.sizeOf74 w⟩
instance : MkI Tryd.prog 74 := ⟨fun v w => by kernel_rfl⟩
instance : ZvT Tryd.prog 74 (.pointer none) := ⟨fun w => Tryd.zeroValue74 w⟩
instance : TyT Tryd.prog 75 8 true := ⟨fun w => Tryd.isAgg75 w, fun w => Tryd.sizeOf75 w⟩
instance : MkI Tryd.prog 75 := ⟨fun v w => by kernel_rfl⟩
instance : ZvT Tryd.prog 75 (.agg #[.int .i64 0, .int .i64 0, .int .i64 0, .int .i64 0, .int .i64 0, .bool false, .int .i64 0, .int .i64 0]) := ⟨fun w => Tryd.zeroValue75 w⟩
instance : FdT Tryd.prog 75 0 0 3 := ⟨fun a w => by kernel_rfl, fun cs w => by kernel_rfl⟩
instance : FdT Tryd.prog 75 1 1 3 := ⟨fun a w => by kernel_rfl, fun cs w => by kernel_rfl⟩
instance : FdT Tryd.prog 75 2 2 3 := ⟨fun a w => by kernel_rfl, fun cs w => by kernel_rfl⟩
instance : FdT Tryd.prog 75 3 3 3 := ⟨fun a w => by kernel_rfl, fun cs w => by kernel_rfl⟩
instance : FdT Tryd.prog 75 4 4 3 := ⟨fun a w => by kernel_rfl, fun cs w => by kernel_rfl⟩
instance : FdT Tryd.prog 75 5 5 4 := ⟨fun a w => by kernel_rfl, fun cs w => by kernel_rfl⟩
instance : FdT Tryd.prog 75 6 6 3 := ⟨fun a w => by kernel_rfl, fun cs w => by kernel_rfl⟩
instance : FdT Tryd.prog 75 7 7 3 := ⟨fun a w => by kernel_rfl, fun cs w => by kernel_rfl⟩
instance : BldT Tryd.prog 75 [(0, 1), (1, 1), (2, 1), (3, 1), (4, 1), (5, 1), (6, 1), (7, 1)] [.int .i64 0, .int .i64 0, .int .i64 0, .int .i64 0, .int .i64 0, .bool false, .int .i64 0, .int .i64 0] := ⟨fun parts => by kernel_rfl⟩
instance : TyT Tryd.prog 76 8 true := ⟨fun w => Tryd.isAgg76 w, fun w => Tryd.sizeOf76 w⟩
instance : MkI Tryd.prog 76 := ⟨fun v w => by kernel_rfl⟩
instance : ZvT Tryd.prog 76 (.agg #[.int .i64 0, .int .i64 0, .int .i64 0, .int .i64 0, .int .i64 0, .bool false, .int .i64 0, .int .i64 0]) := ⟨fun w => Tryd.zeroValue76 w⟩
instance : FdT Tryd.prog 76 0 0 3 := ⟨fun a w => by kernel_rfl, fun cs w => by kernel_rfl⟩
instance : FdT Tryd.prog 76 1 1 3 := ⟨fun a w => by kernel_rfl, fun cs w => by kernel_rfl⟩
instance : FdT Tryd.prog 76 2 2 3 := ⟨fun a w => by kernel_rfl, fun cs w => by kernel_rfl⟩
instance : FdT Tryd.prog 76 3 3 3 := ⟨fun a w => by kernel_rfl, fun cs w => by kernel_rfl⟩
instance : FdT Tryd.prog 76 4 4 3 := ⟨fun a w => by kernel_rfl, fun cs w => by kernel_rfl⟩
instance : FdT Tryd.prog 76 5 5 4 := ⟨fun a w => by kernel_rfl, fun cs w => by kernel_rfl⟩
instance : FdT Tryd.prog 76 6 6 3 := ⟨fun a w => by kernel_rfl, fun cs w => by kernel_rfl⟩
instance : FdT Tryd.prog 76 7 7 3 := ⟨fun a w => by kernel_rfl, fun cs w => by kernel_rfl⟩
instance : BldT Tryd.prog 76 [(0, 1), (1, 1), (2, 1), (3, 1), (4, 1), (5, 1), (6, 1), (7, 1)] [.int .i64 0, .int .i64 0, .int .i64 0, .int .i64 0, .int .i64 0, .bool false, .int .i64 0, .int .i64 0] := ⟨fun parts => by kernel_rfl⟩
instance : TyT Tryd.prog 77 3 true := ⟨fun w => Tryd.isAgg77 w, fun w => Tryd.sizeOf77 w⟩
instance : MkI Tryd.prog 77 := ⟨fun v w => by kernel_rfl⟩
instance : ZvT Tryd.prog 77 (.agg #[.int .i64 0, .int .i64 0, .int .i64 0]) := ⟨fun w => Tryd.zeroValue77 w⟩
instance : ArT Tryd.prog 77 3 3 1 := ⟨Tryd.underlying77, fun w => Tryd.sizeOf3 w⟩
instance : TyT Tryd.prog 84 1 false := ⟨fun w => Tryd.isAgg84 w, fun w => Tryd.sizeOf84 w⟩
instance : MkI Tryd.prog 84 := ⟨fun v w => by kernel_rfl⟩
instance : IntT Tryd.prog 84 .i64 := ⟨Tryd.underlying84⟩
instance : ZvT Tryd.prog 84 (.int .i64 0) := ⟨fun w => Tryd.zeroValue84 w⟩
instance : TyT Tryd.prog 89 1 false := ⟨fun w => Tryd.isAgg89 w, fun w => Tryd.sizeOf89 w⟩
instance : MkI Tryd.prog 89 := ⟨fun v w => by kernel_rfl⟩
instance : ZvT Tryd.prog 89 (.map none) := ⟨fun w => Tryd.zeroValue89 w⟩
instance : TyT Tryd.prog 90 3 true := ⟨fun w => Tryd.isAgg90 w, fun w => Tryd.sizeOf90 w⟩
instance : MkI Tryd.prog 90 := ⟨fun v w => by kernel_rfl⟩
instance : ZvT Tryd.prog 90 (.agg #[.int .i64 0, .int .i64 0, .map none]) := ⟨fun w => Tryd.zeroValue90 w⟩
instance : FdT Tryd.prog 90 0 0 3 := ⟨fun a w => by kernel_rfl, fun cs w => by kernel_rfl⟩
instance : FdT Tryd.prog 90 1 1 3 := ⟨fun a w => by kernel_rfl, fun cs w => by kernel_rfl⟩
instance : FdT Tryd.prog 90 2 2 89 := ⟨fun a w => by kernel_rfl, fun cs w => by kernel_rfl⟩
instance : BldT Tryd.prog 90 [(0, 1), (1, 1), (2, 1)] [.int .i64 0, .int .i64 0, .map none] := ⟨fun parts => by kernel_rfl⟩
instance : TyT Tryd.prog 91 3 true := ⟨fun w => Tryd.isAgg91 w, fun w => Tryd.sizeOf91 w⟩
instance : MkI Tryd.prog 91 := ⟨fun v w => by kernel_rfl⟩
instance : ZvT Tryd.prog 91 (.agg #[.int .i64 0, .int .i64 0, .map none]) := ⟨fun w => Tryd.zeroValue91 w⟩
instance : FdT Tryd.prog 91 0 0 3 := ⟨fun a w => by kernel_rfl, fun cs w => by kernel_rfl⟩
instance : FdT Tryd.prog 91 1 1 3 := ⟨fun a w => by kernel_rfl, fun cs w => by kernel_rfl⟩
instance : FdT Tryd.prog 91 2 2 89 := ⟨fun a w => by kernel_rfl, fun cs w => by kernel_rfl⟩
instance : BldT Tryd.prog 91 [(0, 1), (1, 1), (2, 1)] [.int .i64 0, .int .i64 0, .map none] := ⟨fun parts => by kernel_rfl⟩
instance : TyT Tryd.prog 92 11 true := ⟨fun w => Tryd.isAgg92 w, fun w => Tryd.sizeOf92 w⟩
instance : MkI Tryd.prog 92 := ⟨fun v w => by kernel_rfl⟩
instance : ZvT Tryd.prog 92 (.agg #[.int .i64 0, .int .i64 0, .int .i64 0, .int .i64 0, .int .i64 0, .int .i64 0, .bool false, .slice none 0 0, .int .i64 0, .bool false, .slice none 0 0]) := ⟨fun w => Tryd.zeroValue92 w⟩
instance : FdT Tryd.prog 92 0 0 35 := ⟨fun a w => by kernel_rfl, fun cs w => by kernel_rfl⟩
instance : FdT Tryd.prog 92 1 8 3 := ⟨fun a w => by kernel_rfl, fun cs w => by kernel_rfl⟩
instance : FdT Tryd.prog 92 2 9 4 := ⟨fun a w => by kernel_rfl, fun cs w => by kernel_rfl⟩
instance : FdT Tryd.prog 92 3 10 36 := ⟨fun a w => by kernel_rfl, fun cs w => by kernel_rfl⟩
instance : BldT Tryd.prog 92 [(0, 8), (8, 1), (9, 1), (10, 1)] [.int .i64 0, .int .i64 0, .int .i64 0, .int .i64 0, .int .i64 0, .int .i64 0, .bool false, .slice none 0 0, .int .i64 0, .bool false, .slice none 0 0] := ⟨fun parts => by kernel_rfl⟩
instance : TyT Tryd.prog 93 11 true := ⟨fun w => Tryd.isAgg93 w, fun w => Tryd.sizeOf93 w⟩
instance : MkI Tryd.prog 93 := ⟨fun v w => by kernel_rfl⟩
instance : ZvT Tryd.prog 93 (.agg #[.int .i64 0, .int .i64 0, .int .i64 0, .int .i64 0, .int .i64 0, .int .i64 0, .bool false, .slice none 0 0, .int .i64 0, .bool false, .slice none 0 0]) := ⟨fun w => Tryd.zeroValue93 w⟩
instance : FdT Tryd.prog 93 0 0 35 := ⟨fun a w => by kernel_rfl, fun cs w => by kernel_rfl⟩
instance : FdT Tryd.prog 93 1 8 3 := ⟨fun a w => by kernel_rfl, fun cs w => by kernel_rfl⟩
instance : FdT Tryd.prog 93 2 9 4 := ⟨fun a w => by kernel_rfl, fun cs w => by kernel_rfl⟩
instance : FdT Tryd.prog 93 3 10 36 := ⟨fun a w => by kernel_rfl, fun cs w => by kernel_rfl⟩
instance : BldT Tryd.prog 93 [(0, 8), (8, 1), (9, 1), (10, 1)] [.int .i64 0, .int .i64 0, .int .i64 0, .int .i64 0, .int .i64 0, .int .i64 0, .bool false, .slice none 0 0, .int .i64 0, .bool false, .slice none 0 0] := ⟨fun parts => by kernel_rfl⟩
instance : TyT Tryd.prog 94 4 true := ⟨fun w => Tryd.isAgg94 w, fun w => Tryd.sizeOf94 w⟩
instance : MkI Tryd.prog 94 := ⟨fun v w => by kernel_rfl⟩
instance : ZvT Tryd.prog 94 (.agg #[.int .i64 0, .int .i64 0, .int .i64 0, .int .i64 0]) := ⟨fun w => Tryd.zeroValue94 w⟩
instance : FdT Tryd.prog 94 0 0 3 := ⟨fun a w => by kernel_rfl, fun cs w => by kernel_rfl⟩
instance : FdT Tryd.prog 94 1 1 3 := ⟨fun a w => by kernel_rfl, fun cs w => by kernel_rfl⟩
instance : FdT Tryd.prog 94 2 2 3 := ⟨fun a w => by kernel_rfl, fun cs w => by kernel_rfl⟩
instance : FdT Tryd.prog 94 3 3 3 := ⟨fun a w => by kernel_rfl, fun cs w => by kernel_rfl⟩
instance : BldT Tryd.prog 94 [(0, 1), (1, 1), (2, 1), (3, 1)] [.int .i64 0, .int .i64 0, .int .i64 0, .int .i64 0] := ⟨fun parts => by kernel_rfl⟩
instance : TyT Tryd.prog 95 4 true := ⟨fun w => Tryd.isAgg95 w, fun w => Tryd.sizeOf95 w⟩
instance : MkI Tryd.prog 95 := ⟨fun v w => by kernel_rfl⟩
instance : ZvT Tryd.prog 95 (.agg #[.int .i64 0, .int .i64 0, .int .i64 0, .int .i64 0]) := ⟨fun w => Tryd.zeroValue95 w⟩
instance : FdT Tryd.prog 95 0 0 3 := ⟨fun a w => by kernel_rfl, fun cs w => by kernel_rfl⟩
instance : FdT Tryd.prog 95 1 1 3 := ⟨fun a w => by kernel_rfl, fun cs w => by kernel_rfl⟩
instance : FdT Tryd.prog 95 2 2 3 := ⟨fun a w => by kernel_rfl, fun cs w => by kernel_rfl⟩
instance : FdT Tryd.prog 95 3 3 3 := ⟨fun a w => by kernel_rfl, fun cs w => by kernel_rfl⟩
instance : BldT Tryd.prog 95 [(0, 1), (1, 1), (2, 1), (3, 1)] [.int .i64 0, .int .i64 0, .int .i64 0, .int .i64 0] := ⟨fun parts => by kernel_rfl⟩
instance : TyT Tryd.prog 96 1 false := ⟨fun w => Tryd.isAgg96 w, fun w => Tryd.sizeOf96 w⟩
instance : MkI Tryd.prog 96 := ⟨fun v w => by kernel_rfl⟩
instance : ZvT Tryd.prog 96 (.pointer none) := ⟨fun w => Tryd.zeroValue96 w⟩
instance : TyT Tryd.prog 97 7 true := ⟨fun w => Tryd.isAgg97 w, fun w => Tryd.sizeOf97 w⟩
instance : MkI Tryd.prog 97 := ⟨fun v w => by kernel_rfl⟩
instance : ZvT Tryd.prog 97 (.agg #[.int .i64 0, .bool false, .int .i64 0, .slice none 0 0, .slice none 0 0, .int .i64 0, .int .i64 0]) := ⟨fun w => Tryd.zeroValue97 w⟩
instance : FdT Tryd.prog 97 0 0 3 := ⟨fun a w => by kernel_rfl, fun cs w => by kernel_rfl⟩
instance : FdT Tryd.prog 97 1 1 4 := ⟨fun a w => by kernel_rfl, fun cs w => by kernel_rfl⟩
instance : FdT Tryd.prog 97 2 2 3 := ⟨fun a w => by kernel_rfl, fun cs w => by kernel_rfl⟩
instance : FdT Tryd.prog 97 3 3 22 := ⟨fun a w => by kernel_rfl, fun cs w => by kernel_rfl⟩
instance : FdT Tryd.prog 97 4 4 60 := ⟨fun a w => by kernel_rfl, fun cs w => by kernel_rfl⟩
instance : FdT Tryd.prog 97 5 5 3 := ⟨fun a w => by kernel_rfl, fun cs w => by kernel_rfl⟩
instance : FdT Tryd.prog 97 6 6 3 := ⟨fun a w => by kernel_rfl, fun cs w => by kernel_rfl⟩
instance : BldT Tryd.prog 97 [(0, 1), (1, 1), (2, 1), (3, 1), (4, 1), (5, 1), (6, 1)] [.int .i64 0, .bool false, .int .i64 0, .slice none 0 0, .slice none 0 0, .int .i64 0, .int .i64 0] := ⟨fun parts => by kernel_rfl⟩
instance : TyT Tryd.prog 98 7 true := ⟨fun w => Tryd.isAgg98 w, fun w => Tryd.sizeOf98 w⟩
instance : MkI Tryd.prog 98 := ⟨fun v w => by kernel_rfl⟩
instance : ZvT Tryd.prog 98 (.agg #[.int .i64 0, .bool false, .int .i64 0, .slice none 0 0, .slice none 0 0, .int .i64 0, .int .i64 0]) := ⟨fun w => Tryd.zeroValue98 w⟩
instance : FdT Tryd.prog 98 0 0 3 := ⟨fun a w => by kernel_rfl, fun cs w => by kernel_rfl⟩
instance : FdT Tryd.prog 98 1 1 4 := ⟨fun a w => by kernel_rfl, fun cs w => by kernel_rfl⟩
instance : FdT Tryd.prog 98 2 2 3 := ⟨fun a w => by kernel_rfl, fun cs w => by kernel_rfl⟩
instance : FdT Tryd.prog 98 3 3 22 := ⟨fun a w => by kernel_rfl, fun cs w => by kernel_rfl⟩
instance : FdT Tryd.prog 98 4 4 60 := ⟨fun a w => by kernel_rfl, fun cs w => by kernel_rfl⟩
instance : FdT Tryd.prog 98 5 5 3 := ⟨fun a w => by kernel_rfl, fun cs w => by kernel_rfl⟩
instance : FdT Tryd.prog 98 6 6 3 := ⟨fun a w => by kernel_rfl, fun cs w => by kernel_rfl⟩
instance : BldT Tryd.prog 98 [(0, 1), (1, 1), (2, 1), (3, 1), (4, 1), (5, 1), (6, 1)] [.int .i64 0, .bool false, .int .i64 0, .slice none 0 0, .slice none 0 0, .int .i64 0, .int .i64 0] := ⟨fun parts => by kernel_rfl⟩
instance : TyT Tryd.prog 102 1 true := ⟨fun w => Tryd.isAgg102 w, fun w => Tryd.sizeOf102 w⟩
instance : MkI Tryd.prog 102 := ⟨fun v w => by kernel_rfl⟩
instance : ZvT Tryd.prog 102 (.agg #[.int .i64 0]) := ⟨fun w => Tryd.zeroValue102 w⟩
instance : FdT Tryd.prog 102 0 0 3 := ⟨fun a w => by kernel_rfl, fun cs w => by kernel_rfl⟩
instance : BldT Tryd.prog 102 [(0, 1)] [.int .i64 0] := ⟨fun parts => by kernel_rfl⟩
instance : TyT Tryd.prog 103 1 true := ⟨fun w => Tryd.isAgg103 w, fun w => Tryd.sizeOf103 w⟩
instance : MkI Tryd.prog 103 := ⟨fun v w => by kernel_rfl⟩
instance : ZvT Tryd.prog 103 (.agg #[.int .i64 0]) := ⟨fun w => Tryd.zeroValue103 w⟩
instance : FdT Tryd.prog 103 0 0 3 := ⟨fun a w => by kernel_rfl, fun cs w => by kernel_rfl⟩
instance : BldT Tryd.prog 103 [(0, 1)] [.int .i64 0] := ⟨fun parts => by kernel_rfl⟩
instance : TyT Tryd.prog 104 4 true := ⟨fun w => Tryd.isAgg104 w, fun w => Tryd.sizeOf104 w⟩
instance : MkI Tryd.prog 104 := ⟨fun v w => by kernel_rfl⟩
instance : ZvT Tryd.prog 104 (.agg #[.int .i64 0, .int .i64 0, .int .i64 0, .int .i64 0]) := ⟨fun w => Tryd.zeroValue104 w⟩
instance : FdT Tryd.prog 104 0 0 103 := ⟨fun a w => by kernel_rfl, fun cs w => by kernel_rfl⟩
instance : FdT Tryd.prog 104 1 1 3 := ⟨fun a w => by kernel_rfl, fun cs w => by kernel_rfl⟩
instance : FdT Tryd.prog 104 2 2 3 := ⟨fun a w => by kernel_rfl, fun cs w => by kernel_rfl⟩
instance : FdT Tryd.prog 104 3 3 3 := ⟨fun a w => by kernel_rfl, fun cs w => by kernel_rfl⟩
instance : BldT Tryd.prog 104 [(0, 1), (1, 1), (2, 1), (3, 1)] [.int .i64 0, .int .i64 0, .int .i64 0, .int .i64 0] := ⟨fun parts => by kernel_rfl⟩
instance : TyT Tryd.prog 105 4 true := ⟨fun w => Tryd.isAgg105 w, fun w => Tryd.sizeOf105 w⟩
instance : MkI Tryd.prog 105 := ⟨fun v w => by kernel_rfl⟩
instance : ZvT Tryd.prog 105 (.agg #[.int .i64 0, .int .i64 0, .int .i64 0, .int .i64 0]) := ⟨fun w => Tryd.zeroValue105 w⟩
instance : FdT Tryd.prog 105 0 0 103 := ⟨fun a w => by kernel_rfl, fun cs w => by kernel_rfl⟩
instance : FdT Tryd.prog 105 1 1 3 := ⟨fun a w => by kernel_rfl, fun cs w => by kernel_rfl⟩
instance : FdT Tryd.prog 105 2 2 3 := ⟨fun a w => by kernel_rfl, fun cs w => by kernel_rfl⟩
instance : FdT Tryd.prog 105 3 3 3 := ⟨fun a w => by kernel_rfl, fun cs w => by kernel_rfl⟩
instance : BldT Tryd.prog 105 [(0, 1), (1, 1), (2, 1), (3, 1)] [.int .i64 0, .int .i64 0, .int .i64 0, .int .i64 0] := ⟨fun parts => by kernel_rfl⟩
instance : TyT Tryd.prog 106 7 true := ⟨fun w => Tryd.isAgg106 w, fun w => Tryd.sizeOf106 w⟩
instance : MkI Tryd.prog 106 := ⟨fun v w => by kernel_rfl⟩
instance : ZvT Tryd.prog 106 (.agg #[.int .i64 0, .int .i64 0, .int .i64 0, .int .i64 0, .int .i64 0, .int .i64 0, .int .i64 0]) := ⟨fun w => Tryd.zeroValue106 w⟩
instance : FdT Tryd.prog 106 0 0 103 := ⟨fun a w => by kernel_rfl, fun cs w => by kernel_rfl⟩
instance : FdT Tryd.prog 106 1 1 3 := ⟨fun a w => by kernel_rfl, fun cs w => by kernel_rfl⟩
instance : FdT Tryd.prog 106 2 2 3 := ⟨fun a w => by kernel_rfl, fun cs w => by kernel_rfl⟩
instance : FdT Tryd.prog 106 3 3 3 := ⟨fun a w => by kernel_rfl, fun cs w => by kernel_rfl⟩
instance : FdT Tryd.prog 106 4 4 3 := ⟨fun a w => by kernel_rfl, fun cs w => by kernel_rfl⟩
instance : FdT Tryd.prog 106 5 5 3 := ⟨fun a w => by kernel_rfl, fun cs w => by kernel_rfl⟩
instance : FdT Tryd.prog 106 6 6 3 := ⟨fun a w => by kernel_rfl, fun cs w => by kernel_rfl⟩
instance : BldT Tryd.prog 106 [(0, 1), (1, 1), (2, 1), (3, 1), (4, 1), (5, 1), (6, 1)] [.int .i64 0, .int .i64 0, .int .i64 0, .int .i64 0, .int .i64 0, .int .i64 0, .int .i64 0] := ⟨fun parts => by kernel_rfl⟩
instance : TyT Tryd.prog 107 7 true := ⟨fun w => Tryd.isAgg107 w, fun w => Tryd.sizeOf107 w⟩
instance : MkI Tryd.prog 107 := ⟨fun v w => by kernel_rfl⟩
instance : ZvT Tryd.prog 107 (.agg #[.int .i64 0, .int .i64 0, .int .i64 0, .int .i64 0, .int .i64 0, .int .i64 0, .int .i64 0]) := ⟨fun w => Tryd.zeroValue107 w⟩
instance : FdT Tryd.prog 107 0 0 103 := ⟨fun a w => by kernel_rfl, fun cs w => by kernel_rfl⟩
instance : FdT Tryd.prog 107 1 1 3 := ⟨fun a w => by kernel_rfl, fun cs w => by kernel_rfl⟩
instance : FdT Tryd.prog 107 2 2 3 := ⟨fun a w => by kernel_rfl, fun cs w => by kernel_rfl⟩
instance : FdT Tryd.prog 107 3 3 3 := ⟨fun a w => by kernel_rfl, fun cs w => by kernel_rfl⟩
instance : FdT Tryd.prog 107 4 4 3 := ⟨fun a w => by kernel_rfl, fun cs w => by kernel_rfl⟩
instance : FdT Tryd.prog 107 5 5 3 := ⟨fun a w => by kernel_rfl, fun cs w => by kernel_rfl⟩
instance : FdT Tryd.prog 107 6 6 3 := ⟨fun a w => by kernel_rfl, fun cs w => by kernel_rfl⟩
instance : BldT Tryd.prog 107 [(0, 1), (1, 1), (2, 1), (3, 1), (4, 1), (5, 1), (6, 1)] [.int .i64 0, .int .i64 0, .int .i64 0, .int .i64 0, .int .i64 0, .int .i64 0, .int .i64 0] := ⟨fun parts => by kernel_rfl⟩
instance : TyT Tryd.prog 108 1 false := ⟨fun w => Tryd.isAgg108 w, fun w => Tryd.sizeOf108 w⟩
instance : MkI Tryd.prog 108 := ⟨fun v w => by kernel_rfl⟩
instance : IntT Tryd.prog 108 .u64 := ⟨Tryd.underlying108⟩
instance : ZvT Tryd.prog 108 (.int .u64 0) := ⟨fun w => Tryd.zeroValue108 w⟩
instance : TyT Tryd.prog 110 1 false := ⟨fun w => Tryd.isAgg110 w, fun w => Tryd.sizeOf110 w⟩
instance : MkI Tryd.prog 110 := ⟨fun v w => by kernel_rfl⟩
instance : ZvT Tryd.prog 110 (.pointer none) := ⟨fun w => Tryd.zeroValue110 w⟩
instance : TyT Tryd.prog 112 1 false := ⟨fun w => Tryd.isAgg112 w, fun w => Tryd.sizeOf112 w⟩
instance : MkI Tryd.prog 112 := ⟨fun v w => by kernel_rfl⟩
instance : ZvT Tryd.prog 112 (.pointer none) := ⟨fun w => Tryd.zeroValue112 w⟩
instance : TyT Tryd.prog 113 1 false := ⟨fun w => Tryd.isAgg113 w, fun w => Tryd.sizeOf113 w⟩
instance : MkI Tryd.prog 113 := ⟨fun v w => by kernel_rfl⟩
instance : ZvT Tryd.prog 113 (.pointer none) := ⟨fun w => Tryd.zeroValue113 w⟩
instance : TyT Tryd.prog 114 1 false := ⟨fun w => Tryd.isAgg114 w, fun w => Tryd.sizeOf114 w⟩
instance : MkI Tryd.prog 114 := ⟨fun v w => by kernel_rfl⟩
instance : IntT Tryd.prog 114 .u64 := ⟨Tryd.underlying114⟩
instance : ZvT Tryd.prog 114 (.int .u64 0) := ⟨fun w => Tryd.zeroValue114 w⟩
instance : TyT Tryd.prog 115 3 true := ⟨fun w => Tryd.isAgg115 w, fun w => Tryd.sizeOf115 w⟩
instance : MkI Tryd.prog 115 := ⟨fun v w => by kernel_rfl⟩
instance : ZvT Tryd.prog 115 (.agg #[.pointer none, .pointer none, .int .u64 0]) := ⟨fun w => Tryd.zeroValue115 w⟩
instance : FdT Tryd.prog 115 0 0 17 := ⟨fun a w => by kernel_rfl, fun cs w => by kernel_rfl⟩
instance : FdT Tryd.prog 115 1 1 113 := ⟨fun a w => by kernel_rfl, fun cs w => by kernel_rfl⟩
instance : FdT Tryd.prog 115 2 2 114 := ⟨fun a w => by kernel_rfl, fun cs w => by kernel_rfl⟩
instance : BldT Tryd.prog 115 [(0, 1), (1, 1), (2, 1)] [.pointer none, .pointer none, .int .u64 0] := ⟨fun parts => by kernel_rfl⟩
instance : TyT Tryd.prog 116 3 true := ⟨fun w => Tryd.isAgg116 w, fun w => Tryd.sizeOf116 w⟩
instance : MkI Tryd.prog 116 := ⟨fun v w => by kernel_rfl⟩
instance : ZvT Tryd.prog 116 (.agg #[.pointer none, .pointer none, .int .u64 0]) := ⟨fun w => Tryd.zeroValue116 w⟩
instance : FdT Tryd.prog 116 0 0 17 := ⟨fun a w => by kernel_rfl, fun cs w => by kernel_rfl⟩
instance : FdT Tryd.prog 116 1 1 113 := ⟨fun a w => by kernel_rfl, fun cs w => by kernel_rfl⟩
instance : FdT Tryd.prog 116 2 2 114 := ⟨fun a w => by kernel_rfl, fun cs w => by kernel_rfl⟩
instance : BldT Tryd.prog 116 [(0, 1), (1, 1), (2, 1)] [.pointer none, .pointer none, .int .u64 0] := ⟨fun parts => by kernel_rfl⟩
instance : TyT Tryd.prog 118 1 false := ⟨fun w => Tryd.isAgg118 w, fun w => Tryd.sizeOf118 w⟩
instance : IfT Tryd.prog 118 := ⟨⟨_, Tryd.underlying118⟩⟩
instance : ZvT Tryd.prog 118 (.nilIface) := ⟨fun w => Tryd.zeroValue118 w⟩
instance : TyT Tryd.prog 119 1 false := ⟨fun w => Tryd.isAgg119 w, fun w => Tryd.sizeOf119 w⟩
instance : IfT Tryd.prog 119 := ⟨⟨_, Tryd.underlying119⟩⟩
instance : ZvT Tryd.prog 119 (.nilIface) := ⟨fun w => Tryd.zeroValue119 w⟩
instance : TyT Tryd.prog 121 1 false := ⟨fun w => Tryd.isAgg121 w, fun w => Tryd.sizeOf121 w⟩
instance : MkI Tryd.prog 121 := ⟨fun v w => by kernel_rfl⟩
instance : IntT Tryd.prog 121 .u8 := ⟨Tryd.underlying121⟩
instance : ZvT Tryd.prog 121 (.int .u8 0) := ⟨fun w => Tryd.zeroValue121 w⟩
instance : TyT Tryd.prog 126 1 true := ⟨fun w => Tryd.isAgg126 w, fun w => Tryd.sizeOf126 w⟩
instance : MkI Tryd.prog 126 := ⟨fun v w => by kernel_rfl⟩
instance : ZvT Tryd.prog 126 (.agg #[.pointer none]) := ⟨fun w => Tryd.zeroValue126 w⟩
instance : FdT Tryd.prog 126 0 0 17 := ⟨fun a w => by kernel_rfl, fun cs w => by kernel_rfl⟩
instance : BldT Tryd.prog 126 [(0, 1)] [.pointer none] := ⟨fun parts => by kernel_rfl⟩
instance : TyT Tryd.prog 127 1 true := ⟨fun w => Tryd.isAgg127 w, fun w => Tryd.sizeOf127 w⟩
instance : MkI Tryd.prog 127 := ⟨fun v w => by kernel_rfl⟩
instance : ZvT Tryd.prog 127 (.agg #[.pointer none]) := ⟨fun w => Tryd.zeroValue127 w⟩
instance : FdT Tryd.prog 127 0 0 17 := ⟨fun a w => by kernel_rfl, fun cs w => by kernel_rfl⟩
instance : BldT Tryd.prog 127 [(0, 1)] [.pointer none] := ⟨fun parts => by kernel_rfl⟩
instance : TyT Tryd.prog 128 1 false := ⟨fun w => Tryd.isAgg128 w, fun w => Tryd.sizeOf128 w⟩
instance : MkI Tryd.prog 128 := ⟨fun v w => by kernel_rfl⟩
instance : ZvT Tryd.prog 128 (.pointer none) := ⟨fun w => Tryd.zeroValue128 w⟩
instance : TyT Tryd.prog 132 1 false := ⟨fun w => Tryd.isAgg132 w, fun w => Tryd.sizeOf132 w⟩
instance : IfT Tryd.prog 132 := ⟨⟨_, Tryd.underlying132⟩⟩
instance : ZvT Tryd.prog 132 (.nilIface) := ⟨fun w => Tryd.zeroValue132 w⟩
instance : TyT Tryd.prog 135 1 false := ⟨fun w => Tryd.isAgg135 w, fun w => Tryd.sizeOf135 w⟩
instance : IfT Tryd.prog 135 := ⟨⟨_, Tryd.underlying135⟩⟩
instance : ZvT Tryd.prog 135 (.nilIface) := ⟨fun w => Tryd.zeroValue135 w⟩
instance : TyT Tryd.prog 137 1 false := ⟨fun w => Tryd.isAgg137 w, fun w => Tryd.sizeOf137 w⟩
instance : IfT Tryd.prog 137 := ⟨⟨_, Tryd.underlying137⟩⟩
instance : ZvT Tryd.prog 137 (.nilIface) := ⟨fun w => Tryd.zeroValue137 w⟩
instance : TyT Tryd.prog 138 1 false := ⟨fun w => Tryd.isAgg138 w, fun w => Tryd.sizeOf138 w⟩
instance : MkI Tryd.prog 138 := ⟨fun v w => by kernel_rfl⟩
instance : ZvT Tryd.prog 138 (.slice none 0 0) := ⟨fun w => Tryd.zeroValue138 w⟩
instance : SlT Tryd.prog 138 28 1 16 (.nilIface) := ⟨by kernel_rfl, by kernel_rfl, rfl, by decide, by decide⟩
instance : TyT Tryd.prog 141 4 true := ⟨fun w => Tryd.isAgg141 w, fun w => Tryd.sizeOf141 w⟩
instance : MkI Tryd.prog 141 := ⟨fun v w => by kernel_rfl⟩
instance : ZvT Tryd.prog 141 (.agg #[.pointer none, .pointer none, .pointer none, .string ⟨#[]⟩]) := ⟨fun w => Tryd.zeroValue141 w⟩
instance : FdT Tryd.prog 141 0 0 17 := ⟨fun a w => by kernel_rfl, fun cs w => by kernel_rfl⟩
instance : FdT Tryd.prog 141 1 1 17 := ⟨fun a w => by kernel_rfl, fun cs w => by kernel_rfl⟩
instance : FdT Tryd.prog 141 2 2 17 := ⟨fun a w => by kernel_rfl, fun cs w => by kernel_rfl⟩
instance : FdT Tryd.prog 141 3 3 9 := ⟨fun a w => by kernel_rfl, fun cs w => by kernel_rfl⟩
instance : BldT Tryd.prog 141 [(0, 1), (1, 1), (2, 1), (3, 1)] [.pointer none, .pointer none, .pointer none, .string ⟨#[]⟩] := ⟨fun parts => by kernel_rfl⟩
instance : TyT Tryd.prog 142 4 true := ⟨fun w => Tryd.isAgg142 w, fun w => Tryd.sizeOf142 w⟩
instance : MkI Tryd.prog 142 := ⟨fun v w => by kernel_rfl⟩
instance : ZvT Tryd.prog 142 (.agg #[.pointer none, .pointer none, .pointer none, .string ⟨#[]⟩]) := ⟨fun w => Tryd.zeroValue142 w⟩
instance : FdT Tryd.prog 142 0 0 17 := ⟨fun a w => by kernel_rfl, fun cs w => by kernel_rfl⟩
instance : FdT Tryd.prog 142 1 1 17 := ⟨fun a w => by kernel_rfl, fun cs w => by kernel_rfl⟩
instance : FdT Tryd.prog 142 2 2 17 := ⟨fun a w => by kernel_rfl, fun cs w => by kernel_rfl⟩
instance : FdT Tryd.prog 142 3 3 9 := ⟨fun a w => by kernel_rfl, fun cs w => by kernel_rfl⟩
instance : BldT Tryd.prog 142 [(0, 1), (1, 1), (2, 1), (3, 1)] [.pointer none, .pointer none, .pointer none, .string ⟨#[]⟩] := ⟨fun parts => by kernel_rfl⟩
instance : TyT Tryd.prog 143 0 true := ⟨fun w => Tryd.isAgg143 w, fun w => Tryd.sizeOf143 w⟩
instance : MkI Tryd.prog 143 := ⟨fun v w => by kernel_rfl⟩
instance : ZvT Tryd.prog 143 (.agg #[]) := ⟨fun w => Tryd.zeroValue143 w⟩
instance : ArT Tryd.prog 143 0 16 1 := ⟨Tryd.underlying143, fun w => Tryd.sizeOf16 w⟩
instance : TyT Tryd.prog 144 0 true := ⟨fun w => Tryd.isAgg144 w, fun w => Tryd.sizeOf144 w⟩
instance : MkI Tryd.prog 144 := ⟨fun v w => by kernel_rfl⟩
instance : ZvT Tryd.prog 144 (.agg #[]) := ⟨fun w => Tryd.zeroValue144 w⟩
instance : BldT Tryd.prog 144 [(0, 0)] [] := ⟨fun parts => by kernel_rfl⟩
instance : TyT Tryd.prog 145 0 true := ⟨fun w => Tryd.isAgg145 w, fun w => Tryd.sizeOf145 w⟩
instance : MkI Tryd.prog 145 := ⟨fun v w => by kernel_rfl⟩
instance : ZvT Tryd.prog 145 (.agg #[]) := ⟨fun w => Tryd.zeroValue145 w⟩
instance : BldT Tryd.prog 145 [(0, 0)] [] := ⟨fun parts => by kernel_rfl⟩
instance : TyT Tryd.prog 147 1 false := ⟨fun w => Tryd.isAgg147 w, fun w => Tryd.sizeOf147 w⟩
instance : MkI Tryd.prog 147 := ⟨fun v w => by kernel_rfl⟩
instance : IntT Tryd.prog 147 .u32 := ⟨Tryd.underlying147⟩
instance : ZvT Tryd.prog 147 (.int .u32 0) := ⟨fun w => Tryd.zeroValue147 w⟩
instance : TyT Tryd.prog 148 1 false := ⟨fun w => Tryd.isAgg148 w, fun w => Tryd.sizeOf148 w⟩
instance : MkI Tryd.prog 148 := ⟨fun v w => by kernel_rfl⟩
instance : IntT Tryd.prog 148 .u8 := ⟨Tryd.underlying148⟩
instance : ZvT Tryd.prog 148 (.int .u8 0) := ⟨fun w => Tryd.zeroValue148 w⟩
instance : TyT Tryd.prog 150 1 false := ⟨fun w => Tryd.isAgg150 w, fun w => Tryd.sizeOf150 w⟩
instance : MkI Tryd.prog 150 := ⟨fun v w => by kernel_rfl⟩
instance : ZvT Tryd.prog 150 (.pointer none) := ⟨fun w => Tryd.zeroValue150 w⟩
instance : TyT Tryd.prog 151 1 false := ⟨fun w => Tryd.isAgg151 w, fun w => Tryd.sizeOf151 w⟩
instance : MkI Tryd.prog 151 := ⟨fun v w => by kernel_rfl⟩
instance : IntT Tryd.prog 151 .i32 := ⟨Tryd.underlying151⟩
instance : ZvT Tryd.prog 151 (.int .i32 0) := ⟨fun w => Tryd.zeroValue151 w⟩
instance : TyT Tryd.prog 152 1 false := ⟨fun w => Tryd.isAgg152 w, fun w => Tryd.sizeOf152 w⟩
instance : MkI Tryd.prog 152 := ⟨fun v w => by kernel_rfl⟩
instance : IntT Tryd.prog 152 .i32 := ⟨Tryd.underlying152⟩
instance : ZvT Tryd.prog 152 (.int .i32 0) := ⟨fun w => Tryd.zeroValue152 w⟩
instance : TyT Tryd.prog 153 11 true := ⟨fun w => Tryd.isAgg153 w, fun w => Tryd.sizeOf153 w⟩
instance : MkI Tryd.prog 153 := ⟨fun v w => by kernel_rfl⟩
instance : ZvT Tryd.prog 153 (.agg #[.int .u64 0, .int .u64 0, .int .u32 0, .int .u8 0, .int .u8 0, .int .u8 0, .int .u8 0, .nilFunc, .pointer none, .int .i32 0, .int .i32 0]) := ⟨fun w => Tryd.zeroValue153 w⟩
instance : FdT Tryd.prog 153 0 0 12 := ⟨fun a w => by kernel_rfl, fun cs w => by kernel_rfl⟩
instance : FdT Tryd.prog 153 1 1 12 := ⟨fun a w => by kernel_rfl, fun cs w => by kernel_rfl⟩
instance : FdT Tryd.prog 153 2 2 147 := ⟨fun a w => by kernel_rfl, fun cs w => by kernel_rfl⟩
instance : FdT Tryd.prog 153 3 3 148 := ⟨fun a w => by kernel_rfl, fun cs w => by kernel_rfl⟩
instance : FdT Tryd.prog 153 4 4 5 := ⟨fun a w => by kernel_rfl, fun cs w => by kernel_rfl⟩
instance : FdT Tryd.prog 153 5 5 5 := ⟨fun a w => by kernel_rfl, fun cs w => by kernel_rfl⟩
instance : FdT Tryd.prog 153 6 6 121 := ⟨fun a w => by kernel_rfl, fun cs w => by kernel_rfl⟩
instance : FdT Tryd.prog 153 8 8 150 := ⟨fun a w => by kernel_rfl, fun cs w => by kernel_rfl⟩
instance : FdT Tryd.prog 153 9 9 151 := ⟨fun a w => by kernel_rfl, fun cs w => by kernel_rfl⟩
instance : FdT Tryd.prog 153 10 10 152 := ⟨fun a w => by kernel_rfl, fun cs w => by kernel_rfl⟩
instance : TyT Tryd.prog 154 11 true := ⟨fun w => Tryd.isAgg154 w, fun w => Tryd.sizeOf154 w⟩
instance : MkI Tryd.prog 154 := ⟨fun v w => by kernel_rfl⟩
instance : ZvT Tryd.prog 154 (.agg #[.int .u64 0, .int .u64 0, .int .u32 0, .int .u8 0, .int .u8 0, .int .u8 0, .int .u8 0, .nilFunc, .pointer none, .int .i32 0, .int .i32 0]) := ⟨fun w => Tryd.zeroValue154 w⟩
instance : FdT Tryd.prog 154 0 0 12 := ⟨fun a w => by kernel_rfl, fun cs w => by kernel_rfl⟩
instance : FdT Tryd.prog 154 1 1 12 := ⟨fun a w => by kernel_rfl, fun cs w => by kernel_rfl⟩
instance : FdT Tryd.prog 154 2 2 147 := ⟨fun a w => by kernel_rfl, fun cs w => by kernel_rfl⟩
instance : FdT Tryd.prog 154 3 3 148 := ⟨fun a w => by kernel_rfl, fun cs w => by kernel_rfl⟩
instance : FdT Tryd.prog 154 4 4 5 := ⟨fun a w => by kernel_rfl, fun cs w => by kernel_rfl⟩
instance : FdT Tryd.prog 154 5 5 5 := ⟨fun a w => by kernel_rfl, fun cs w => by kernel_rfl⟩
instance : FdT Tryd.prog 154 6 6 121 := ⟨fun a w => by kernel_rfl, fun cs w => by kernel_rfl⟩
instance : FdT Tryd.prog 154 8 8 150 := ⟨fun a w => by kernel_rfl, fun cs w => by kernel_rfl⟩
instance : FdT Tryd.prog 154 9 9 151 := ⟨fun a w => by kernel_rfl, fun cs w => by kernel_rfl⟩
instance : FdT Tryd.prog 154 10 10 152 := ⟨fun a w => by kernel_rfl, fun cs w => by kernel_rfl⟩
instance : TyT Tryd.prog 157 2 true := ⟨fun w => Tryd.isAgg157 w, fun w => Tryd.sizeOf157 w⟩
instance : MkI Tryd.prog 157 := ⟨fun v w => by kernel_rfl⟩
instance : ZvT Tryd.prog 157 (.agg #[.string ⟨#[]⟩, .int .u8 0]) := ⟨fun w => Tryd.zeroValue157 w⟩
instance : FdT Tryd.prog 157 0 0 9 := ⟨fun a w => by kernel_rfl, fun cs w => by kernel_rfl⟩
instance : FdT Tryd.prog 157 1 1 121 := ⟨fun a w => by kernel_rfl, fun cs w => by kernel_rfl⟩
instance : BldT Tryd.prog 157 [(0, 1), (1, 1)] [.string ⟨#[]⟩, .int .u8 0] := ⟨fun parts => by kernel_rfl⟩
instance : TyT Tryd.prog 158 2 true := ⟨fun w => Tryd.isAgg158 w, fun w => Tryd.sizeOf158 w⟩
instance : MkI Tryd.prog 158 := ⟨fun v w => by kernel_rfl⟩
instance : ZvT Tryd.prog 158 (.agg #[.string ⟨#[]⟩, .int .u8 0]) := ⟨fun w => Tryd.zeroValue158 w⟩
instance : FdT Tryd.prog 158 0 0 9 := ⟨fun a w => by kernel_rfl, fun cs w => by kernel_rfl⟩
instance : FdT Tryd.prog 158 1 1 121 := ⟨fun a w => by kernel_rfl, fun cs w => by kernel_rfl⟩
instance : BldT Tryd.prog 158 [(0, 1), (1, 1)] [.string ⟨#[]⟩, .int .u8 0] := ⟨fun parts => by kernel_rfl⟩
instance : TyT Tryd.prog 159 1 false := ⟨fun w => Tryd.isAgg159 w, fun w => Tryd.sizeOf159 w⟩
instance : MkI Tryd.prog 159 := ⟨fun v w => by kernel_rfl⟩
instance : ZvT Tryd.prog 159 (.pointer none) := ⟨fun w => Tryd.zeroValue159 w⟩
instance : TyT Tryd.prog 161 1 false := ⟨fun w => Tryd.isAgg161 w, fun w => Tryd.sizeOf161 w⟩
instance : MkI Tryd.prog 161 := ⟨fun v w => by kernel_rfl⟩
instance : IntT Tryd.prog 161 .u16 := ⟨Tryd.underlying161⟩
instance : ZvT Tryd.prog 161 (.int .u16 0) := ⟨fun w => Tryd.zeroValue161 w⟩
instance : TyT Tryd.prog 162 5 true := ⟨fun w => Tryd.isAgg162 w, fun w => Tryd.sizeOf162 w⟩
instance : MkI Tryd.prog 162 := ⟨fun v w => by kernel_rfl⟩
instance : ZvT Tryd.prog 162 (.agg #[.int .i32 0, .int .u16 0, .int .u16 0, .int .u32 0, .int .u32 0]) := ⟨fun w => Tryd.zeroValue162 w⟩
instance : FdT Tryd.prog 162 0 0 151 := ⟨fun a w => by kernel_rfl, fun cs w => by kernel_rfl⟩
instance : FdT Tryd.prog 162 1 1 161 := ⟨fun a w => by kernel_rfl, fun cs w => by kernel_rfl⟩
instance : FdT Tryd.prog 162 2 2 161 := ⟨fun a w => by kernel_rfl, fun cs w => by kernel_rfl⟩
instance : FdT Tryd.prog 162 3 3 147 := ⟨fun a w => by kernel_rfl, fun cs w => by kernel_rfl⟩
instance : FdT Tryd.prog 162 4 4 147 := ⟨fun a w => by kernel_rfl, fun cs w => by kernel_rfl⟩
instance : BldT Tryd.prog 162 [(0, 1), (1, 1), (2, 1), (3, 1), (4, 1)] [.int .i32 0, .int .u16 0, .int .u16 0, .int .u32 0, .int .u32 0] := ⟨fun parts => by kernel_rfl⟩
instance : TyT Tryd.prog 163 5 true := ⟨fun w => Tryd.isAgg163 w, fun w => Tryd.sizeOf163 w⟩
instance : MkI Tryd.prog 163 := ⟨fun v w => by kernel_rfl⟩
instance : ZvT Tryd.prog 163 (.agg #[.int .i32 0, .int .u16 0, .int .u16 0, .int .u32 0, .int .u32 0]) := ⟨fun w => Tryd.zeroValue163 w⟩
instance : FdT Tryd.prog 163 0 0 151 := ⟨fun a w => by kernel_rfl, fun cs w => by kernel_rfl⟩
instance : FdT Tryd.prog 163 1 1 161 := ⟨fun a w => by kernel_rfl, fun cs w => by kernel_rfl⟩
instance : FdT Tryd.prog 163 2 2 161 := ⟨fun a w => by kernel_rfl, fun cs w => by kernel_rfl⟩
instance : FdT Tryd.prog 163 3 3 147 := ⟨fun a w => by kernel_rfl, fun cs w => by kernel_rfl⟩
instance : FdT Tryd.prog 163 4 4 147 := ⟨fun a w => by kernel_rfl, fun cs w => by kernel_rfl⟩
instance : BldT Tryd.prog 163 [(0, 1), (1, 1), (2, 1), (3, 1), (4, 1)] [.int .i32 0, .int .u16 0, .int .u16 0, .int .u32 0, .int .u32 0] := ⟨fun parts => by kernel_rfl⟩
instance : TyT Tryd.prog 164 1 false := ⟨fun w => Tryd.isAgg164 w, fun w => Tryd.sizeOf164 w⟩
instance : MkI Tryd.prog 164 := ⟨fun v w => by kernel_rfl⟩
instance : ZvT Tryd.prog 164 (.slice none 0 0) := ⟨fun w => Tryd.zeroValue164 w⟩
instance : SlT Tryd.prog 164 167 4 16 (.agg #[.int .i32 0, .int .i32 0, .int .i32 0, .int .i32 0]) := ⟨by kernel_rfl, by kernel_rfl, rfl, by decide, by decide⟩
instance : TyT Tryd.prog 165 1 false := ⟨fun w => Tryd.isAgg165 w, fun w => Tryd.sizeOf165 w⟩
instance : MkI Tryd.prog 165 := ⟨fun v w => by kernel_rfl⟩
instance : IntT Tryd.prog 165 .i32 := ⟨Tryd.underlying165⟩
instance : ZvT Tryd.prog 165 (.int .i32 0) := ⟨fun w => Tryd.zeroValue165 w⟩
instance : TyT Tryd.prog 166 4 true := ⟨fun w => Tryd.isAgg166 w, fun w => Tryd.sizeOf166 w⟩
instance : MkI Tryd.prog 166 := ⟨fun v w => by kernel_rfl⟩
instance : ZvT Tryd.prog 166 (.agg #[.int .i32 0, .int .i32 0, .int .i32 0, .int .i32 0]) := ⟨fun w => Tryd.zeroValue166 w⟩
instance : FdT Tryd.prog 166 0 0 151 := ⟨fun a w => by kernel_rfl, fun cs w => by kernel_rfl⟩
instance : FdT Tryd.prog 166 1 1 152 := ⟨fun a w => by kernel_rfl, fun cs w => by kernel_rfl⟩
instance : FdT Tryd.prog 166 2 2 165 := ⟨fun a w => by kernel_rfl, fun cs w => by kernel_rfl⟩
instance : FdT Tryd.prog 166 3 3 165 := ⟨fun a w => by kernel_rfl, fun cs w => by kernel_rfl⟩
instance : BldT Tryd.prog 166 [(0, 1), (1, 1), (2, 1), (3, 1)] [.int .i32 0, .int .i32 0, .int .i32 0, .int .i32 0] := ⟨fun parts => by kernel_rfl⟩
instance : TyT Tryd.prog 167 4 true := ⟨fun w => Tryd.isAgg167 w, fun w => Tryd.sizeOf167 w⟩
instance : MkI Tryd.prog 167 := ⟨fun v w => by kernel_rfl⟩
instance : ZvT Tryd.prog 167 (.agg #[.int .i32 0, .int .i32 0, .int .i32 0, .int .i32 0]) := ⟨fun w => Tryd.zeroValue167 w⟩
instance : FdT Tryd.prog 167 0 0 151 := ⟨fun a w => by kernel_rfl, fun cs w => by kernel_rfl⟩
instance : FdT Tryd.prog 167 1 1 152 := ⟨fun a w => by kernel_rfl, fun cs w => by kernel_rfl⟩
instance : FdT Tryd.prog 167 2 2 165 := ⟨fun a w => by kernel_rfl, fun cs w => by kernel_rfl⟩
instance : FdT Tryd.prog 167 3 3 165 := ⟨fun a w => by kernel_rfl, fun cs w => by kernel_rfl⟩
instance : BldT Tryd.prog 167 [(0, 1), (1, 1), (2, 1), (3, 1)] [.int .i32 0, .int .i32 0, .int .i32 0, .int .i32 0] := ⟨fun parts => by kernel_rfl⟩
instance : TyT Tryd.prog 168 1 false := ⟨fun w => Tryd.isAgg168 w, fun w => Tryd.sizeOf168 w⟩
instance : MkI Tryd.prog 168 := ⟨fun v w => by kernel_rfl⟩
instance : ZvT Tryd.prog 168 (.pointer none) := ⟨fun w => Tryd.zeroValue168 w⟩
/- Functions with a body. -/
instance : CalT Tryd.prog 2 := ⟨fun args w => Tryd.call2 args w⟩
instance : CalT Tryd.prog 3 := ⟨fun args w => Tryd.call3 args w⟩
instance : CalT Tryd.prog 4 := ⟨fun args w => Tryd.call4 args w⟩
instance : CalT Tryd.prog 5 := ⟨fun args w => Tryd.call5 args w⟩
instance : CalT Tryd.prog 6 := ⟨fun args w => Tryd.call6 args w⟩
instance : CalT Tryd.prog 7 := ⟨fun args w => Tryd.call7 args w⟩
instance : CalT Tryd.prog 8 := ⟨fun args w => Tryd.call8 args w⟩
instance : CalT Tryd.prog 9 := ⟨fun args w => Tryd.call9 args w⟩
instance : CalT Tryd.prog 10 := ⟨fun args w => Tryd.call10 args w⟩
instance : CalT Tryd.prog 11 := ⟨fun args w => Tryd.call11 args w⟩
instance : CalT Tryd.prog 12 := ⟨fun args w => Tryd.call12 args w⟩
instance : CalT Tryd.prog 13 := ⟨fun args w => Tryd.call13 args w⟩
instance : CalT Tryd.prog 14 := ⟨fun args w => Tryd.call14 args w⟩
instance : CalT Tryd.prog 15 := ⟨fun args w => Tryd.call15 args w⟩
instance : CalT Tryd.prog 16 := ⟨fun args w => Tryd.call16 args w⟩
instance : CalT Tryd.prog 17 := ⟨fun args w => Tryd.call17 args w⟩
instance : CalT Tryd.prog 18 := ⟨fun args w => Tryd.call18 args w⟩
instance : CalT Tryd.prog 19 := ⟨fun args w => Tryd.call19 args w⟩
instance : CalT Tryd.prog 20 := ⟨fun args w => Tryd.call20 args w⟩
instance : CalT Tryd.prog 21 := ⟨fun args w => Tryd.call21 args w⟩
instance : CalT Tryd.prog 22 := ⟨fun args w => Tryd.call22 args w⟩
instance : CalT Tryd.prog 23 := ⟨fun args w => Tryd.call23 args w⟩
instance : CalT Tryd.prog 24 := ⟨fun args w => Tryd.call24 args w⟩
instance : CalT Tryd.prog 25 := ⟨fun args w => Tryd.call25 args w⟩
instance : CalT Tryd.prog 26 := ⟨fun args w => Tryd.call26 args w⟩
instance : CalT Tryd.prog 27 := ⟨fun args w => Tryd.call27 args w⟩
instance : CalT Tryd.prog 28 := ⟨fun args w => Tryd.call28 args w⟩
instance : CalT Tryd.prog 29 := ⟨fun args w => Tryd.call29 args w⟩
instance : CalT Tryd.prog 30 := ⟨fun args w => Tryd.call30 args w⟩
instance : CalT Tryd.prog 31 := ⟨fun args w => Tryd.call31 args w⟩
instance : CalT Tryd.prog 32 := ⟨fun args w => Tryd.call32 args w⟩
instance : CalT Tryd.prog 33 := ⟨fun args w => Tryd.call33 args w⟩
instance : CalT Tryd.prog 34 := ⟨fun args w => Tryd.call34 args w⟩
instance : CalT Tryd.prog 35 := ⟨fun args w => Tryd.call35 args w⟩
instance : CalT Tryd.prog 36 := ⟨fun args w => Tryd.call36 args w⟩
instance : CalT Tryd.prog 37 := ⟨fun args w => Tryd.call37 args w⟩
instance : CalT Tryd.prog 38 := ⟨fun args w => Tryd.call38 args w⟩
instance : CalT Tryd.prog 39 := ⟨fun args w => Tryd.call39 args w⟩
instance : CalT Tryd.prog 40 := ⟨fun args w => Tryd.call40 args w⟩
instance : CalT Tryd.prog 41 := ⟨fun args w => Tryd.call41 args w⟩
instance : CalT Tryd.prog 42 := ⟨fun args w => Tryd.call42 args w⟩
instance : CalT Tryd.prog 43 := ⟨fun args w => Tryd.call43 args w⟩
instance : CalT Tryd.prog 44 := ⟨fun args w => Tryd.call44 args w⟩
instance : CalT Tryd.prog 45 := ⟨fun args w => Tryd.call45 args w⟩
instance : CalT Tryd.prog 46 := ⟨fun args w => Tryd.call46 args w⟩
instance : CalT Tryd.prog 47 := ⟨fun args w => Tryd.call47 args w⟩
instance : CalT Tryd.prog 48 := ⟨fun args w => Tryd.call48 args w⟩
instance : CalT Tryd.prog 49 := ⟨fun args w => Tryd.call49 args w⟩
instance : CalT Tryd.prog 50 := ⟨fun args w => Tryd.call50 args w⟩
instance : CalT Tryd.prog 51 := ⟨fun args w => Tryd.call51 args w⟩
instance : CalT Tryd.prog 52 := ⟨fun args w => Tryd.call52 args w⟩
instance : CalT Tryd.prog 53 := ⟨fun args w => Tryd.call53 args w⟩
instance : CalT Tryd.prog 54 := ⟨fun args w => Tryd.call54 args w⟩
instance : CalT Tryd.prog 55 := ⟨fun args w => Tryd.call55 args w⟩
instance : CalT Tryd.prog 56 := ⟨fun args w => Tryd.call56 args w⟩
instance : CalT Tryd.prog 57 := ⟨fun args w => Tryd.call57 args w⟩
instance : CalT Tryd.prog 58 := ⟨fun args w => Tryd.call58 args w⟩
instance : CalT Tryd.prog 59 := ⟨fun args w => Tryd.call59 args w⟩
instance : CalT Tryd.prog 60 := ⟨fun args w => Tryd.call60 args w⟩
instance : CalT Tryd.prog 61 := ⟨fun args w => Tryd.call61 args w⟩
instance : CalT Tryd.prog 62 := ⟨fun args w => Tryd.call62 args w⟩
instance : CalT Tryd.prog 66 := ⟨fun args w => Tryd.call66 args w⟩
instance : CalT Tryd.prog 106 := ⟨fun args w => Tryd.call106 args w⟩
end Go.Proofs.YtlmhhnodhgmmdaaDoor
