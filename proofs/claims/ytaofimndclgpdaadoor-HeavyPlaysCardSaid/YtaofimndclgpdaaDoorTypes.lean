/- The seat's types and functions, as instances. Printed by wip/tools/types.py. -/
import Derived.Test.YtaofimndclgpdaaDoorEngB
import Derived.Test.YtaofimndclgpdaaDoorProg
import Derived.KernelRfl
namespace Go.Proofs.YtaofimndclgpdaaDoor
open Go.Port
instance : TyT Tryd.prog 2 1 false := ⟨fun w => Tryd.isAgg2 w, fun w => Tryd.sizeOf2 w⟩
instance : MkI Tryd.prog 2 := ⟨fun v w => by kernel_rfl⟩
instance : IntT Tryd.prog 2 .i64 := ⟨Tryd.underlying2⟩
instance : ZvT Tryd.prog 2 (.int .i64 0) := ⟨fun w => Tryd.zeroValue2 w⟩
instance : TyT Tryd.prog 3 1 false := ⟨fun w => Tryd.isAgg3 w, fun w => Tryd.sizeOf3 w⟩
instance : MkI Tryd.prog 3 := ⟨fun v w => by kernel_rfl⟩
instance : IntT Tryd.prog 3 .i64 := ⟨Tryd.underlying3⟩
instance : ZvT Tryd.prog 3 (.int .i64 0) := ⟨fun w => Tryd.zeroValue3 w⟩
instance : TyT Tryd.prog 4 1 false := ⟨fun w => Tryd.isAgg4 w, fun w => Tryd.sizeOf4 w⟩
instance : MkI Tryd.prog 4 := ⟨fun v w => by kernel_rfl⟩
instance : ZvT Tryd.prog 4 (.bool false) := ⟨fun w => Tryd.zeroValue4 w⟩
instance : TyT Tryd.prog 5 1 false := ⟨fun w => Tryd.isAgg5 w, fun w => Tryd.sizeOf5 w⟩
instance : MkI Tryd.prog 5 := ⟨fun v w => by kernel_rfl⟩
instance : IntT Tryd.prog 5 .u8 := ⟨Tryd.underlying5⟩
instance : ZvT Tryd.prog 5 (.int .u8 0) := ⟨fun w => Tryd.zeroValue5 w⟩
instance : TyT Tryd.prog 6 1 false := ⟨fun w => Tryd.isAgg6 w, fun w => Tryd.sizeOf6 w⟩
instance : MkI Tryd.prog 6 := ⟨fun v w => by kernel_rfl⟩
instance : IntT Tryd.prog 6 .u8 := ⟨Tryd.underlying6⟩
instance : ZvT Tryd.prog 6 (.int .u8 0) := ⟨fun w => Tryd.zeroValue6 w⟩
instance : TyT Tryd.prog 7 4 true := ⟨fun w => Tryd.isAgg7 w, fun w => Tryd.sizeOf7 w⟩
instance : MkI Tryd.prog 7 := ⟨fun v w => by kernel_rfl⟩
instance : ZvT Tryd.prog 7 (.agg #[.int .i64 0, .int .i64 0, .bool false, .int .u8 0]) := ⟨fun w => Tryd.zeroValue7 w⟩
instance : FdT Tryd.prog 7 0 0 2 := ⟨fun a w => by kernel_rfl, fun cs w => by kernel_rfl⟩
instance : FdT Tryd.prog 7 1 1 3 := ⟨fun a w => by kernel_rfl, fun cs w => by kernel_rfl⟩
instance : FdT Tryd.prog 7 2 2 4 := ⟨fun a w => by kernel_rfl, fun cs w => by kernel_rfl⟩
instance : FdT Tryd.prog 7 3 3 6 := ⟨fun a w => by kernel_rfl, fun cs w => by kernel_rfl⟩
instance : BldT Tryd.prog 7 [(0, 1), (1, 1), (2, 1), (3, 1)] [.int .i64 0, .int .i64 0, .bool false, .int .u8 0] := ⟨fun parts => by kernel_rfl⟩
instance : TyT Tryd.prog 8 4 true := ⟨fun w => Tryd.isAgg8 w, fun w => Tryd.sizeOf8 w⟩
instance : MkI Tryd.prog 8 := ⟨fun v w => by kernel_rfl⟩
instance : ZvT Tryd.prog 8 (.agg #[.int .i64 0, .int .i64 0, .bool false, .int .u8 0]) := ⟨fun w => Tryd.zeroValue8 w⟩
instance : FdT Tryd.prog 8 0 0 2 := ⟨fun a w => by kernel_rfl, fun cs w => by kernel_rfl⟩
instance : FdT Tryd.prog 8 1 1 3 := ⟨fun a w => by kernel_rfl, fun cs w => by kernel_rfl⟩
instance : FdT Tryd.prog 8 2 2 4 := ⟨fun a w => by kernel_rfl, fun cs w => by kernel_rfl⟩
instance : FdT Tryd.prog 8 3 3 6 := ⟨fun a w => by kernel_rfl, fun cs w => by kernel_rfl⟩
instance : BldT Tryd.prog 8 [(0, 1), (1, 1), (2, 1), (3, 1)] [.int .i64 0, .int .i64 0, .bool false, .int .u8 0] := ⟨fun parts => by kernel_rfl⟩
instance : TyT Tryd.prog 9 1 false := ⟨fun w => Tryd.isAgg9 w, fun w => Tryd.sizeOf9 w⟩
instance : MkI Tryd.prog 9 := ⟨fun v w => by kernel_rfl⟩
instance : StrT Tryd.prog 9 := ⟨Tryd.underlying9⟩
instance : ZvT Tryd.prog 9 (.string ⟨#[]⟩) := ⟨fun w => Tryd.zeroValue9 w⟩
instance : TyT Tryd.prog 10 1 false := ⟨fun w => Tryd.isAgg10 w, fun w => Tryd.sizeOf10 w⟩
instance : MkI Tryd.prog 10 := ⟨fun v w => by kernel_rfl⟩
instance : StrT Tryd.prog 10 := ⟨Tryd.underlying10⟩
instance : ZvT Tryd.prog 10 (.string ⟨#[]⟩) := ⟨fun w => Tryd.zeroValue10 w⟩
instance : TyT Tryd.prog 11 1 false := ⟨fun w => Tryd.isAgg11 w, fun w => Tryd.sizeOf11 w⟩
instance : MkI Tryd.prog 11 := ⟨fun v w => by kernel_rfl⟩
instance : StrT Tryd.prog 11 := ⟨Tryd.underlying11⟩
instance : ZvT Tryd.prog 11 (.string ⟨#[]⟩) := ⟨fun w => Tryd.zeroValue11 w⟩
instance : TyT Tryd.prog 12 1 false := ⟨fun w => Tryd.isAgg12 w, fun w => Tryd.sizeOf12 w⟩
instance : MkI Tryd.prog 12 := ⟨fun v w => by kernel_rfl⟩
instance : IntT Tryd.prog 12 .u64 := ⟨Tryd.underlying12⟩
instance : ZvT Tryd.prog 12 (.int .u64 0) := ⟨fun w => Tryd.zeroValue12 w⟩
instance : TyT Tryd.prog 13 2 true := ⟨fun w => Tryd.isAgg13 w, fun w => Tryd.sizeOf13 w⟩
instance : MkI Tryd.prog 13 := ⟨fun v w => by kernel_rfl⟩
instance : ZvT Tryd.prog 13 (.agg #[.string ⟨#[]⟩, .int .u64 0]) := ⟨fun w => Tryd.zeroValue13 w⟩
instance : FdT Tryd.prog 13 0 0 9 := ⟨fun a w => by kernel_rfl, fun cs w => by kernel_rfl⟩
instance : FdT Tryd.prog 13 1 1 12 := ⟨fun a w => by kernel_rfl, fun cs w => by kernel_rfl⟩
instance : BldT Tryd.prog 13 [(0, 1), (1, 1)] [.string ⟨#[]⟩, .int .u64 0] := ⟨fun parts => by kernel_rfl⟩
instance : TyT Tryd.prog 14 2 true := ⟨fun w => Tryd.isAgg14 w, fun w => Tryd.sizeOf14 w⟩
instance : MkI Tryd.prog 14 := ⟨fun v w => by kernel_rfl⟩
instance : ZvT Tryd.prog 14 (.agg #[.string ⟨#[]⟩, .int .u64 0]) := ⟨fun w => Tryd.zeroValue14 w⟩
instance : FdT Tryd.prog 14 0 0 9 := ⟨fun a w => by kernel_rfl, fun cs w => by kernel_rfl⟩
instance : FdT Tryd.prog 14 1 1 12 := ⟨fun a w => by kernel_rfl, fun cs w => by kernel_rfl⟩
instance : BldT Tryd.prog 14 [(0, 1), (1, 1)] [.string ⟨#[]⟩, .int .u64 0] := ⟨fun parts => by kernel_rfl⟩
instance : TyT Tryd.prog 15 1 false := ⟨fun w => Tryd.isAgg15 w, fun w => Tryd.sizeOf15 w⟩
instance : MkI Tryd.prog 15 := ⟨fun v w => by kernel_rfl⟩
instance : ZvT Tryd.prog 15 (.pointer none) := ⟨fun w => Tryd.zeroValue15 w⟩
instance : TyT Tryd.prog 16 1 false := ⟨fun w => Tryd.isAgg16 w, fun w => Tryd.sizeOf16 w⟩
instance : MkI Tryd.prog 16 := ⟨fun v w => by kernel_rfl⟩
instance : ZvT Tryd.prog 16 (.pointer none) := ⟨fun w => Tryd.zeroValue16 w⟩
instance : TyT Tryd.prog 17 1 false := ⟨fun w => Tryd.isAgg17 w, fun w => Tryd.sizeOf17 w⟩
instance : MkI Tryd.prog 17 := ⟨fun v w => by kernel_rfl⟩
instance : ZvT Tryd.prog 17 (.pointer none) := ⟨fun w => Tryd.zeroValue17 w⟩
instance : TyT Tryd.prog 18 1 true := ⟨fun w => Tryd.isAgg18 w, fun w => Tryd.sizeOf18 w⟩
instance : MkI Tryd.prog 18 := ⟨fun v w => by kernel_rfl⟩
instance : ZvT Tryd.prog 18 (.agg #[.pointer none]) := ⟨fun w => Tryd.zeroValue18 w⟩
instance : FdT Tryd.prog 18 0 0 17 := ⟨fun a w => by kernel_rfl, fun cs w => by kernel_rfl⟩
instance : BldT Tryd.prog 18 [(0, 1)] [.pointer none] := ⟨fun parts => by kernel_rfl⟩
instance : TyT Tryd.prog 19 1 true := ⟨fun w => Tryd.isAgg19 w, fun w => Tryd.sizeOf19 w⟩
instance : MkI Tryd.prog 19 := ⟨fun v w => by kernel_rfl⟩
instance : ZvT Tryd.prog 19 (.agg #[.pointer none]) := ⟨fun w => Tryd.zeroValue19 w⟩
instance : FdT Tryd.prog 19 0 0 17 := ⟨fun a w => by kernel_rfl, fun cs w => by kernel_rfl⟩
instance : BldT Tryd.prog 19 [(0, 1)] [.pointer none] := ⟨fun parts => by kernel_rfl⟩
instance : TyT Tryd.prog 20 1 false := ⟨fun w => Tryd.isAgg20 w, fun w => Tryd.sizeOf20 w⟩
instance : IfT Tryd.prog 20 := ⟨⟨_, Tryd.underlying20⟩⟩
instance : ZvT Tryd.prog 20 (.nilIface) := ⟨fun w => Tryd.zeroValue20 w⟩
instance : TyT Tryd.prog 21 1 false := ⟨fun w => Tryd.isAgg21 w, fun w => Tryd.sizeOf21 w⟩
instance : MkI Tryd.prog 21 := ⟨fun v w => by kernel_rfl⟩
instance : IntT Tryd.prog 21 .i32 := ⟨Tryd.underlying21⟩
instance : ZvT Tryd.prog 21 (.int .i32 0) := ⟨fun w => Tryd.zeroValue21 w⟩
instance : TyT Tryd.prog 22 1 false := ⟨fun w => Tryd.isAgg22 w, fun w => Tryd.sizeOf22 w⟩
instance : MkI Tryd.prog 22 := ⟨fun v w => by kernel_rfl⟩
instance : ZvT Tryd.prog 22 (.slice none 0 0) := ⟨fun w => Tryd.zeroValue22 w⟩
instance : SlT Tryd.prog 22 34 2 16 (.agg #[.int .i64 0, .int .i64 0]) := ⟨by kernel_rfl, by kernel_rfl, rfl, by decide, by decide⟩
instance : TyT Tryd.prog 23 1 false := ⟨fun w => Tryd.isAgg23 w, fun w => Tryd.sizeOf23 w⟩
instance : MkI Tryd.prog 23 := ⟨fun v w => by kernel_rfl⟩
instance : ZvT Tryd.prog 23 (.pointer none) := ⟨fun w => Tryd.zeroValue23 w⟩
instance : TyT Tryd.prog 24 1 false := ⟨fun w => Tryd.isAgg24 w, fun w => Tryd.sizeOf24 w⟩
instance : IfT Tryd.prog 24 := ⟨⟨_, Tryd.underlying24⟩⟩
instance : ZvT Tryd.prog 24 (.nilIface) := ⟨fun w => Tryd.zeroValue24 w⟩
instance : TyT Tryd.prog 25 1 false := ⟨fun w => Tryd.isAgg25 w, fun w => Tryd.sizeOf25 w⟩
instance : IfT Tryd.prog 25 := ⟨⟨_, Tryd.underlying25⟩⟩
instance : ZvT Tryd.prog 25 (.nilIface) := ⟨fun w => Tryd.zeroValue25 w⟩
instance : TyT Tryd.prog 29 1 false := ⟨fun w => Tryd.isAgg29 w, fun w => Tryd.sizeOf29 w⟩
instance : MkI Tryd.prog 29 := ⟨fun v w => by kernel_rfl⟩
instance : ZvT Tryd.prog 29 (.pointer none) := ⟨fun w => Tryd.zeroValue29 w⟩
instance : TyT Tryd.prog 30 1 false := ⟨fun w => Tryd.isAgg30 w, fun w => Tryd.sizeOf30 w⟩
instance : MkI Tryd.prog 30 := ⟨fun v w => by kernel_rfl⟩
instance : ZvT Tryd.prog 30 (.slice none 0 0) := ⟨fun w => Tryd.zeroValue30 w⟩
instance : SlT Tryd.prog 30 37 3 24 (.agg #[.int .i64 0, .int .i64 0, .int .i64 0]) := ⟨by kernel_rfl, by kernel_rfl, rfl, by decide, by decide⟩
instance : TyT Tryd.prog 31 4 true := ⟨fun w => Tryd.isAgg31 w, fun w => Tryd.sizeOf31 w⟩
instance : MkI Tryd.prog 31 := ⟨fun v w => by kernel_rfl⟩
instance : ZvT Tryd.prog 31 (.agg #[.int .i64 0, .int .i64 0, .int .i64 0, .slice none 0 0]) := ⟨fun w => Tryd.zeroValue31 w⟩
instance : FdT Tryd.prog 31 0 0 3 := ⟨fun a w => by kernel_rfl, fun cs w => by kernel_rfl⟩
instance : FdT Tryd.prog 31 1 1 3 := ⟨fun a w => by kernel_rfl, fun cs w => by kernel_rfl⟩
instance : FdT Tryd.prog 31 2 2 3 := ⟨fun a w => by kernel_rfl, fun cs w => by kernel_rfl⟩
instance : FdT Tryd.prog 31 3 3 30 := ⟨fun a w => by kernel_rfl, fun cs w => by kernel_rfl⟩
instance : BldT Tryd.prog 31 [(0, 1), (1, 1), (2, 1), (3, 1)] [.int .i64 0, .int .i64 0, .int .i64 0, .slice none 0 0] := ⟨fun parts => by kernel_rfl⟩
instance : TyT Tryd.prog 32 4 true := ⟨fun w => Tryd.isAgg32 w, fun w => Tryd.sizeOf32 w⟩
instance : MkI Tryd.prog 32 := ⟨fun v w => by kernel_rfl⟩
instance : ZvT Tryd.prog 32 (.agg #[.int .i64 0, .int .i64 0, .int .i64 0, .slice none 0 0]) := ⟨fun w => Tryd.zeroValue32 w⟩
instance : FdT Tryd.prog 32 0 0 3 := ⟨fun a w => by kernel_rfl, fun cs w => by kernel_rfl⟩
instance : FdT Tryd.prog 32 1 1 3 := ⟨fun a w => by kernel_rfl, fun cs w => by kernel_rfl⟩
instance : FdT Tryd.prog 32 2 2 3 := ⟨fun a w => by kernel_rfl, fun cs w => by kernel_rfl⟩
instance : FdT Tryd.prog 32 3 3 30 := ⟨fun a w => by kernel_rfl, fun cs w => by kernel_rfl⟩
instance : BldT Tryd.prog 32 [(0, 1), (1, 1), (2, 1), (3, 1)] [.int .i64 0, .int .i64 0, .int .i64 0, .slice none 0 0] := ⟨fun parts => by kernel_rfl⟩
instance : TyT Tryd.prog 34 2 true := ⟨fun w => Tryd.isAgg34 w, fun w => Tryd.sizeOf34 w⟩
instance : MkI Tryd.prog 34 := ⟨fun v w => by kernel_rfl⟩
instance : ZvT Tryd.prog 34 (.agg #[.int .i64 0, .int .i64 0]) := ⟨fun w => Tryd.zeroValue34 w⟩
instance : ArT Tryd.prog 34 2 3 1 := ⟨Tryd.underlying34, fun w => Tryd.sizeOf3 w⟩
instance : TyT Tryd.prog 36 3 true := ⟨fun w => Tryd.isAgg36 w, fun w => Tryd.sizeOf36 w⟩
instance : MkI Tryd.prog 36 := ⟨fun v w => by kernel_rfl⟩
instance : ZvT Tryd.prog 36 (.agg #[.int .i64 0, .int .i64 0, .int .i64 0]) := ⟨fun w => Tryd.zeroValue36 w⟩
instance : FdT Tryd.prog 36 0 0 3 := ⟨fun a w => by kernel_rfl, fun cs w => by kernel_rfl⟩
instance : FdT Tryd.prog 36 1 1 3 := ⟨fun a w => by kernel_rfl, fun cs w => by kernel_rfl⟩
instance : FdT Tryd.prog 36 2 2 3 := ⟨fun a w => by kernel_rfl, fun cs w => by kernel_rfl⟩
instance : BldT Tryd.prog 36 [(0, 1), (1, 1), (2, 1)] [.int .i64 0, .int .i64 0, .int .i64 0] := ⟨fun parts => by kernel_rfl⟩
instance : TyT Tryd.prog 37 3 true := ⟨fun w => Tryd.isAgg37 w, fun w => Tryd.sizeOf37 w⟩
instance : MkI Tryd.prog 37 := ⟨fun v w => by kernel_rfl⟩
instance : ZvT Tryd.prog 37 (.agg #[.int .i64 0, .int .i64 0, .int .i64 0]) := ⟨fun w => Tryd.zeroValue37 w⟩
instance : FdT Tryd.prog 37 0 0 3 := ⟨fun a w => by kernel_rfl, fun cs w => by kernel_rfl⟩
instance : FdT Tryd.prog 37 1 1 3 := ⟨fun a w => by kernel_rfl, fun cs w => by kernel_rfl⟩
instance : FdT Tryd.prog 37 2 2 3 := ⟨fun a w => by kernel_rfl, fun cs w => by kernel_rfl⟩
instance : BldT Tryd.prog 37 [(0, 1), (1, 1), (2, 1)] [.int .i64 0, .int .i64 0, .int .i64 0] := ⟨fun parts => by kernel_rfl⟩
instance : TyT Tryd.prog 47 1 false := ⟨fun w => Tryd.isAgg47 w, fun w => Tryd.sizeOf47 w⟩
instance : MkI Tryd.prog 47 := ⟨fun v w => by kernel_rfl⟩
instance : IntT Tryd.prog 47 .i64 := ⟨Tryd.underlying47⟩
instance : ZvT Tryd.prog 47 (.int .i64 0) := ⟨fun w => Tryd.zeroValue47 w⟩
instance : TyT Tryd.prog 48 1 false := ⟨fun w => Tryd.isAgg48 w, fun w => Tryd.sizeOf48 w⟩
instance : MkI Tryd.prog 48 := ⟨fun v w => by kernel_rfl⟩
instance : ZvT Tryd.prog 48 (.map none) := ⟨fun w => Tryd.zeroValue48 w⟩
instance : TyT Tryd.prog 49 4 true := ⟨fun w => Tryd.isAgg49 w, fun w => Tryd.sizeOf49 w⟩
instance : MkI Tryd.prog 49 := ⟨fun v w => by kernel_rfl⟩
instance : ZvT Tryd.prog 49 (.agg #[.int .i64 0, .int .i64 0, .int .i64 0, .map none]) := ⟨fun w => Tryd.zeroValue49 w⟩
instance : FdT Tryd.prog 49 0 0 3 := ⟨fun a w => by kernel_rfl, fun cs w => by kernel_rfl⟩
instance : FdT Tryd.prog 49 1 1 3 := ⟨fun a w => by kernel_rfl, fun cs w => by kernel_rfl⟩
instance : FdT Tryd.prog 49 2 2 3 := ⟨fun a w => by kernel_rfl, fun cs w => by kernel_rfl⟩
instance : FdT Tryd.prog 49 3 3 48 := ⟨fun a w => by kernel_rfl, fun cs w => by kernel_rfl⟩
instance : BldT Tryd.prog 49 [(0, 1), (1, 1), (2, 1), (3, 1)] [.int .i64 0, .int .i64 0, .int .i64 0, .map none] := ⟨fun parts => by kernel_rfl⟩
instance : TyT Tryd.prog 50 4 true := ⟨fun w => Tryd.isAgg50 w, fun w => Tryd.sizeOf50 w⟩
instance : MkI Tryd.prog 50 := ⟨fun v w => by kernel_rfl⟩
instance : ZvT Tryd.prog 50 (.agg #[.int .i64 0, .int .i64 0, .int .i64 0, .map none]) := ⟨fun w => Tryd.zeroValue50 w⟩
instance : FdT Tryd.prog 50 0 0 3 := ⟨fun a w => by kernel_rfl, fun cs w => by kernel_rfl⟩
instance : FdT Tryd.prog 50 1 1 3 := ⟨fun a w => by kernel_rfl, fun cs w => by kernel_rfl⟩
instance : FdT Tryd.prog 50 2 2 3 := ⟨fun a w => by kernel_rfl, fun cs w => by kernel_rfl⟩
instance : FdT Tryd.prog 50 3 3 48 := ⟨fun a w => by kernel_rfl, fun cs w => by kernel_rfl⟩
instance : BldT Tryd.prog 50 [(0, 1), (1, 1), (2, 1), (3, 1)] [.int .i64 0, .int .i64 0, .int .i64 0, .map none] := ⟨fun parts => by kernel_rfl⟩
instance : TyT Tryd.prog 54 1 false := ⟨fun w => Tryd.isAgg54 w, fun w => Tryd.sizeOf54 w⟩
instance : MkI Tryd.prog 54 := ⟨fun v w => by kernel_rfl⟩
instance : ZvT Tryd.prog 54 (.slice none 0 0) := ⟨fun w => Tryd.zeroValue54 w⟩
instance : SlT Tryd.prog 54 3 1 8 (.int .i64 0) := ⟨by kernel_rfl, by kernel_rfl, rfl, by decide, by decide⟩
instance : TyT Tryd.prog 66 1 false := ⟨fun w => Tryd.isAgg66 w, fun w => Tryd.sizeOf66 w⟩
instance : MkI Tryd.prog 66 := ⟨fun v w => by kernel_rfl⟩
instance : ZvT Tryd.prog 66 (.pointer none) := ⟨fun w => Tryd.zeroValue66 w⟩
instance : TyT Tryd.prog 74 1 false := ⟨fun w => Tryd.isAgg74 w, fun w => Tryd.sizeOf74 w⟩
instance : MkI Tryd.prog 74 := ⟨fun v w => by kernel_rfl⟩
instance : IntT Tryd.prog 74 .u64 := ⟨Tryd.underlying74⟩
instance : ZvT Tryd.prog 74 (.int .u64 0) := ⟨fun w => Tryd.zeroValue74 w⟩
instance : TyT Tryd.prog 75 1 false := ⟨fun w => Tryd.isAgg75 w, fun w => Tryd.sizeOf75 w⟩
instance : MkI Tryd.prog 75 := ⟨fun v w => by kernel_rfl⟩
instance : ZvT Tryd.prog 75 (.pointer none) := ⟨fun w => Tryd.zeroValue75 w⟩
instance : TyT Tryd.prog 76 1 false := ⟨fun w => Tryd.isAgg76 w, fun w => Tryd.sizeOf76 w⟩
instance : MkI Tryd.prog 76 := ⟨fun v w => by kernel_rfl⟩
instance : IntT Tryd.prog 76 .u64 := ⟨Tryd.underlying76⟩
instance : ZvT Tryd.prog 76 (.int .u64 0) := ⟨fun w => Tryd.zeroValue76 w⟩
instance : TyT Tryd.prog 77 3 true := ⟨fun w => Tryd.isAgg77 w, fun w => Tryd.sizeOf77 w⟩
instance : MkI Tryd.prog 77 := ⟨fun v w => by kernel_rfl⟩
instance : ZvT Tryd.prog 77 (.agg #[.pointer none, .pointer none, .int .u64 0]) := ⟨fun w => Tryd.zeroValue77 w⟩
instance : FdT Tryd.prog 77 0 0 17 := ⟨fun a w => by kernel_rfl, fun cs w => by kernel_rfl⟩
instance : FdT Tryd.prog 77 1 1 75 := ⟨fun a w => by kernel_rfl, fun cs w => by kernel_rfl⟩
instance : FdT Tryd.prog 77 2 2 76 := ⟨fun a w => by kernel_rfl, fun cs w => by kernel_rfl⟩
instance : BldT Tryd.prog 77 [(0, 1), (1, 1), (2, 1)] [.pointer none, .pointer none, .int .u64 0] := ⟨fun parts => by kernel_rfl⟩
instance : TyT Tryd.prog 78 3 true := ⟨fun w => Tryd.isAgg78 w, fun w => Tryd.sizeOf78 w⟩
instance : MkI Tryd.prog 78 := ⟨fun v w => by kernel_rfl⟩
instance : ZvT Tryd.prog 78 (.agg #[.pointer none, .pointer none, .int .u64 0]) := ⟨fun w => Tryd.zeroValue78 w⟩
instance : FdT Tryd.prog 78 0 0 17 := ⟨fun a w => by kernel_rfl, fun cs w => by kernel_rfl⟩
instance : FdT Tryd.prog 78 1 1 75 := ⟨fun a w => by kernel_rfl, fun cs w => by kernel_rfl⟩
instance : FdT Tryd.prog 78 2 2 76 := ⟨fun a w => by kernel_rfl, fun cs w => by kernel_rfl⟩
instance : BldT Tryd.prog 78 [(0, 1), (1, 1), (2, 1)] [.pointer none, .pointer none, .int .u64 0] := ⟨fun parts => by kernel_rfl⟩
instance : TyT Tryd.prog 80 1 false := ⟨fun w => Tryd.isAgg80 w, fun w => Tryd.sizeOf80 w⟩
instance : IfT Tryd.prog 80 := ⟨⟨_, Tryd.underlying80⟩⟩
instance : ZvT Tryd.prog 80 (.nilIface) := ⟨fun w => Tryd.zeroValue80 w⟩
instance : TyT Tryd.prog 81 1 false := ⟨fun w => Tryd.isAgg81 w, fun w => Tryd.sizeOf81 w⟩
instance : IfT Tryd.prog 81 := ⟨⟨_, Tryd.underlying81⟩⟩
instance : ZvT Tryd.prog 81 (.nilIface) := ⟨fun w => Tryd.zeroValue81 w⟩
instance : TyT Tryd.prog 83 1 false := ⟨fun w => Tryd.isAgg83 w, fun w => Tryd.sizeOf83 w⟩
instance : MkI Tryd.prog 83 := ⟨fun v w => by kernel_rfl⟩
instance : IntT Tryd.prog 83 .u8 := ⟨Tryd.underlying83⟩
instance : ZvT Tryd.prog 83 (.int .u8 0) := ⟨fun w => Tryd.zeroValue83 w⟩
instance : TyT Tryd.prog 90 1 false := ⟨fun w => Tryd.isAgg90 w, fun w => Tryd.sizeOf90 w⟩
instance : MkI Tryd.prog 90 := ⟨fun v w => by kernel_rfl⟩
instance : IntT Tryd.prog 90 .i64 := ⟨Tryd.underlying90⟩
instance : ZvT Tryd.prog 90 (.int .i64 0) := ⟨fun w => Tryd.zeroValue90 w⟩
instance : TyT Tryd.prog 97 1 false := ⟨fun w => Tryd.isAgg97 w, fun w => Tryd.sizeOf97 w⟩
instance : MkI Tryd.prog 97 := ⟨fun v w => by kernel_rfl⟩
instance : IntT Tryd.prog 97 .u32 := ⟨Tryd.underlying97⟩
instance : ZvT Tryd.prog 97 (.int .u32 0) := ⟨fun w => Tryd.zeroValue97 w⟩
instance : TyT Tryd.prog 99 1 false := ⟨fun w => Tryd.isAgg99 w, fun w => Tryd.sizeOf99 w⟩
instance : MkI Tryd.prog 99 := ⟨fun v w => by kernel_rfl⟩
instance : IntT Tryd.prog 99 .u64 := ⟨Tryd.underlying99⟩
instance : ZvT Tryd.prog 99 (.int .u64 0) := ⟨fun w => Tryd.zeroValue99 w⟩
instance : TyT Tryd.prog 100 1 true := ⟨fun w => Tryd.isAgg100 w, fun w => Tryd.sizeOf100 w⟩
instance : MkI Tryd.prog 100 := ⟨fun v w => by kernel_rfl⟩
instance : ZvT Tryd.prog 100 (.agg #[.pointer none]) := ⟨fun w => Tryd.zeroValue100 w⟩
instance : FdT Tryd.prog 100 0 0 17 := ⟨fun a w => by kernel_rfl, fun cs w => by kernel_rfl⟩
instance : BldT Tryd.prog 100 [(0, 1)] [.pointer none] := ⟨fun parts => by kernel_rfl⟩
instance : TyT Tryd.prog 101 1 true := ⟨fun w => Tryd.isAgg101 w, fun w => Tryd.sizeOf101 w⟩
instance : MkI Tryd.prog 101 := ⟨fun v w => by kernel_rfl⟩
instance : ZvT Tryd.prog 101 (.agg #[.pointer none]) := ⟨fun w => Tryd.zeroValue101 w⟩
instance : FdT Tryd.prog 101 0 0 17 := ⟨fun a w => by kernel_rfl, fun cs w => by kernel_rfl⟩
instance : BldT Tryd.prog 101 [(0, 1)] [.pointer none] := ⟨fun parts => by kernel_rfl⟩
instance : TyT Tryd.prog 102 1 false := ⟨fun w => Tryd.isAgg102 w, fun w => Tryd.sizeOf102 w⟩
instance : MkI Tryd.prog 102 := ⟨fun v w => by kernel_rfl⟩
instance : ZvT Tryd.prog 102 (.pointer none) := ⟨fun w => Tryd.zeroValue102 w⟩
instance : TyT Tryd.prog 106 1 false := ⟨fun w => Tryd.isAgg106 w, fun w => Tryd.sizeOf106 w⟩
instance : IfT Tryd.prog 106 := ⟨⟨_, Tryd.underlying106⟩⟩
instance : ZvT Tryd.prog 106 (.nilIface) := ⟨fun w => Tryd.zeroValue106 w⟩
instance : TyT Tryd.prog 109 1 false := ⟨fun w => Tryd.isAgg109 w, fun w => Tryd.sizeOf109 w⟩
instance : IfT Tryd.prog 109 := ⟨⟨_, Tryd.underlying109⟩⟩
instance : ZvT Tryd.prog 109 (.nilIface) := ⟨fun w => Tryd.zeroValue109 w⟩
instance : TyT Tryd.prog 111 1 false := ⟨fun w => Tryd.isAgg111 w, fun w => Tryd.sizeOf111 w⟩
instance : IfT Tryd.prog 111 := ⟨⟨_, Tryd.underlying111⟩⟩
instance : ZvT Tryd.prog 111 (.nilIface) := ⟨fun w => Tryd.zeroValue111 w⟩
instance : TyT Tryd.prog 112 1 false := ⟨fun w => Tryd.isAgg112 w, fun w => Tryd.sizeOf112 w⟩
instance : MkI Tryd.prog 112 := ⟨fun v w => by kernel_rfl⟩
instance : ZvT Tryd.prog 112 (.slice none 0 0) := ⟨fun w => Tryd.zeroValue112 w⟩
instance : SlT Tryd.prog 112 25 1 16 (.nilIface) := ⟨by kernel_rfl, by kernel_rfl, rfl, by decide, by decide⟩
instance : TyT Tryd.prog 119 1 false := ⟨fun w => Tryd.isAgg119 w, fun w => Tryd.sizeOf119 w⟩
instance : MkI Tryd.prog 119 := ⟨fun v w => by kernel_rfl⟩
instance : IntT Tryd.prog 119 .u64 := ⟨Tryd.underlying119⟩
instance : ZvT Tryd.prog 119 (.int .u64 0) := ⟨fun w => Tryd.zeroValue119 w⟩
instance : TyT Tryd.prog 123 1 false := ⟨fun w => Tryd.isAgg123 w, fun w => Tryd.sizeOf123 w⟩
instance : MkI Tryd.prog 123 := ⟨fun v w => by kernel_rfl⟩
instance : ZvT Tryd.prog 123 (.pointer none) := ⟨fun w => Tryd.zeroValue123 w⟩
instance : TyT Tryd.prog 127 1 false := ⟨fun w => Tryd.isAgg127 w, fun w => Tryd.sizeOf127 w⟩
instance : MkI Tryd.prog 127 := ⟨fun v w => by kernel_rfl⟩
instance : ZvT Tryd.prog 127 (.pointer none) := ⟨fun w => Tryd.zeroValue127 w⟩
instance : TyT Tryd.prog 132 4 true := ⟨fun w => Tryd.isAgg132 w, fun w => Tryd.sizeOf132 w⟩
instance : MkI Tryd.prog 132 := ⟨fun v w => by kernel_rfl⟩
instance : ZvT Tryd.prog 132 (.agg #[.pointer none, .pointer none, .pointer none, .string ⟨#[]⟩]) := ⟨fun w => Tryd.zeroValue132 w⟩
instance : FdT Tryd.prog 132 0 0 17 := ⟨fun a w => by kernel_rfl, fun cs w => by kernel_rfl⟩
instance : FdT Tryd.prog 132 1 1 17 := ⟨fun a w => by kernel_rfl, fun cs w => by kernel_rfl⟩
instance : FdT Tryd.prog 132 2 2 17 := ⟨fun a w => by kernel_rfl, fun cs w => by kernel_rfl⟩
instance : FdT Tryd.prog 132 3 3 9 := ⟨fun a w => by kernel_rfl, fun cs w => by kernel_rfl⟩
instance : BldT Tryd.prog 132 [(0, 1), (1, 1), (2, 1), (3, 1)] [.pointer none, .pointer none, .pointer none, .string ⟨#[]⟩] := ⟨fun parts => by kernel_rfl⟩
instance : TyT Tryd.prog 133 4 true := ⟨fun w => Tryd.isAgg133 w, fun w => Tryd.sizeOf133 w⟩
instance : MkI Tryd.prog 133 := ⟨fun v w => by kernel_rfl⟩
instance : ZvT Tryd.prog 133 (.agg #[.pointer none, .pointer none, .pointer none, .string ⟨#[]⟩]) := ⟨fun w => Tryd.zeroValue133 w⟩
instance : FdT Tryd.prog 133 0 0 17 := ⟨fun a w => by kernel_rfl, fun cs w => by kernel_rfl⟩
instance : FdT Tryd.prog 133 1 1 17 := ⟨fun a w => by kernel_rfl, fun cs w => by kernel_rfl⟩
instance : FdT Tryd.prog 133 2 2 17 := ⟨fun a w => by kernel_rfl, fun cs w => by kernel_rfl⟩
instance : FdT Tryd.prog 133 3 3 9 := ⟨fun a w => by kernel_rfl, fun cs w => by kernel_rfl⟩
instance : BldT Tryd.prog 133 [(0, 1), (1, 1), (2, 1), (3, 1)] [.pointer none, .pointer none, .pointer none, .string ⟨#[]⟩] := ⟨fun parts => by kernel_rfl⟩
instance : TyT Tryd.prog 134 0 true := ⟨fun w => Tryd.isAgg134 w, fun w => Tryd.sizeOf134 w⟩
instance : MkI Tryd.prog 134 := ⟨fun v w => by kernel_rfl⟩
instance : ZvT Tryd.prog 134 (.agg #[]) := ⟨fun w => Tryd.zeroValue134 w⟩
instance : ArT Tryd.prog 134 0 16 1 := ⟨Tryd.underlying134, fun w => Tryd.sizeOf16 w⟩
instance : TyT Tryd.prog 135 0 true := ⟨fun w => Tryd.isAgg135 w, fun w => Tryd.sizeOf135 w⟩
instance : MkI Tryd.prog 135 := ⟨fun v w => by kernel_rfl⟩
instance : ZvT Tryd.prog 135 (.agg #[]) := ⟨fun w => Tryd.zeroValue135 w⟩
instance : BldT Tryd.prog 135 [(0, 0)] [] := ⟨fun parts => by kernel_rfl⟩
instance : TyT Tryd.prog 136 0 true := ⟨fun w => Tryd.isAgg136 w, fun w => Tryd.sizeOf136 w⟩
instance : MkI Tryd.prog 136 := ⟨fun v w => by kernel_rfl⟩
instance : ZvT Tryd.prog 136 (.agg #[]) := ⟨fun w => Tryd.zeroValue136 w⟩
instance : BldT Tryd.prog 136 [(0, 0)] [] := ⟨fun parts => by kernel_rfl⟩
instance : TyT Tryd.prog 138 1 false := ⟨fun w => Tryd.isAgg138 w, fun w => Tryd.sizeOf138 w⟩
instance : MkI Tryd.prog 138 := ⟨fun v w => by kernel_rfl⟩
instance : IntT Tryd.prog 138 .u8 := ⟨Tryd.underlying138⟩
instance : ZvT Tryd.prog 138 (.int .u8 0) := ⟨fun w => Tryd.zeroValue138 w⟩
instance : TyT Tryd.prog 140 1 false := ⟨fun w => Tryd.isAgg140 w, fun w => Tryd.sizeOf140 w⟩
instance : MkI Tryd.prog 140 := ⟨fun v w => by kernel_rfl⟩
instance : ZvT Tryd.prog 140 (.pointer none) := ⟨fun w => Tryd.zeroValue140 w⟩
instance : TyT Tryd.prog 141 1 false := ⟨fun w => Tryd.isAgg141 w, fun w => Tryd.sizeOf141 w⟩
instance : MkI Tryd.prog 141 := ⟨fun v w => by kernel_rfl⟩
instance : IntT Tryd.prog 141 .i32 := ⟨Tryd.underlying141⟩
instance : ZvT Tryd.prog 141 (.int .i32 0) := ⟨fun w => Tryd.zeroValue141 w⟩
instance : TyT Tryd.prog 142 1 false := ⟨fun w => Tryd.isAgg142 w, fun w => Tryd.sizeOf142 w⟩
instance : MkI Tryd.prog 142 := ⟨fun v w => by kernel_rfl⟩
instance : IntT Tryd.prog 142 .i32 := ⟨Tryd.underlying142⟩
instance : ZvT Tryd.prog 142 (.int .i32 0) := ⟨fun w => Tryd.zeroValue142 w⟩
instance : TyT Tryd.prog 143 11 true := ⟨fun w => Tryd.isAgg143 w, fun w => Tryd.sizeOf143 w⟩
instance : MkI Tryd.prog 143 := ⟨fun v w => by kernel_rfl⟩
instance : ZvT Tryd.prog 143 (.agg #[.int .u64 0, .int .u64 0, .int .u32 0, .int .u8 0, .int .u8 0, .int .u8 0, .int .u8 0, .nilFunc, .pointer none, .int .i32 0, .int .i32 0]) := ⟨fun w => Tryd.zeroValue143 w⟩
instance : FdT Tryd.prog 143 0 0 12 := ⟨fun a w => by kernel_rfl, fun cs w => by kernel_rfl⟩
instance : FdT Tryd.prog 143 1 1 12 := ⟨fun a w => by kernel_rfl, fun cs w => by kernel_rfl⟩
instance : FdT Tryd.prog 143 2 2 97 := ⟨fun a w => by kernel_rfl, fun cs w => by kernel_rfl⟩
instance : FdT Tryd.prog 143 3 3 138 := ⟨fun a w => by kernel_rfl, fun cs w => by kernel_rfl⟩
instance : FdT Tryd.prog 143 4 4 5 := ⟨fun a w => by kernel_rfl, fun cs w => by kernel_rfl⟩
instance : FdT Tryd.prog 143 5 5 5 := ⟨fun a w => by kernel_rfl, fun cs w => by kernel_rfl⟩
instance : FdT Tryd.prog 143 6 6 83 := ⟨fun a w => by kernel_rfl, fun cs w => by kernel_rfl⟩
instance : FdT Tryd.prog 143 8 8 140 := ⟨fun a w => by kernel_rfl, fun cs w => by kernel_rfl⟩
instance : FdT Tryd.prog 143 9 9 141 := ⟨fun a w => by kernel_rfl, fun cs w => by kernel_rfl⟩
instance : FdT Tryd.prog 143 10 10 142 := ⟨fun a w => by kernel_rfl, fun cs w => by kernel_rfl⟩
instance : TyT Tryd.prog 144 11 true := ⟨fun w => Tryd.isAgg144 w, fun w => Tryd.sizeOf144 w⟩
instance : MkI Tryd.prog 144 := ⟨fun v w => by kernel_rfl⟩
instance : ZvT Tryd.prog 144 (.agg #[.int .u64 0, .int .u64 0, .int .u32 0, .int .u8 0, .int .u8 0, .int .u8 0, .int .u8 0, .nilFunc, .pointer none, .int .i32 0, .int .i32 0]) := ⟨fun w => Tryd.zeroValue144 w⟩
instance : FdT Tryd.prog 144 0 0 12 := ⟨fun a w => by kernel_rfl, fun cs w => by kernel_rfl⟩
instance : FdT Tryd.prog 144 1 1 12 := ⟨fun a w => by kernel_rfl, fun cs w => by kernel_rfl⟩
instance : FdT Tryd.prog 144 2 2 97 := ⟨fun a w => by kernel_rfl, fun cs w => by kernel_rfl⟩
instance : FdT Tryd.prog 144 3 3 138 := ⟨fun a w => by kernel_rfl, fun cs w => by kernel_rfl⟩
instance : FdT Tryd.prog 144 4 4 5 := ⟨fun a w => by kernel_rfl, fun cs w => by kernel_rfl⟩
instance : FdT Tryd.prog 144 5 5 5 := ⟨fun a w => by kernel_rfl, fun cs w => by kernel_rfl⟩
instance : FdT Tryd.prog 144 6 6 83 := ⟨fun a w => by kernel_rfl, fun cs w => by kernel_rfl⟩
instance : FdT Tryd.prog 144 8 8 140 := ⟨fun a w => by kernel_rfl, fun cs w => by kernel_rfl⟩
instance : FdT Tryd.prog 144 9 9 141 := ⟨fun a w => by kernel_rfl, fun cs w => by kernel_rfl⟩
instance : FdT Tryd.prog 144 10 10 142 := ⟨fun a w => by kernel_rfl, fun cs w => by kernel_rfl⟩
instance : TyT Tryd.prog 147 2 true := ⟨fun w => Tryd.isAgg147 w, fun w => Tryd.sizeOf147 w⟩
instance : MkI Tryd.prog 147 := ⟨fun v w => by kernel_rfl⟩
instance : ZvT Tryd.prog 147 (.agg #[.string ⟨#[]⟩, .int .u8 0]) := ⟨fun w => Tryd.zeroValue147 w⟩
instance : FdT Tryd.prog 147 0 0 9 := ⟨fun a w => by kernel_rfl, fun cs w => by kernel_rfl⟩
instance : FdT Tryd.prog 147 1 1 83 := ⟨fun a w => by kernel_rfl, fun cs w => by kernel_rfl⟩
instance : BldT Tryd.prog 147 [(0, 1), (1, 1)] [.string ⟨#[]⟩, .int .u8 0] := ⟨fun parts => by kernel_rfl⟩
instance : TyT Tryd.prog 148 2 true := ⟨fun w => Tryd.isAgg148 w, fun w => Tryd.sizeOf148 w⟩
instance : MkI Tryd.prog 148 := ⟨fun v w => by kernel_rfl⟩
instance : ZvT Tryd.prog 148 (.agg #[.string ⟨#[]⟩, .int .u8 0]) := ⟨fun w => Tryd.zeroValue148 w⟩
instance : FdT Tryd.prog 148 0 0 9 := ⟨fun a w => by kernel_rfl, fun cs w => by kernel_rfl⟩
instance : FdT Tryd.prog 148 1 1 83 := ⟨fun a w => by kernel_rfl, fun cs w => by kernel_rfl⟩
instance : BldT Tryd.prog 148 [(0, 1), (1, 1)] [.string ⟨#[]⟩, .int .u8 0] := ⟨fun parts => by kernel_rfl⟩
instance : TyT Tryd.prog 149 1 false := ⟨fun w => Tryd.isAgg149 w, fun w => Tryd.sizeOf149 w⟩
instance : MkI Tryd.prog 149 := ⟨fun v w => by kernel_rfl⟩
instance : ZvT Tryd.prog 149 (.pointer none) := ⟨fun w => Tryd.zeroValue149 w⟩
instance : TyT Tryd.prog 151 1 false := ⟨fun w => Tryd.isAgg151 w, fun w => Tryd.sizeOf151 w⟩
instance : MkI Tryd.prog 151 := ⟨fun v w => by kernel_rfl⟩
instance : IntT Tryd.prog 151 .u16 := ⟨Tryd.underlying151⟩
instance : ZvT Tryd.prog 151 (.int .u16 0) := ⟨fun w => Tryd.zeroValue151 w⟩
instance : TyT Tryd.prog 152 5 true := ⟨fun w => Tryd.isAgg152 w, fun w => Tryd.sizeOf152 w⟩
instance : MkI Tryd.prog 152 := ⟨fun v w => by kernel_rfl⟩
instance : ZvT Tryd.prog 152 (.agg #[.int .i32 0, .int .u16 0, .int .u16 0, .int .u32 0, .int .u32 0]) := ⟨fun w => Tryd.zeroValue152 w⟩
instance : FdT Tryd.prog 152 0 0 141 := ⟨fun a w => by kernel_rfl, fun cs w => by kernel_rfl⟩
instance : FdT Tryd.prog 152 1 1 151 := ⟨fun a w => by kernel_rfl, fun cs w => by kernel_rfl⟩
instance : FdT Tryd.prog 152 2 2 151 := ⟨fun a w => by kernel_rfl, fun cs w => by kernel_rfl⟩
instance : FdT Tryd.prog 152 3 3 97 := ⟨fun a w => by kernel_rfl, fun cs w => by kernel_rfl⟩
instance : FdT Tryd.prog 152 4 4 97 := ⟨fun a w => by kernel_rfl, fun cs w => by kernel_rfl⟩
instance : BldT Tryd.prog 152 [(0, 1), (1, 1), (2, 1), (3, 1), (4, 1)] [.int .i32 0, .int .u16 0, .int .u16 0, .int .u32 0, .int .u32 0] := ⟨fun parts => by kernel_rfl⟩
instance : TyT Tryd.prog 153 5 true := ⟨fun w => Tryd.isAgg153 w, fun w => Tryd.sizeOf153 w⟩
instance : MkI Tryd.prog 153 := ⟨fun v w => by kernel_rfl⟩
instance : ZvT Tryd.prog 153 (.agg #[.int .i32 0, .int .u16 0, .int .u16 0, .int .u32 0, .int .u32 0]) := ⟨fun w => Tryd.zeroValue153 w⟩
instance : FdT Tryd.prog 153 0 0 141 := ⟨fun a w => by kernel_rfl, fun cs w => by kernel_rfl⟩
instance : FdT Tryd.prog 153 1 1 151 := ⟨fun a w => by kernel_rfl, fun cs w => by kernel_rfl⟩
instance : FdT Tryd.prog 153 2 2 151 := ⟨fun a w => by kernel_rfl, fun cs w => by kernel_rfl⟩
instance : FdT Tryd.prog 153 3 3 97 := ⟨fun a w => by kernel_rfl, fun cs w => by kernel_rfl⟩
instance : FdT Tryd.prog 153 4 4 97 := ⟨fun a w => by kernel_rfl, fun cs w => by kernel_rfl⟩
instance : BldT Tryd.prog 153 [(0, 1), (1, 1), (2, 1), (3, 1), (4, 1)] [.int .i32 0, .int .u16 0, .int .u16 0, .int .u32 0, .int .u32 0] := ⟨fun parts => by kernel_rfl⟩
instance : TyT Tryd.prog 154 1 false := ⟨fun w => Tryd.isAgg154 w, fun w => Tryd.sizeOf154 w⟩
instance : MkI Tryd.prog 154 := ⟨fun v w => by kernel_rfl⟩
instance : ZvT Tryd.prog 154 (.slice none 0 0) := ⟨fun w => Tryd.zeroValue154 w⟩
instance : SlT Tryd.prog 154 157 4 16 (.agg #[.int .i32 0, .int .i32 0, .int .i32 0, .int .i32 0]) := ⟨by kernel_rfl, by kernel_rfl, rfl, by decide, by decide⟩
instance : TyT Tryd.prog 155 1 false := ⟨fun w => Tryd.isAgg155 w, fun w => Tryd.sizeOf155 w⟩
instance : MkI Tryd.prog 155 := ⟨fun v w => by kernel_rfl⟩
instance : IntT Tryd.prog 155 .i32 := ⟨Tryd.underlying155⟩
instance : ZvT Tryd.prog 155 (.int .i32 0) := ⟨fun w => Tryd.zeroValue155 w⟩
instance : TyT Tryd.prog 156 4 true := ⟨fun w => Tryd.isAgg156 w, fun w => Tryd.sizeOf156 w⟩
instance : MkI Tryd.prog 156 := ⟨fun v w => by kernel_rfl⟩
instance : ZvT Tryd.prog 156 (.agg #[.int .i32 0, .int .i32 0, .int .i32 0, .int .i32 0]) := ⟨fun w => Tryd.zeroValue156 w⟩
instance : FdT Tryd.prog 156 0 0 141 := ⟨fun a w => by kernel_rfl, fun cs w => by kernel_rfl⟩
instance : FdT Tryd.prog 156 1 1 142 := ⟨fun a w => by kernel_rfl, fun cs w => by kernel_rfl⟩
instance : FdT Tryd.prog 156 2 2 155 := ⟨fun a w => by kernel_rfl, fun cs w => by kernel_rfl⟩
instance : FdT Tryd.prog 156 3 3 155 := ⟨fun a w => by kernel_rfl, fun cs w => by kernel_rfl⟩
instance : BldT Tryd.prog 156 [(0, 1), (1, 1), (2, 1), (3, 1)] [.int .i32 0, .int .i32 0, .int .i32 0, .int .i32 0] := ⟨fun parts => by kernel_rfl⟩
instance : TyT Tryd.prog 157 4 true := ⟨fun w => Tryd.isAgg157 w, fun w => Tryd.sizeOf157 w⟩
instance : MkI Tryd.prog 157 := ⟨fun v w => by kernel_rfl⟩
instance : ZvT Tryd.prog 157 (.agg #[.int .i32 0, .int .i32 0, .int .i32 0, .int .i32 0]) := ⟨fun w => Tryd.zeroValue157 w⟩
instance : FdT Tryd.prog 157 0 0 141 := ⟨fun a w => by kernel_rfl, fun cs w => by kernel_rfl⟩
instance : FdT Tryd.prog 157 1 1 142 := ⟨fun a w => by kernel_rfl, fun cs w => by kernel_rfl⟩
instance : FdT Tryd.prog 157 2 2 155 := ⟨fun a w => by kernel_rfl, fun cs w => by kernel_rfl⟩
instance : FdT Tryd.prog 157 3 3 155 := ⟨fun a w => by kernel_rfl, fun cs w => by kernel_rfl⟩
instance : BldT Tryd.prog 157 [(0, 1), (1, 1), (2, 1), (3, 1)] [.int .i32 0, .int .i32 0, .int .i32 0, .int .i32 0] := ⟨fun parts => by kernel_rfl⟩
instance : TyT Tryd.prog 158 1 false := ⟨fun w => Tryd.isAgg158 w, fun w => Tryd.sizeOf158 w⟩
instance : MkI Tryd.prog 158 := ⟨fun v w => by kernel_rfl⟩
instance : ZvT Tryd.prog 158 (.pointer none) := ⟨fun w => Tryd.zeroValue158 w⟩
/- Functions with a body. -/
instance : CalT Tryd.prog 2 := ⟨fun args w => Tryd.call2 args w⟩
instance : CalT Tryd.prog 3 := ⟨fun args w => Tryd.call3 args w⟩
instance : CalT Tryd.prog 4 := ⟨fun args w => Tryd.call4 args w⟩
instance : CalT Tryd.prog 5 := ⟨fun args w => Tryd.call5 args w⟩
instance : CalT Tryd.prog 6 := ⟨fun args w => Tryd.call6 args w⟩
instance : CalT Tryd.prog 7 := ⟨fun args w => Tryd.call7 args w⟩
instance : CalT Tryd.prog 8 := ⟨fun args w => Tryd.call8 args w⟩
instance : CalT Tryd.prog 9 := ⟨fun args w => Tryd.call9 args w⟩
instance : CalT Tryd.prog 10 := ⟨fun args w => Tryd.call10 args w⟩
instance : CalT Tryd.prog 11 := ⟨fun args w => Tryd.call11 args w⟩
instance : CalT Tryd.prog 12 := ⟨fun args w => Tryd.call12 args w⟩
instance : CalT Tryd.prog 13 := ⟨fun args w => Tryd.call13 args w⟩
instance : CalT Tryd.prog 14 := ⟨fun args w => Tryd.call14 args w⟩
instance : CalT Tryd.prog 15 := ⟨fun args w => Tryd.call15 args w⟩
instance : CalT Tryd.prog 16 := ⟨fun args w => Tryd.call16 args w⟩
instance : CalT Tryd.prog 17 := ⟨fun args w => Tryd.call17 args w⟩
instance : CalT Tryd.prog 18 := ⟨fun args w => Tryd.call18 args w⟩
instance : CalT Tryd.prog 19 := ⟨fun args w => Tryd.call19 args w⟩
instance : CalT Tryd.prog 20 := ⟨fun args w => Tryd.call20 args w⟩
instance : CalT Tryd.prog 21 := ⟨fun args w => Tryd.call21 args w⟩
instance : CalT Tryd.prog 22 := ⟨fun args w => Tryd.call22 args w⟩
instance : CalT Tryd.prog 23 := ⟨fun args w => Tryd.call23 args w⟩
instance : CalT Tryd.prog 24 := ⟨fun args w => Tryd.call24 args w⟩
instance : CalT Tryd.prog 25 := ⟨fun args w => Tryd.call25 args w⟩
instance : CalT Tryd.prog 26 := ⟨fun args w => Tryd.call26 args w⟩
instance : CalT Tryd.prog 27 := ⟨fun args w => Tryd.call27 args w⟩
instance : CalT Tryd.prog 28 := ⟨fun args w => Tryd.call28 args w⟩
instance : CalT Tryd.prog 29 := ⟨fun args w => Tryd.call29 args w⟩
instance : CalT Tryd.prog 30 := ⟨fun args w => Tryd.call30 args w⟩
instance : CalT Tryd.prog 31 := ⟨fun args w => Tryd.call31 args w⟩
instance : CalT Tryd.prog 32 := ⟨fun args w => Tryd.call32 args w⟩
instance : CalT Tryd.prog 33 := ⟨fun args w => Tryd.call33 args w⟩
instance : CalT Tryd.prog 35 := ⟨fun args w => Tryd.call35 args w⟩
instance : CalT Tryd.prog 36 := ⟨fun args w => Tryd.call36 args w⟩
instance : CalT Tryd.prog 37 := ⟨fun args w => Tryd.call37 args w⟩
instance : CalT Tryd.prog 38 := ⟨fun args w => Tryd.call38 args w⟩
instance : CalT Tryd.prog 42 := ⟨fun args w => Tryd.call42 args w⟩
instance : CalT Tryd.prog 43 := ⟨fun args w => Tryd.call43 args w⟩
instance : CalT Tryd.prog 44 := ⟨fun args w => Tryd.call44 args w⟩
instance : CalT Tryd.prog 45 := ⟨fun args w => Tryd.call45 args w⟩
instance : CalT Tryd.prog 46 := ⟨fun args w => Tryd.call46 args w⟩
instance : CalT Tryd.prog 47 := ⟨fun args w => Tryd.call47 args w⟩
instance : CalT Tryd.prog 48 := ⟨fun args w => Tryd.call48 args w⟩
instance : CalT Tryd.prog 49 := ⟨fun args w => Tryd.call49 args w⟩
instance : CalT Tryd.prog 50 := ⟨fun args w => Tryd.call50 args w⟩
instance : CalT Tryd.prog 51 := ⟨fun args w => Tryd.call51 args w⟩
instance : CalT Tryd.prog 52 := ⟨fun args w => Tryd.call52 args w⟩
instance : CalT Tryd.prog 53 := ⟨fun args w => Tryd.call53 args w⟩
instance : CalT Tryd.prog 57 := ⟨fun args w => Tryd.call57 args w⟩
instance : CalT Tryd.prog 58 := ⟨fun args w => Tryd.call58 args w⟩
instance : CalT Tryd.prog 59 := ⟨fun args w => Tryd.call59 args w⟩
instance : CalT Tryd.prog 60 := ⟨fun args w => Tryd.call60 args w⟩
instance : CalT Tryd.prog 61 := ⟨fun args w => Tryd.call61 args w⟩
instance : CalT Tryd.prog 62 := ⟨fun args w => Tryd.call62 args w⟩
instance : CalT Tryd.prog 63 := ⟨fun args w => Tryd.call63 args w⟩
instance : CalT Tryd.prog 64 := ⟨fun args w => Tryd.call64 args w⟩
instance : CalT Tryd.prog 65 := ⟨fun args w => Tryd.call65 args w⟩
instance : CalT Tryd.prog 66 := ⟨fun args w => Tryd.call66 args w⟩
instance : CalT Tryd.prog 67 := ⟨fun args w => Tryd.call67 args w⟩
instance : CalT Tryd.prog 68 := ⟨fun args w => Tryd.call68 args w⟩
instance : CalT Tryd.prog 69 := ⟨fun args w => Tryd.call69 args w⟩
instance : CalT Tryd.prog 70 := ⟨fun args w => Tryd.call70 args w⟩
instance : CalT Tryd.prog 71 := ⟨fun args w => Tryd.call71 args w⟩
instance : CalT Tryd.prog 72 := ⟨fun args w => Tryd.call72 args w⟩
instance : CalT Tryd.prog 73 := ⟨fun args w => Tryd.call73 args w⟩
instance : CalT Tryd.prog 74 := ⟨fun args w => Tryd.call74 args w⟩
instance : CalT Tryd.prog 75 := ⟨fun args w => Tryd.call75 args w⟩
instance : CalT Tryd.prog 112 := ⟨fun args w => Tryd.call112 args w⟩
end Go.Proofs.YtaofimndclgpdaaDoor
