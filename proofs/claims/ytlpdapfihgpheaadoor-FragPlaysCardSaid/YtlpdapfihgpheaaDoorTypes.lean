/- The seat's types and functions, as instances. Printed by wip/tools/types.py. -/
import Derived.Test.YtlpdapfihgpheaaDoorEngB
import Derived.Test.YtlpdapfihgpheaaDoorProg
import Derived.KernelRfl
namespace Go.Proofs.YtlpdapfihgpheaaDoor
open Go.Port
instance : TyT Tryd.prog 2 1 false := ⟨fun w => Tryd.isAgg2 w, fun w => Tryd.sizeOf2 w⟩
instance : MkI Tryd.prog 2 := ⟨fun v w => by kernel_rfl⟩
instance : IntT Tryd.prog 2 .i64 := ⟨Tryd.underlying2⟩
instance : ZvT Tryd.prog 2 (.int .i64 0) := ⟨fun w => Tryd.zeroValue2 w⟩
instance : TyT Tryd.prog 3 1 false := ⟨fun w => Tryd.isAgg3 w, fun w => Tryd.sizeOf3 w⟩
instance : MkI Tryd.prog 3 := ⟨fun v w => by kernel_rfl⟩
instance : IntT Tryd.prog 3 .i64 := ⟨Tryd.underlying3⟩
instance : ZvT Tryd.prog 3 (.int .i64 0) := ⟨fun w => Tryd.zeroValue3 w⟩
instance : TyT Tryd.prog 4 1 false := ⟨fun w => Tryd.isAgg4 w, fun w => Tryd.sizeOf4 w⟩
instance : MkI Tryd.prog 4 := ⟨fun v w => by kernel_rfl⟩
instance : ZvT Tryd.prog 4 (.bool false) := ⟨fun w => Tryd.zeroValue4 w⟩
instance : TyT Tryd.prog 5 1 false := ⟨fun w => Tryd.isAgg5 w, fun w => Tryd.sizeOf5 w⟩
instance : MkI Tryd.prog 5 := ⟨fun v w => by kernel_rfl⟩
instance : IntT Tryd.prog 5 .u8 := ⟨Tryd.underlying5⟩
instance : ZvT Tryd.prog 5 (.int .u8 0) := ⟨fun w => Tryd.zeroValue5 w⟩
instance : TyT Tryd.prog 6 1 false := ⟨fun w => Tryd.isAgg6 w, fun w => Tryd.sizeOf6 w⟩
instance : MkI Tryd.prog 6 := ⟨fun v w => by kernel_rfl⟩
instance : IntT Tryd.prog 6 .u8 := ⟨Tryd.underlying6⟩
instance : ZvT Tryd.prog 6 (.int .u8 0) := ⟨fun w => Tryd.zeroValue6 w⟩
instance : TyT Tryd.prog 7 4 true := ⟨fun w => Tryd.isAgg7 w, fun w => Tryd.sizeOf7 w⟩
instance : MkI Tryd.prog 7 := ⟨fun v w => by kernel_rfl⟩
instance : ZvT Tryd.prog 7 (.agg #[.int .i64 0, .int .i64 0, .bool false, .int .u8 0]) := ⟨fun w => Tryd.zeroValue7 w⟩
instance : FdT Tryd.prog 7 0 0 2 := ⟨fun a w => by kernel_rfl, fun cs w => by kernel_rfl⟩
instance : FdT Tryd.prog 7 1 1 3 := ⟨fun a w => by kernel_rfl, fun cs w => by kernel_rfl⟩
instance : FdT Tryd.prog 7 2 2 4 := ⟨fun a w => by kernel_rfl, fun cs w => by kernel_rfl⟩
instance : FdT Tryd.prog 7 3 3 6 := ⟨fun a w => by kernel_rfl, fun cs w => by kernel_rfl⟩
instance : BldT Tryd.prog 7 [(0, 1), (1, 1), (2, 1), (3, 1)] [.int .i64 0, .int .i64 0, .bool false, .int .u8 0] := ⟨fun parts => by kernel_rfl⟩
instance : TyT Tryd.prog 8 4 true := ⟨fun w => Tryd.isAgg8 w, fun w => Tryd.sizeOf8 w⟩
instance : MkI Tryd.prog 8 := ⟨fun v w => by kernel_rfl⟩
instance : ZvT Tryd.prog 8 (.agg #[.int .i64 0, .int .i64 0, .bool false, .int .u8 0]) := ⟨fun w => Tryd.zeroValue8 w⟩
instance : FdT Tryd.prog 8 0 0 2 := ⟨fun a w => by kernel_rfl, fun cs w => by kernel_rfl⟩
instance : FdT Tryd.prog 8 1 1 3 := ⟨fun a w => by kernel_rfl, fun cs w => by kernel_rfl⟩
instance : FdT Tryd.prog 8 2 2 4 := ⟨fun a w => by kernel_rfl, fun cs w => by kernel_rfl⟩
instance : FdT Tryd.prog 8 3 3 6 := ⟨fun a w => by kernel_rfl, fun cs w => by kernel_rfl⟩
instance : BldT Tryd.prog 8 [(0, 1), (1, 1), (2, 1), (3, 1)] [.int .i64 0, .int .i64 0, .bool false, .int .u8 0] := ⟨fun parts => by kernel_rfl⟩
instance : TyT Tryd.prog 9 1 false := ⟨fun w => Tryd.isAgg9 w, fun w => Tryd.sizeOf9 w⟩
instance : MkI Tryd.prog 9 := ⟨fun v w => by kernel_rfl⟩
instance : StrT Tryd.prog 9 := ⟨Tryd.underlying9⟩
instance : ZvT Tryd.prog 9 (.string ⟨#[]⟩) := ⟨fun w => Tryd.zeroValue9 w⟩
instance : TyT Tryd.prog 10 1 false := ⟨fun w => Tryd.isAgg10 w, fun w => Tryd.sizeOf10 w⟩
instance : MkI Tryd.prog 10 := ⟨fun v w => by kernel_rfl⟩
instance : StrT Tryd.prog 10 := ⟨Tryd.underlying10⟩
instance : ZvT Tryd.prog 10 (.string ⟨#[]⟩) := ⟨fun w => Tryd.zeroValue10 w⟩
instance : TyT Tryd.prog 11 1 false := ⟨fun w => Tryd.isAgg11 w, fun w => Tryd.sizeOf11 w⟩
instance : MkI Tryd.prog 11 := ⟨fun v w => by kernel_rfl⟩
instance : StrT Tryd.prog 11 := ⟨Tryd.underlying11⟩
instance : ZvT Tryd.prog 11 (.string ⟨#[]⟩) := ⟨fun w => Tryd.zeroValue11 w⟩
instance : TyT Tryd.prog 12 1 false := ⟨fun w => Tryd.isAgg12 w, fun w => Tryd.sizeOf12 w⟩
instance : MkI Tryd.prog 12 := ⟨fun v w => by kernel_rfl⟩
instance : IntT Tryd.prog 12 .u64 := ⟨Tryd.underlying12⟩
instance : ZvT Tryd.prog 12 (.int .u64 0) := ⟨fun w => Tryd.zeroValue12 w⟩
instance : TyT Tryd.prog 13 2 true := ⟨fun w => Tryd.isAgg13 w, fun w => Tryd.sizeOf13 w⟩
instance : MkI Tryd.prog 13 := ⟨fun v w => by kernel_rfl⟩
instance : ZvT Tryd.prog 13 (.agg #[.string ⟨#[]⟩, .int .u64 0]) := ⟨fun w => Tryd.zeroValue13 w⟩
instance : FdT Tryd.prog 13 0 0 9 := ⟨fun a w => by kernel_rfl, fun cs w => by kernel_rfl⟩
instance : FdT Tryd.prog 13 1 1 12 := ⟨fun a w => by kernel_rfl, fun cs w => by kernel_rfl⟩
instance : BldT Tryd.prog 13 [(0, 1), (1, 1)] [.string ⟨#[]⟩, .int .u64 0] := ⟨fun parts => by kernel_rfl⟩
instance : TyT Tryd.prog 14 2 true := ⟨fun w => Tryd.isAgg14 w, fun w => Tryd.sizeOf14 w⟩
instance : MkI Tryd.prog 14 := ⟨fun v w => by kernel_rfl⟩
instance : ZvT Tryd.prog 14 (.agg #[.string ⟨#[]⟩, .int .u64 0]) := ⟨fun w => Tryd.zeroValue14 w⟩
instance : FdT Tryd.prog 14 0 0 9 := ⟨fun a w => by kernel_rfl, fun cs w => by kernel_rfl⟩
instance : FdT Tryd.prog 14 1 1 12 := ⟨fun a w => by kernel_rfl, fun cs w => by kernel_rfl⟩
instance : BldT Tryd.prog 14 [(0, 1), (1, 1)] [.string ⟨#[]⟩, .int .u64 0] := ⟨fun parts => by kernel_rfl⟩
instance : TyT Tryd.prog 15 1 false := ⟨fun w => Tryd.isAgg15 w, fun w => Tryd.sizeOf15 w⟩
instance : MkI Tryd.prog 15 := ⟨fun v w => by kernel_rfl⟩
instance : ZvT Tryd.prog 15 (.pointer none) := ⟨fun w => Tryd.zeroValue15 w⟩
instance : TyT Tryd.prog 16 1 false := ⟨fun w => Tryd.isAgg16 w, fun w => Tryd.sizeOf16 w⟩
instance : MkI Tryd.prog 16 := ⟨fun v w => by kernel_rfl⟩
instance : ZvT Tryd.prog 16 (.pointer none) := ⟨fun w => Tryd.zeroValue16 w⟩
instance : TyT Tryd.prog 17 1 false := ⟨fun w => Tryd.isAgg17 w, fun w => Tryd.sizeOf17 w⟩
instance : MkI Tryd.prog 17 := ⟨fun v w => by kernel_rfl⟩
instance : ZvT Tryd.prog 17 (.pointer none) := ⟨fun w => Tryd.zeroValue17 w⟩
instance : TyT Tryd.prog 18 1 true := ⟨fun w => Tryd.isAgg18 w, fun w => Tryd.sizeOf18 w⟩
instance : MkI Tryd.prog 18 := ⟨fun v w => by kernel_rfl⟩
instance : ZvT Tryd.prog 18 (.agg #[.pointer none]) := ⟨fun w => Tryd.zeroValue18 w⟩
instance : FdT Tryd.prog 18 0 0 17 := ⟨fun a w => by kernel_rfl, fun cs w => by kernel_rfl⟩
instance : BldT Tryd.prog 18 [(0, 1)] [.pointer none] := ⟨fun parts => by kernel_rfl⟩
instance : TyT Tryd.prog 19 1 true := ⟨fun w => Tryd.isAgg19 w, fun w => Tryd.sizeOf19 w⟩
instance : MkI Tryd.prog 19 := ⟨fun v w => by kernel_rfl⟩
instance : ZvT Tryd.prog 19 (.agg #[.pointer none]) := ⟨fun w => Tryd.zeroValue19 w⟩
instance : FdT Tryd.prog 19 0 0 17 := ⟨fun a w => by kernel_rfl, fun cs w => by kernel_rfl⟩
instance : BldT Tryd.prog 19 [(0, 1)] [.pointer none] := ⟨fun parts => by kernel_rfl⟩
instance : TyT Tryd.prog 20 1 false := ⟨fun w => Tryd.isAgg20 w, fun w => Tryd.sizeOf20 w⟩
instance : IfT Tryd.prog 20 := ⟨⟨_, Tryd.underlying20⟩⟩
instance : ZvT Tryd.prog 20 (.nilIface) := ⟨fun w => Tryd.zeroValue20 w⟩
instance : TyT Tryd.prog 21 1 false := ⟨fun w => Tryd.isAgg21 w, fun w => Tryd.sizeOf21 w⟩
instance : MkI Tryd.prog 21 := ⟨fun v w => by kernel_rfl⟩
instance : IntT Tryd.prog 21 .i32 := ⟨Tryd.underlying21⟩
instance : ZvT Tryd.prog 21 (.int .i32 0) := ⟨fun w => Tryd.zeroValue21 w⟩
instance : TyT Tryd.prog 22 1 false := ⟨fun w => Tryd.isAgg22 w, fun w => Tryd.sizeOf22 w⟩
instance : MkI Tryd.prog 22 := ⟨fun v w => by kernel_rfl⟩
instance : ZvT Tryd.prog 22 (.slice none 0 0) := ⟨fun w => Tryd.zeroValue22 w⟩
instance : SlT Tryd.prog 22 5 1 1 (.int .u8 0) := ⟨by kernel_rfl, by kernel_rfl, rfl, by decide, by decide⟩
instance : TyT Tryd.prog 23 8 true := ⟨fun w => Tryd.isAgg23 w, fun w => Tryd.sizeOf23 w⟩
instance : MkI Tryd.prog 23 := ⟨fun v w => by kernel_rfl⟩
instance : ZvT Tryd.prog 23 (.agg #[.int .i64 0, .int .i64 0, .int .i64 0, .int .i64 0, .int .i64 0, .int .i64 0, .bool false, .slice none 0 0]) := ⟨fun w => Tryd.zeroValue23 w⟩
instance : FdT Tryd.prog 23 0 0 3 := ⟨fun a w => by kernel_rfl, fun cs w => by kernel_rfl⟩
instance : FdT Tryd.prog 23 1 1 3 := ⟨fun a w => by kernel_rfl, fun cs w => by kernel_rfl⟩
instance : FdT Tryd.prog 23 2 2 3 := ⟨fun a w => by kernel_rfl, fun cs w => by kernel_rfl⟩
instance : FdT Tryd.prog 23 3 3 3 := ⟨fun a w => by kernel_rfl, fun cs w => by kernel_rfl⟩
instance : FdT Tryd.prog 23 4 4 3 := ⟨fun a w => by kernel_rfl, fun cs w => by kernel_rfl⟩
instance : FdT Tryd.prog 23 5 5 3 := ⟨fun a w => by kernel_rfl, fun cs w => by kernel_rfl⟩
instance : FdT Tryd.prog 23 6 6 4 := ⟨fun a w => by kernel_rfl, fun cs w => by kernel_rfl⟩
instance : FdT Tryd.prog 23 7 7 22 := ⟨fun a w => by kernel_rfl, fun cs w => by kernel_rfl⟩
instance : BldT Tryd.prog 23 [(0, 1), (1, 1), (2, 1), (3, 1), (4, 1), (5, 1), (6, 1), (7, 1)] [.int .i64 0, .int .i64 0, .int .i64 0, .int .i64 0, .int .i64 0, .int .i64 0, .bool false, .slice none 0 0] := ⟨fun parts => by kernel_rfl⟩
instance : TyT Tryd.prog 24 8 true := ⟨fun w => Tryd.isAgg24 w, fun w => Tryd.sizeOf24 w⟩
instance : MkI Tryd.prog 24 := ⟨fun v w => by kernel_rfl⟩
instance : ZvT Tryd.prog 24 (.agg #[.int .i64 0, .int .i64 0, .int .i64 0, .int .i64 0, .int .i64 0, .int .i64 0, .bool false, .slice none 0 0]) := ⟨fun w => Tryd.zeroValue24 w⟩
instance : FdT Tryd.prog 24 0 0 3 := ⟨fun a w => by kernel_rfl, fun cs w => by kernel_rfl⟩
instance : FdT Tryd.prog 24 1 1 3 := ⟨fun a w => by kernel_rfl, fun cs w => by kernel_rfl⟩
instance : FdT Tryd.prog 24 2 2 3 := ⟨fun a w => by kernel_rfl, fun cs w => by kernel_rfl⟩
instance : FdT Tryd.prog 24 3 3 3 := ⟨fun a w => by kernel_rfl, fun cs w => by kernel_rfl⟩
instance : FdT Tryd.prog 24 4 4 3 := ⟨fun a w => by kernel_rfl, fun cs w => by kernel_rfl⟩
instance : FdT Tryd.prog 24 5 5 3 := ⟨fun a w => by kernel_rfl, fun cs w => by kernel_rfl⟩
instance : FdT Tryd.prog 24 6 6 4 := ⟨fun a w => by kernel_rfl, fun cs w => by kernel_rfl⟩
instance : FdT Tryd.prog 24 7 7 22 := ⟨fun a w => by kernel_rfl, fun cs w => by kernel_rfl⟩
instance : BldT Tryd.prog 24 [(0, 1), (1, 1), (2, 1), (3, 1), (4, 1), (5, 1), (6, 1), (7, 1)] [.int .i64 0, .int .i64 0, .int .i64 0, .int .i64 0, .int .i64 0, .int .i64 0, .bool false, .slice none 0 0] := ⟨fun parts => by kernel_rfl⟩
instance : TyT Tryd.prog 25 1 false := ⟨fun w => Tryd.isAgg25 w, fun w => Tryd.sizeOf25 w⟩
instance : MkI Tryd.prog 25 := ⟨fun v w => by kernel_rfl⟩
instance : ZvT Tryd.prog 25 (.slice none 0 0) := ⟨fun w => Tryd.zeroValue25 w⟩
instance : SlT Tryd.prog 25 24 8 80 (.agg #[.int .i64 0, .int .i64 0, .int .i64 0, .int .i64 0, .int .i64 0, .int .i64 0, .bool false, .slice none 0 0]) := ⟨by kernel_rfl, by kernel_rfl, rfl, by decide, by decide⟩
instance : TyT Tryd.prog 28 1 false := ⟨fun w => Tryd.isAgg28 w, fun w => Tryd.sizeOf28 w⟩
instance : IfT Tryd.prog 28 := ⟨⟨_, Tryd.underlying28⟩⟩
instance : ZvT Tryd.prog 28 (.nilIface) := ⟨fun w => Tryd.zeroValue28 w⟩
instance : TyT Tryd.prog 29 1 false := ⟨fun w => Tryd.isAgg29 w, fun w => Tryd.sizeOf29 w⟩
instance : IfT Tryd.prog 29 := ⟨⟨_, Tryd.underlying29⟩⟩
instance : ZvT Tryd.prog 29 (.nilIface) := ⟨fun w => Tryd.zeroValue29 w⟩
instance : TyT Tryd.prog 35 1 false := ⟨fun w => Tryd.isAgg35 w, fun w => Tryd.sizeOf35 w⟩
instance : MkI Tryd.prog 35 := ⟨fun v w => by kernel_rfl⟩
instance : ZvT Tryd.prog 35 (.slice none 0 0) := ⟨fun w => Tryd.zeroValue35 w⟩
instance : SlT Tryd.prog 35 3 1 8 (.int .i64 0) := ⟨by kernel_rfl, by kernel_rfl, rfl, by decide, by decide⟩
instance : TyT Tryd.prog 36 1 false := ⟨fun w => Tryd.isAgg36 w, fun w => Tryd.sizeOf36 w⟩
instance : MkI Tryd.prog 36 := ⟨fun v w => by kernel_rfl⟩
instance : ZvT Tryd.prog 36 (.pointer none) := ⟨fun w => Tryd.zeroValue36 w⟩
instance : TyT Tryd.prog 39 1 false := ⟨fun w => Tryd.isAgg39 w, fun w => Tryd.sizeOf39 w⟩
instance : MkI Tryd.prog 39 := ⟨fun v w => by kernel_rfl⟩
instance : ZvT Tryd.prog 39 (.pointer none) := ⟨fun w => Tryd.zeroValue39 w⟩
instance : TyT Tryd.prog 40 1 false := ⟨fun w => Tryd.isAgg40 w, fun w => Tryd.sizeOf40 w⟩
instance : MkI Tryd.prog 40 := ⟨fun v w => by kernel_rfl⟩
instance : ZvT Tryd.prog 40 (.slice none 0 0) := ⟨fun w => Tryd.zeroValue40 w⟩
instance : SlT Tryd.prog 40 65 11 120 (.agg #[.int .i64 0, .int .i64 0, .int .i64 0, .int .i64 0, .int .i64 0, .int .i64 0, .bool false, .slice none 0 0, .int .i64 0, .bool false, .slice none 0 0]) := ⟨by kernel_rfl, by kernel_rfl, rfl, by decide, by decide⟩
instance : TyT Tryd.prog 41 3 true := ⟨fun w => Tryd.isAgg41 w, fun w => Tryd.sizeOf41 w⟩
instance : MkI Tryd.prog 41 := ⟨fun v w => by kernel_rfl⟩
instance : ZvT Tryd.prog 41 (.agg #[.int .i64 0, .int .i64 0, .slice none 0 0]) := ⟨fun w => Tryd.zeroValue41 w⟩
instance : FdT Tryd.prog 41 0 0 3 := ⟨fun a w => by kernel_rfl, fun cs w => by kernel_rfl⟩
instance : FdT Tryd.prog 41 1 1 3 := ⟨fun a w => by kernel_rfl, fun cs w => by kernel_rfl⟩
instance : FdT Tryd.prog 41 2 2 40 := ⟨fun a w => by kernel_rfl, fun cs w => by kernel_rfl⟩
instance : BldT Tryd.prog 41 [(0, 1), (1, 1), (2, 1)] [.int .i64 0, .int .i64 0, .slice none 0 0] := ⟨fun parts => by kernel_rfl⟩
instance : TyT Tryd.prog 42 3 true := ⟨fun w => Tryd.isAgg42 w, fun w => Tryd.sizeOf42 w⟩
instance : MkI Tryd.prog 42 := ⟨fun v w => by kernel_rfl⟩
instance : ZvT Tryd.prog 42 (.agg #[.int .i64 0, .int .i64 0, .slice none 0 0]) := ⟨fun w => Tryd.zeroValue42 w⟩
instance : FdT Tryd.prog 42 0 0 3 := ⟨fun a w => by kernel_rfl, fun cs w => by kernel_rfl⟩
instance : FdT Tryd.prog 42 1 1 3 := ⟨fun a w => by kernel_rfl, fun cs w => by kernel_rfl⟩
instance : FdT Tryd.prog 42 2 2 40 := ⟨fun a w => by kernel_rfl, fun cs w => by kernel_rfl⟩
instance : BldT Tryd.prog 42 [(0, 1), (1, 1), (2, 1)] [.int .i64 0, .int .i64 0, .slice none 0 0] := ⟨fun parts => by kernel_rfl⟩
instance : TyT Tryd.prog 53 1 false := ⟨fun w => Tryd.isAgg53 w, fun w => Tryd.sizeOf53 w⟩
instance : MkI Tryd.prog 53 := ⟨fun v w => by kernel_rfl⟩
instance : ZvT Tryd.prog 53 (.slice none 0 0) := ⟨fun w => Tryd.zeroValue53 w⟩
instance : SlT Tryd.prog 53 4 1 1 (.bool false) := ⟨by kernel_rfl, by kernel_rfl, rfl, by decide, by decide⟩
instance : TyT Tryd.prog 56 1 false := ⟨fun w => Tryd.isAgg56 w, fun w => Tryd.sizeOf56 w⟩
instance : MkI Tryd.prog 56 := ⟨fun v w => by kernel_rfl⟩
instance : IntT Tryd.prog 56 .i64 := ⟨Tryd.underlying56⟩
instance : ZvT Tryd.prog 56 (.int .i64 0) := ⟨fun w => Tryd.zeroValue56 w⟩
instance : TyT Tryd.prog 60 1 false := ⟨fun w => Tryd.isAgg60 w, fun w => Tryd.sizeOf60 w⟩
instance : MkI Tryd.prog 60 := ⟨fun v w => by kernel_rfl⟩
instance : ZvT Tryd.prog 60 (.map none) := ⟨fun w => Tryd.zeroValue60 w⟩
instance : TyT Tryd.prog 61 3 true := ⟨fun w => Tryd.isAgg61 w, fun w => Tryd.sizeOf61 w⟩
instance : MkI Tryd.prog 61 := ⟨fun v w => by kernel_rfl⟩
instance : ZvT Tryd.prog 61 (.agg #[.int .i64 0, .int .i64 0, .map none]) := ⟨fun w => Tryd.zeroValue61 w⟩
instance : FdT Tryd.prog 61 0 0 3 := ⟨fun a w => by kernel_rfl, fun cs w => by kernel_rfl⟩
instance : FdT Tryd.prog 61 1 1 3 := ⟨fun a w => by kernel_rfl, fun cs w => by kernel_rfl⟩
instance : FdT Tryd.prog 61 2 2 60 := ⟨fun a w => by kernel_rfl, fun cs w => by kernel_rfl⟩
instance : BldT Tryd.prog 61 [(0, 1), (1, 1), (2, 1)] [.int .i64 0, .int .i64 0, .map none] := ⟨fun parts => by kernel_rfl⟩
instance : TyT Tryd.prog 62 3 true := ⟨fun w => Tryd.isAgg62 w, fun w => Tryd.sizeOf62 w⟩
instance : MkI Tryd.prog 62 := ⟨fun v w => by kernel_rfl⟩
instance : ZvT Tryd.prog 62 (.agg #[.int .i64 0, .int .i64 0, .map none]) := ⟨fun w => Tryd.zeroValue62 w⟩
instance : FdT Tryd.prog 62 0 0 3 := ⟨fun a w => by kernel_rfl, fun cs w => by kernel_rfl⟩
instance : FdT Tryd.prog 62 1 1 3 := ⟨fun a w => by kernel_rfl, fun cs w => by kernel_rfl⟩
instance : FdT Tryd.prog 62 2 2 60 := ⟨fun a w => by kernel_rfl, fun cs w => by kernel_rfl⟩
instance : BldT Tryd.prog 62 [(0, 1), (1, 1), (2, 1)] [.int .i64 0, .int .i64 0, .map none] := ⟨fun parts => by kernel_rfl⟩
instance : TyT Tryd.prog 64 11 true := ⟨fun w => Tryd.isAgg64 w, fun w => Tryd.sizeOf64 w⟩
instance : MkI Tryd.prog 64 := ⟨fun v w => by kernel_rfl⟩
instance : ZvT Tryd.prog 64 (.agg #[.int .i64 0, .int .i64 0, .int .i64 0, .int .i64 0, .int .i64 0, .int .i64 0, .bool false, .slice none 0 0, .int .i64 0, .bool false, .slice none 0 0]) := ⟨fun w => Tryd.zeroValue64 w⟩
instance : FdT Tryd.prog 64 0 0 24 := ⟨fun a w => by kernel_rfl, fun cs w => by kernel_rfl⟩
instance : FdT Tryd.prog 64 1 8 3 := ⟨fun a w => by kernel_rfl, fun cs w => by kernel_rfl⟩
instance : FdT Tryd.prog 64 2 9 4 := ⟨fun a w => by kernel_rfl, fun cs w => by kernel_rfl⟩
instance : FdT Tryd.prog 64 3 10 25 := ⟨fun a w => by kernel_rfl, fun cs w => by kernel_rfl⟩
instance : BldT Tryd.prog 64 [(0, 8), (8, 1), (9, 1), (10, 1)] [.int .i64 0, .int .i64 0, .int .i64 0, .int .i64 0, .int .i64 0, .int .i64 0, .bool false, .slice none 0 0, .int .i64 0, .bool false, .slice none 0 0] := ⟨fun parts => by kernel_rfl⟩
instance : TyT Tryd.prog 65 11 true := ⟨fun w => Tryd.isAgg65 w, fun w => Tryd.sizeOf65 w⟩
instance : MkI Tryd.prog 65 := ⟨fun v w => by kernel_rfl⟩
instance : ZvT Tryd.prog 65 (.agg #[.int .i64 0, .int .i64 0, .int .i64 0, .int .i64 0, .int .i64 0, .int .i64 0, .bool false, .slice none 0 0, .int .i64 0, .bool false, .slice none 0 0]) := ⟨fun w => Tryd.zeroValue65 w⟩
instance : FdT Tryd.prog 65 0 0 24 := ⟨fun a w => by kernel_rfl, fun cs w => by kernel_rfl⟩
instance : FdT Tryd.prog 65 1 8 3 := ⟨fun a w => by kernel_rfl, fun cs w => by kernel_rfl⟩
instance : FdT Tryd.prog 65 2 9 4 := ⟨fun a w => by kernel_rfl, fun cs w => by kernel_rfl⟩
instance : FdT Tryd.prog 65 3 10 25 := ⟨fun a w => by kernel_rfl, fun cs w => by kernel_rfl⟩
instance : BldT Tryd.prog 65 [(0, 8), (8, 1), (9, 1), (10, 1)] [.int .i64 0, .int .i64 0, .int .i64 0, .int .i64 0, .int .i64 0, .int .i64 0, .bool false, .slice none 0 0, .int .i64 0, .bool false, .slice none 0 0] := ⟨fun parts => by kernel_rfl⟩
instance : TyT Tryd.prog 66 4 true := ⟨fun w => Tryd.isAgg66 w, fun w => Tryd.sizeOf66 w⟩
instance : MkI Tryd.prog 66 := ⟨fun v w => by kernel_rfl⟩
instance : ZvT Tryd.prog 66 (.agg #[.int .i64 0, .int .i64 0, .int .i64 0, .int .i64 0]) := ⟨fun w => Tryd.zeroValue66 w⟩
instance : FdT Tryd.prog 66 0 0 3 := ⟨fun a w => by kernel_rfl, fun cs w => by kernel_rfl⟩
instance : FdT Tryd.prog 66 1 1 3 := ⟨fun a w => by kernel_rfl, fun cs w => by kernel_rfl⟩
instance : FdT Tryd.prog 66 2 2 3 := ⟨fun a w => by kernel_rfl, fun cs w => by kernel_rfl⟩
instance : FdT Tryd.prog 66 3 3 3 := ⟨fun a w => by kernel_rfl, fun cs w => by kernel_rfl⟩
instance : BldT Tryd.prog 66 [(0, 1), (1, 1), (2, 1), (3, 1)] [.int .i64 0, .int .i64 0, .int .i64 0, .int .i64 0] := ⟨fun parts => by kernel_rfl⟩
instance : TyT Tryd.prog 67 4 true := ⟨fun w => Tryd.isAgg67 w, fun w => Tryd.sizeOf67 w⟩
instance : MkI Tryd.prog 67 := ⟨fun v w => by kernel_rfl⟩
instance : ZvT Tryd.prog 67 (.agg #[.int .i64 0, .int .i64 0, .int .i64 0, .int .i64 0]) := ⟨fun w => Tryd.zeroValue67 w⟩
instance : FdT Tryd.prog 67 0 0 3 := ⟨fun a w => by kernel_rfl, fun cs w => by kernel_rfl⟩
instance : FdT Tryd.prog 67 1 1 3 := ⟨fun a w => by kernel_rfl, fun cs w => by kernel_rfl⟩
instance : FdT Tryd.prog 67 2 2 3 := ⟨fun a w => by kernel_rfl, fun cs w => by kernel_rfl⟩
instance : FdT Tryd.prog 67 3 3 3 := ⟨fun a w => by kernel_rfl, fun cs w => by kernel_rfl⟩
instance : BldT Tryd.prog 67 [(0, 1), (1, 1), (2, 1), (3, 1)] [.int .i64 0, .int .i64 0, .int .i64 0, .int .i64 0] := ⟨fun parts => by kernel_rfl⟩
instance : TyT Tryd.prog 68 1 false := ⟨fun w => Tryd.isAgg68 w, fun w => Tryd.sizeOf68 w⟩
instance : MkI Tryd.prog 68 := ⟨fun v w => by kernel_rfl⟩
instance : ZvT Tryd.prog 68 (.pointer none) := ⟨fun w => Tryd.zeroValue68 w⟩
instance : TyT Tryd.prog 69 7 true := ⟨fun w => Tryd.isAgg69 w, fun w => Tryd.sizeOf69 w⟩
instance : MkI Tryd.prog 69 := ⟨fun v w => by kernel_rfl⟩
instance : ZvT Tryd.prog 69 (.agg #[.int .i64 0, .bool false, .int .i64 0, .slice none 0 0, .slice none 0 0, .int .i64 0, .int .i64 0]) := ⟨fun w => Tryd.zeroValue69 w⟩
instance : FdT Tryd.prog 69 0 0 3 := ⟨fun a w => by kernel_rfl, fun cs w => by kernel_rfl⟩
instance : FdT Tryd.prog 69 1 1 4 := ⟨fun a w => by kernel_rfl, fun cs w => by kernel_rfl⟩
instance : FdT Tryd.prog 69 2 2 3 := ⟨fun a w => by kernel_rfl, fun cs w => by kernel_rfl⟩
instance : FdT Tryd.prog 69 3 3 22 := ⟨fun a w => by kernel_rfl, fun cs w => by kernel_rfl⟩
instance : FdT Tryd.prog 69 4 4 53 := ⟨fun a w => by kernel_rfl, fun cs w => by kernel_rfl⟩
instance : FdT Tryd.prog 69 5 5 3 := ⟨fun a w => by kernel_rfl, fun cs w => by kernel_rfl⟩
instance : FdT Tryd.prog 69 6 6 3 := ⟨fun a w => by kernel_rfl, fun cs w => by kernel_rfl⟩
instance : BldT Tryd.prog 69 [(0, 1), (1, 1), (2, 1), (3, 1), (4, 1), (5, 1), (6, 1)] [.int .i64 0, .bool false, .int .i64 0, .slice none 0 0, .slice none 0 0, .int .i64 0, .int .i64 0] := ⟨fun parts => by kernel_rfl⟩
instance : TyT Tryd.prog 70 7 true := ⟨fun w => Tryd.isAgg70 w, fun w => Tryd.sizeOf70 w⟩
instance : MkI Tryd.prog 70 := ⟨fun v w => by kernel_rfl⟩
instance : ZvT Tryd.prog 70 (.agg #[.int .i64 0, .bool false, .int .i64 0, .slice none 0 0, .slice none 0 0, .int .i64 0, .int .i64 0]) := ⟨fun w => Tryd.zeroValue70 w⟩
instance : FdT Tryd.prog 70 0 0 3 := ⟨fun a w => by kernel_rfl, fun cs w => by kernel_rfl⟩
instance : FdT Tryd.prog 70 1 1 4 := ⟨fun a w => by kernel_rfl, fun cs w => by kernel_rfl⟩
instance : FdT Tryd.prog 70 2 2 3 := ⟨fun a w => by kernel_rfl, fun cs w => by kernel_rfl⟩
instance : FdT Tryd.prog 70 3 3 22 := ⟨fun a w => by kernel_rfl, fun cs w => by kernel_rfl⟩
instance : FdT Tryd.prog 70 4 4 53 := ⟨fun a w => by kernel_rfl, fun cs w => by kernel_rfl⟩
instance : FdT Tryd.prog 70 5 5 3 := ⟨fun a w => by kernel_rfl, fun cs w => by kernel_rfl⟩
instance : FdT Tryd.prog 70 6 6 3 := ⟨fun a w => by kernel_rfl, fun cs w => by kernel_rfl⟩
instance : BldT Tryd.prog 70 [(0, 1), (1, 1), (2, 1), (3, 1), (4, 1), (5, 1), (6, 1)] [.int .i64 0, .bool false, .int .i64 0, .slice none 0 0, .slice none 0 0, .int .i64 0, .int .i64 0] := ⟨fun parts => by kernel_rfl⟩
instance : TyT Tryd.prog 75 1 false := ⟨fun w => Tryd.isAgg75 w, fun w => Tryd.sizeOf75 w⟩
instance : MkI Tryd.prog 75 := ⟨fun v w => by kernel_rfl⟩
instance : ZvT Tryd.prog 75 (.pointer none) := ⟨fun w => Tryd.zeroValue75 w⟩
instance : TyT Tryd.prog 77 1 false := ⟨fun w => Tryd.isAgg77 w, fun w => Tryd.sizeOf77 w⟩
instance : MkI Tryd.prog 77 := ⟨fun v w => by kernel_rfl⟩
instance : ZvT Tryd.prog 77 (.pointer none) := ⟨fun w => Tryd.zeroValue77 w⟩
instance : TyT Tryd.prog 78 1 false := ⟨fun w => Tryd.isAgg78 w, fun w => Tryd.sizeOf78 w⟩
instance : MkI Tryd.prog 78 := ⟨fun v w => by kernel_rfl⟩
instance : IntT Tryd.prog 78 .u64 := ⟨Tryd.underlying78⟩
instance : ZvT Tryd.prog 78 (.int .u64 0) := ⟨fun w => Tryd.zeroValue78 w⟩
instance : TyT Tryd.prog 79 3 true := ⟨fun w => Tryd.isAgg79 w, fun w => Tryd.sizeOf79 w⟩
instance : MkI Tryd.prog 79 := ⟨fun v w => by kernel_rfl⟩
instance : ZvT Tryd.prog 79 (.agg #[.pointer none, .pointer none, .int .u64 0]) := ⟨fun w => Tryd.zeroValue79 w⟩
instance : FdT Tryd.prog 79 0 0 17 := ⟨fun a w => by kernel_rfl, fun cs w => by kernel_rfl⟩
instance : FdT Tryd.prog 79 1 1 77 := ⟨fun a w => by kernel_rfl, fun cs w => by kernel_rfl⟩
instance : FdT Tryd.prog 79 2 2 78 := ⟨fun a w => by kernel_rfl, fun cs w => by kernel_rfl⟩
instance : BldT Tryd.prog 79 [(0, 1), (1, 1), (2, 1)] [.pointer none, .pointer none, .int .u64 0] := ⟨fun parts => by kernel_rfl⟩
instance : TyT Tryd.prog 80 3 true := ⟨fun w => Tryd.isAgg80 w, fun w => Tryd.sizeOf80 w⟩
instance : MkI Tryd.prog 80 := ⟨fun v w => by kernel_rfl⟩
instance : ZvT Tryd.prog 80 (.agg #[.pointer none, .pointer none, .int .u64 0]) := ⟨fun w => Tryd.zeroValue80 w⟩
instance : FdT Tryd.prog 80 0 0 17 := ⟨fun a w => by kernel_rfl, fun cs w => by kernel_rfl⟩
instance : FdT Tryd.prog 80 1 1 77 := ⟨fun a w => by kernel_rfl, fun cs w => by kernel_rfl⟩
instance : FdT Tryd.prog 80 2 2 78 := ⟨fun a w => by kernel_rfl, fun cs w => by kernel_rfl⟩
instance : BldT Tryd.prog 80 [(0, 1), (1, 1), (2, 1)] [.pointer none, .pointer none, .int .u64 0] := ⟨fun parts => by kernel_rfl⟩
instance : TyT Tryd.prog 82 1 false := ⟨fun w => Tryd.isAgg82 w, fun w => Tryd.sizeOf82 w⟩
instance : IfT Tryd.prog 82 := ⟨⟨_, Tryd.underlying82⟩⟩
instance : ZvT Tryd.prog 82 (.nilIface) := ⟨fun w => Tryd.zeroValue82 w⟩
instance : TyT Tryd.prog 83 1 false := ⟨fun w => Tryd.isAgg83 w, fun w => Tryd.sizeOf83 w⟩
instance : IfT Tryd.prog 83 := ⟨⟨_, Tryd.underlying83⟩⟩
instance : ZvT Tryd.prog 83 (.nilIface) := ⟨fun w => Tryd.zeroValue83 w⟩
instance : TyT Tryd.prog 85 1 false := ⟨fun w => Tryd.isAgg85 w, fun w => Tryd.sizeOf85 w⟩
instance : MkI Tryd.prog 85 := ⟨fun v w => by kernel_rfl⟩
instance : IntT Tryd.prog 85 .u8 := ⟨Tryd.underlying85⟩
instance : ZvT Tryd.prog 85 (.int .u8 0) := ⟨fun w => Tryd.zeroValue85 w⟩
instance : TyT Tryd.prog 90 1 true := ⟨fun w => Tryd.isAgg90 w, fun w => Tryd.sizeOf90 w⟩
instance : MkI Tryd.prog 90 := ⟨fun v w => by kernel_rfl⟩
instance : ZvT Tryd.prog 90 (.agg #[.pointer none]) := ⟨fun w => Tryd.zeroValue90 w⟩
instance : FdT Tryd.prog 90 0 0 17 := ⟨fun a w => by kernel_rfl, fun cs w => by kernel_rfl⟩
instance : BldT Tryd.prog 90 [(0, 1)] [.pointer none] := ⟨fun parts => by kernel_rfl⟩
instance : TyT Tryd.prog 91 1 true := ⟨fun w => Tryd.isAgg91 w, fun w => Tryd.sizeOf91 w⟩
instance : MkI Tryd.prog 91 := ⟨fun v w => by kernel_rfl⟩
instance : ZvT Tryd.prog 91 (.agg #[.pointer none]) := ⟨fun w => Tryd.zeroValue91 w⟩
instance : FdT Tryd.prog 91 0 0 17 := ⟨fun a w => by kernel_rfl, fun cs w => by kernel_rfl⟩
instance : BldT Tryd.prog 91 [(0, 1)] [.pointer none] := ⟨fun parts => by kernel_rfl⟩
instance : TyT Tryd.prog 92 1 false := ⟨fun w => Tryd.isAgg92 w, fun w => Tryd.sizeOf92 w⟩
instance : MkI Tryd.prog 92 := ⟨fun v w => by kernel_rfl⟩
instance : ZvT Tryd.prog 92 (.pointer none) := ⟨fun w => Tryd.zeroValue92 w⟩
instance : TyT Tryd.prog 96 1 false := ⟨fun w => Tryd.isAgg96 w, fun w => Tryd.sizeOf96 w⟩
instance : IfT Tryd.prog 96 := ⟨⟨_, Tryd.underlying96⟩⟩
instance : ZvT Tryd.prog 96 (.nilIface) := ⟨fun w => Tryd.zeroValue96 w⟩
instance : TyT Tryd.prog 99 1 false := ⟨fun w => Tryd.isAgg99 w, fun w => Tryd.sizeOf99 w⟩
instance : IfT Tryd.prog 99 := ⟨⟨_, Tryd.underlying99⟩⟩
instance : ZvT Tryd.prog 99 (.nilIface) := ⟨fun w => Tryd.zeroValue99 w⟩
instance : TyT Tryd.prog 101 1 false := ⟨fun w => Tryd.isAgg101 w, fun w => Tryd.sizeOf101 w⟩
instance : IfT Tryd.prog 101 := ⟨⟨_, Tryd.underlying101⟩⟩
instance : ZvT Tryd.prog 101 (.nilIface) := ⟨fun w => Tryd.zeroValue101 w⟩
instance : TyT Tryd.prog 102 1 false := ⟨fun w => Tryd.isAgg102 w, fun w => Tryd.sizeOf102 w⟩
instance : MkI Tryd.prog 102 := ⟨fun v w => by kernel_rfl⟩
instance : ZvT Tryd.prog 102 (.slice none 0 0) := ⟨fun w => Tryd.zeroValue102 w⟩
instance : SlT Tryd.prog 102 29 1 16 (.nilIface) := ⟨by kernel_rfl, by kernel_rfl, rfl, by decide, by decide⟩
instance : TyT Tryd.prog 105 4 true := ⟨fun w => Tryd.isAgg105 w, fun w => Tryd.sizeOf105 w⟩
instance : MkI Tryd.prog 105 := ⟨fun v w => by kernel_rfl⟩
instance : ZvT Tryd.prog 105 (.agg #[.pointer none, .pointer none, .pointer none, .string ⟨#[]⟩]) := ⟨fun w => Tryd.zeroValue105 w⟩
instance : FdT Tryd.prog 105 0 0 17 := ⟨fun a w => by kernel_rfl, fun cs w => by kernel_rfl⟩
instance : FdT Tryd.prog 105 1 1 17 := ⟨fun a w => by kernel_rfl, fun cs w => by kernel_rfl⟩
instance : FdT Tryd.prog 105 2 2 17 := ⟨fun a w => by kernel_rfl, fun cs w => by kernel_rfl⟩
instance : FdT Tryd.prog 105 3 3 9 := ⟨fun a w => by kernel_rfl, fun cs w => by kernel_rfl⟩
instance : BldT Tryd.prog 105 [(0, 1), (1, 1), (2, 1), (3, 1)] [.pointer none, .pointer none, .pointer none, .string ⟨#[]⟩] := ⟨fun parts => by kernel_rfl⟩
instance : TyT Tryd.prog 106 4 true := ⟨fun w => Tryd.isAgg106 w, fun w => Tryd.sizeOf106 w⟩
instance : MkI Tryd.prog 106 := ⟨fun v w => by kernel_rfl⟩
instance : ZvT Tryd.prog 106 (.agg #[.pointer none, .pointer none, .pointer none, .string ⟨#[]⟩]) := ⟨fun w => Tryd.zeroValue106 w⟩
instance : FdT Tryd.prog 106 0 0 17 := ⟨fun a w => by kernel_rfl, fun cs w => by kernel_rfl⟩
instance : FdT Tryd.prog 106 1 1 17 := ⟨fun a w => by kernel_rfl, fun cs w => by kernel_rfl⟩
instance : FdT Tryd.prog 106 2 2 17 := ⟨fun a w => by kernel_rfl, fun cs w => by kernel_rfl⟩
instance : FdT Tryd.prog 106 3 3 9 := ⟨fun a w => by kernel_rfl, fun cs w => by kernel_rfl⟩
instance : BldT Tryd.prog 106 [(0, 1), (1, 1), (2, 1), (3, 1)] [.pointer none, .pointer none, .pointer none, .string ⟨#[]⟩] := ⟨fun parts => by kernel_rfl⟩
instance : TyT Tryd.prog 107 0 true := ⟨fun w => Tryd.isAgg107 w, fun w => Tryd.sizeOf107 w⟩
instance : MkI Tryd.prog 107 := ⟨fun v w => by kernel_rfl⟩
instance : ZvT Tryd.prog 107 (.agg #[]) := ⟨fun w => Tryd.zeroValue107 w⟩
instance : ArT Tryd.prog 107 0 16 1 := ⟨Tryd.underlying107, fun w => Tryd.sizeOf16 w⟩
instance : TyT Tryd.prog 108 0 true := ⟨fun w => Tryd.isAgg108 w, fun w => Tryd.sizeOf108 w⟩
instance : MkI Tryd.prog 108 := ⟨fun v w => by kernel_rfl⟩
instance : ZvT Tryd.prog 108 (.agg #[]) := ⟨fun w => Tryd.zeroValue108 w⟩
instance : BldT Tryd.prog 108 [(0, 0)] [] := ⟨fun parts => by kernel_rfl⟩
instance : TyT Tryd.prog 109 0 true := ⟨fun w => Tryd.isAgg109 w, fun w => Tryd.sizeOf109 w⟩
instance : MkI Tryd.prog 109 := ⟨fun v w => by kernel_rfl⟩
instance : ZvT Tryd.prog 109 (.agg #[]) := ⟨fun w => Tryd.zeroValue109 w⟩
instance : BldT Tryd.prog 109 [(0, 0)] [] := ⟨fun parts => by kernel_rfl⟩
instance : TyT Tryd.prog 111 1 false := ⟨fun w => Tryd.isAgg111 w, fun w => Tryd.sizeOf111 w⟩
instance : MkI Tryd.prog 111 := ⟨fun v w => by kernel_rfl⟩
instance : IntT Tryd.prog 111 .u32 := ⟨Tryd.underlying111⟩
instance : ZvT Tryd.prog 111 (.int .u32 0) := ⟨fun w => Tryd.zeroValue111 w⟩
instance : TyT Tryd.prog 112 1 false := ⟨fun w => Tryd.isAgg112 w, fun w => Tryd.sizeOf112 w⟩
instance : MkI Tryd.prog 112 := ⟨fun v w => by kernel_rfl⟩
instance : IntT Tryd.prog 112 .u8 := ⟨Tryd.underlying112⟩
instance : ZvT Tryd.prog 112 (.int .u8 0) := ⟨fun w => Tryd.zeroValue112 w⟩
instance : TyT Tryd.prog 114 1 false := ⟨fun w => Tryd.isAgg114 w, fun w => Tryd.sizeOf114 w⟩
instance : MkI Tryd.prog 114 := ⟨fun v w => by kernel_rfl⟩
instance : ZvT Tryd.prog 114 (.pointer none) := ⟨fun w => Tryd.zeroValue114 w⟩
instance : TyT Tryd.prog 115 1 false := ⟨fun w => Tryd.isAgg115 w, fun w => Tryd.sizeOf115 w⟩
instance : MkI Tryd.prog 115 := ⟨fun v w => by kernel_rfl⟩
instance : IntT Tryd.prog 115 .i32 := ⟨Tryd.underlying115⟩
instance : ZvT Tryd.prog 115 (.int .i32 0) := ⟨fun w => Tryd.zeroValue115 w⟩
instance : TyT Tryd.prog 116 1 false := ⟨fun w => Tryd.isAgg116 w, fun w => Tryd.sizeOf116 w⟩
instance : MkI Tryd.prog 116 := ⟨fun v w => by kernel_rfl⟩
instance : IntT Tryd.prog 116 .i32 := ⟨Tryd.underlying116⟩
instance : ZvT Tryd.prog 116 (.int .i32 0) := ⟨fun w => Tryd.zeroValue116 w⟩
instance : TyT Tryd.prog 117 11 true := ⟨fun w => Tryd.isAgg117 w, fun w => Tryd.sizeOf117 w⟩
instance : MkI Tryd.prog 117 := ⟨fun v w => by kernel_rfl⟩
instance : ZvT Tryd.prog 117 (.agg #[.int .u64 0, .int .u64 0, .int .u32 0, .int .u8 0, .int .u8 0, .int .u8 0, .int .u8 0, .nilFunc, .pointer none, .int .i32 0, .int .i32 0]) := ⟨fun w => Tryd.zeroValue117 w⟩
instance : FdT Tryd.prog 117 0 0 12 := ⟨fun a w => by kernel_rfl, fun cs w => by kernel_rfl⟩
instance : FdT Tryd.prog 117 1 1 12 := ⟨fun a w => by kernel_rfl, fun cs w => by kernel_rfl⟩
instance : FdT Tryd.prog 117 2 2 111 := ⟨fun a w => by kernel_rfl, fun cs w => by kernel_rfl⟩
instance : FdT Tryd.prog 117 3 3 112 := ⟨fun a w => by kernel_rfl, fun cs w => by kernel_rfl⟩
instance : FdT Tryd.prog 117 4 4 5 := ⟨fun a w => by kernel_rfl, fun cs w => by kernel_rfl⟩
instance : FdT Tryd.prog 117 5 5 5 := ⟨fun a w => by kernel_rfl, fun cs w => by kernel_rfl⟩
instance : FdT Tryd.prog 117 6 6 85 := ⟨fun a w => by kernel_rfl, fun cs w => by kernel_rfl⟩
instance : FdT Tryd.prog 117 8 8 114 := ⟨fun a w => by kernel_rfl, fun cs w => by kernel_rfl⟩
instance : FdT Tryd.prog 117 9 9 115 := ⟨fun a w => by kernel_rfl, fun cs w => by kernel_rfl⟩
instance : FdT Tryd.prog 117 10 10 116 := ⟨fun a w => by kernel_rfl, fun cs w => by kernel_rfl⟩
instance : TyT Tryd.prog 118 11 true := ⟨fun w => Tryd.isAgg118 w, fun w => Tryd.sizeOf118 w⟩
instance : MkI Tryd.prog 118 := ⟨fun v w => by kernel_rfl⟩
instance : ZvT Tryd.prog 118 (.agg #[.int .u64 0, .int .u64 0, .int .u32 0, .int .u8 0, .int .u8 0, .int .u8 0, .int .u8 0, .nilFunc, .pointer none, .int .i32 0, .int .i32 0]) := ⟨fun w => Tryd.zeroValue118 w⟩
instance : FdT Tryd.prog 118 0 0 12 := ⟨fun a w => by kernel_rfl, fun cs w => by kernel_rfl⟩
instance : FdT Tryd.prog 118 1 1 12 := ⟨fun a w => by kernel_rfl, fun cs w => by kernel_rfl⟩
instance : FdT Tryd.prog 118 2 2 111 := ⟨fun a w => by kernel_rfl, fun cs w => by kernel_rfl⟩
instance : FdT Tryd.prog 118 3 3 112 := ⟨fun a w => by kernel_rfl, fun cs w => by kernel_rfl⟩
instance : FdT Tryd.prog 118 4 4 5 := ⟨fun a w => by kernel_rfl, fun cs w => by kernel_rfl⟩
instance : FdT Tryd.prog 118 5 5 5 := ⟨fun a w => by kernel_rfl, fun cs w => by kernel_rfl⟩
instance : FdT Tryd.prog 118 6 6 85 := ⟨fun a w => by kernel_rfl, fun cs w => by kernel_rfl⟩
instance : FdT Tryd.prog 118 8 8 114 := ⟨fun a w => by kernel_rfl, fun cs w => by kernel_rfl⟩
instance : FdT Tryd.prog 118 9 9 115 := ⟨fun a w => by kernel_rfl, fun cs w => by kernel_rfl⟩
instance : FdT Tryd.prog 118 10 10 116 := ⟨fun a w => by kernel_rfl, fun cs w => by kernel_rfl⟩
instance : TyT Tryd.prog 121 2 true := ⟨fun w => Tryd.isAgg121 w, fun w => Tryd.sizeOf121 w⟩
instance : MkI Tryd.prog 121 := ⟨fun v w => by kernel_rfl⟩
instance : ZvT Tryd.prog 121 (.agg #[.string ⟨#[]⟩, .int .u8 0]) := ⟨fun w => Tryd.zeroValue121 w⟩
instance : FdT Tryd.prog 121 0 0 9 := ⟨fun a w => by kernel_rfl, fun cs w => by kernel_rfl⟩
instance : FdT Tryd.prog 121 1 1 85 := ⟨fun a w => by kernel_rfl, fun cs w => by kernel_rfl⟩
instance : BldT Tryd.prog 121 [(0, 1), (1, 1)] [.string ⟨#[]⟩, .int .u8 0] := ⟨fun parts => by kernel_rfl⟩
instance : TyT Tryd.prog 122 2 true := ⟨fun w => Tryd.isAgg122 w, fun w => Tryd.sizeOf122 w⟩
instance : MkI Tryd.prog 122 := ⟨fun v w => by kernel_rfl⟩
instance : ZvT Tryd.prog 122 (.agg #[.string ⟨#[]⟩, .int .u8 0]) := ⟨fun w => Tryd.zeroValue122 w⟩
instance : FdT Tryd.prog 122 0 0 9 := ⟨fun a w => by kernel_rfl, fun cs w => by kernel_rfl⟩
instance : FdT Tryd.prog 122 1 1 85 := ⟨fun a w => by kernel_rfl, fun cs w => by kernel_rfl⟩
instance : BldT Tryd.prog 122 [(0, 1), (1, 1)] [.string ⟨#[]⟩, .int .u8 0] := ⟨fun parts => by kernel_rfl⟩
instance : TyT Tryd.prog 123 1 false := ⟨fun w => Tryd.isAgg123 w, fun w => Tryd.sizeOf123 w⟩
instance : MkI Tryd.prog 123 := ⟨fun v w => by kernel_rfl⟩
instance : ZvT Tryd.prog 123 (.pointer none) := ⟨fun w => Tryd.zeroValue123 w⟩
instance : TyT Tryd.prog 125 1 false := ⟨fun w => Tryd.isAgg125 w, fun w => Tryd.sizeOf125 w⟩
instance : MkI Tryd.prog 125 := ⟨fun v w => by kernel_rfl⟩
instance : IntT Tryd.prog 125 .u16 := ⟨Tryd.underlying125⟩
instance : ZvT Tryd.prog 125 (.int .u16 0) := ⟨fun w => Tryd.zeroValue125 w⟩
instance : TyT Tryd.prog 126 5 true := ⟨fun w => Tryd.isAgg126 w, fun w => Tryd.sizeOf126 w⟩
instance : MkI Tryd.prog 126 := ⟨fun v w => by kernel_rfl⟩
instance : ZvT Tryd.prog 126 (.agg #[.int .i32 0, .int .u16 0, .int .u16 0, .int .u32 0, .int .u32 0]) := ⟨fun w => Tryd.zeroValue126 w⟩
instance : FdT Tryd.prog 126 0 0 115 := ⟨fun a w => by kernel_rfl, fun cs w => by kernel_rfl⟩
instance : FdT Tryd.prog 126 1 1 125 := ⟨fun a w => by kernel_rfl, fun cs w => by kernel_rfl⟩
instance : FdT Tryd.prog 126 2 2 125 := ⟨fun a w => by kernel_rfl, fun cs w => by kernel_rfl⟩
instance : FdT Tryd.prog 126 3 3 111 := ⟨fun a w => by kernel_rfl, fun cs w => by kernel_rfl⟩
instance : FdT Tryd.prog 126 4 4 111 := ⟨fun a w => by kernel_rfl, fun cs w => by kernel_rfl⟩
instance : BldT Tryd.prog 126 [(0, 1), (1, 1), (2, 1), (3, 1), (4, 1)] [.int .i32 0, .int .u16 0, .int .u16 0, .int .u32 0, .int .u32 0] := ⟨fun parts => by kernel_rfl⟩
instance : TyT Tryd.prog 127 5 true := ⟨fun w => Tryd.isAgg127 w, fun w => Tryd.sizeOf127 w⟩
instance : MkI Tryd.prog 127 := ⟨fun v w => by kernel_rfl⟩
instance : ZvT Tryd.prog 127 (.agg #[.int .i32 0, .int .u16 0, .int .u16 0, .int .u32 0, .int .u32 0]) := ⟨fun w => Tryd.zeroValue127 w⟩
instance : FdT Tryd.prog 127 0 0 115 := ⟨fun a w => by kernel_rfl, fun cs w => by kernel_rfl⟩
instance : FdT Tryd.prog 127 1 1 125 := ⟨fun a w => by kernel_rfl, fun cs w => by kernel_rfl⟩
instance : FdT Tryd.prog 127 2 2 125 := ⟨fun a w => by kernel_rfl, fun cs w => by kernel_rfl⟩
instance : FdT Tryd.prog 127 3 3 111 := ⟨fun a w => by kernel_rfl, fun cs w => by kernel_rfl⟩
instance : FdT Tryd.prog 127 4 4 111 := ⟨fun a w => by kernel_rfl, fun cs w => by kernel_rfl⟩
instance : BldT Tryd.prog 127 [(0, 1), (1, 1), (2, 1), (3, 1), (4, 1)] [.int .i32 0, .int .u16 0, .int .u16 0, .int .u32 0, .int .u32 0] := ⟨fun parts => by kernel_rfl⟩
instance : TyT Tryd.prog 128 1 false := ⟨fun w => Tryd.isAgg128 w, fun w => Tryd.sizeOf128 w⟩
instance : MkI Tryd.prog 128 := ⟨fun v w => by kernel_rfl⟩
instance : ZvT Tryd.prog 128 (.slice none 0 0) := ⟨fun w => Tryd.zeroValue128 w⟩
instance : SlT Tryd.prog 128 131 4 16 (.agg #[.int .i32 0, .int .i32 0, .int .i32 0, .int .i32 0]) := ⟨by kernel_rfl, by kernel_rfl, rfl, by decide, by decide⟩
instance : TyT Tryd.prog 129 1 false := ⟨fun w => Tryd.isAgg129 w, fun w => Tryd.sizeOf129 w⟩
instance : MkI Tryd.prog 129 := ⟨fun v w => by kernel_rfl⟩
instance : IntT Tryd.prog 129 .i32 := ⟨Tryd.underlying129⟩
instance : ZvT Tryd.prog 129 (.int .i32 0) := ⟨fun w => Tryd.zeroValue129 w⟩
instance : TyT Tryd.prog 130 4 true := ⟨fun w => Tryd.isAgg130 w, fun w => Tryd.sizeOf130 w⟩
instance : MkI Tryd.prog 130 := ⟨fun v w => by kernel_rfl⟩
instance : ZvT Tryd.prog 130 (.agg #[.int .i32 0, .int .i32 0, .int .i32 0, .int .i32 0]) := ⟨fun w => Tryd.zeroValue130 w⟩
instance : FdT Tryd.prog 130 0 0 115 := ⟨fun a w => by kernel_rfl, fun cs w => by kernel_rfl⟩
instance : FdT Tryd.prog 130 1 1 116 := ⟨fun a w => by kernel_rfl, fun cs w => by kernel_rfl⟩
instance : FdT Tryd.prog 130 2 2 129 := ⟨fun a w => by kernel_rfl, fun cs w => by kernel_rfl⟩
instance : FdT Tryd.prog 130 3 3 129 := ⟨fun a w => by kernel_rfl, fun cs w => by kernel_rfl⟩
instance : BldT Tryd.prog 130 [(0, 1), (1, 1), (2, 1), (3, 1)] [.int .i32 0, .int .i32 0, .int .i32 0, .int .i32 0] := ⟨fun parts => by kernel_rfl⟩
instance : TyT Tryd.prog 131 4 true := ⟨fun w => Tryd.isAgg131 w, fun w => Tryd.sizeOf131 w⟩
instance : MkI Tryd.prog 131 := ⟨fun v w => by kernel_rfl⟩
instance : ZvT Tryd.prog 131 (.agg #[.int .i32 0, .int .i32 0, .int .i32 0, .int .i32 0]) := ⟨fun w => Tryd.zeroValue131 w⟩
instance : FdT Tryd.prog 131 0 0 115 := ⟨fun a w => by kernel_rfl, fun cs w => by kernel_rfl⟩
instance : FdT Tryd.prog 131 1 1 116 := ⟨fun a w => by kernel_rfl, fun cs w => by kernel_rfl⟩
instance : FdT Tryd.prog 131 2 2 129 := ⟨fun a w => by kernel_rfl, fun cs w => by kernel_rfl⟩
instance : FdT Tryd.prog 131 3 3 129 := ⟨fun a w => by kernel_rfl, fun cs w => by kernel_rfl⟩
instance : BldT Tryd.prog 131 [(0, 1), (1, 1), (2, 1), (3, 1)] [.int .i32 0, .int .i32 0, .int .i32 0, .int .i32 0] := ⟨fun parts => by kernel_rfl⟩
instance : TyT Tryd.prog 132 1 false := ⟨fun w => Tryd.isAgg132 w, fun w => Tryd.sizeOf132 w⟩
instance : MkI Tryd.prog 132 := ⟨fun v w => by kernel_rfl⟩
instance : ZvT Tryd.prog 132 (.pointer none) := ⟨fun w => Tryd.zeroValue132 w⟩
/- Functions with a body. -/
instance : CalT Tryd.prog 2 := ⟨fun args w => Tryd.call2 args w⟩
instance : CalT Tryd.prog 3 := ⟨fun args w => Tryd.call3 args w⟩
instance : CalT Tryd.prog 4 := ⟨fun args w => Tryd.call4 args w⟩
instance : CalT Tryd.prog 5 := ⟨fun args w => Tryd.call5 args w⟩
instance : CalT Tryd.prog 6 := ⟨fun args w => Tryd.call6 args w⟩
instance : CalT Tryd.prog 7 := ⟨fun args w => Tryd.call7 args w⟩
instance : CalT Tryd.prog 8 := ⟨fun args w => Tryd.call8 args w⟩
instance : CalT Tryd.prog 9 := ⟨fun args w => Tryd.call9 args w⟩
instance : CalT Tryd.prog 10 := ⟨fun args w => Tryd.call10 args w⟩
instance : CalT Tryd.prog 11 := ⟨fun args w => Tryd.call11 args w⟩
instance : CalT Tryd.prog 12 := ⟨fun args w => Tryd.call12 args w⟩
instance : CalT Tryd.prog 13 := ⟨fun args w => Tryd.call13 args w⟩
instance : CalT Tryd.prog 14 := ⟨fun args w => Tryd.call14 args w⟩
instance : CalT Tryd.prog 15 := ⟨fun args w => Tryd.call15 args w⟩
instance : CalT Tryd.prog 16 := ⟨fun args w => Tryd.call16 args w⟩
instance : CalT Tryd.prog 17 := ⟨fun args w => Tryd.call17 args w⟩
instance : CalT Tryd.prog 18 := ⟨fun args w => Tryd.call18 args w⟩
instance : CalT Tryd.prog 19 := ⟨fun args w => Tryd.call19 args w⟩
instance : CalT Tryd.prog 20 := ⟨fun args w => Tryd.call20 args w⟩
instance : CalT Tryd.prog 21 := ⟨fun args w => Tryd.call21 args w⟩
instance : CalT Tryd.prog 22 := ⟨fun args w => Tryd.call22 args w⟩
instance : CalT Tryd.prog 23 := ⟨fun args w => Tryd.call23 args w⟩
instance : CalT Tryd.prog 24 := ⟨fun args w => Tryd.call24 args w⟩
instance : CalT Tryd.prog 25 := ⟨fun args w => Tryd.call25 args w⟩
instance : CalT Tryd.prog 26 := ⟨fun args w => Tryd.call26 args w⟩
instance : CalT Tryd.prog 27 := ⟨fun args w => Tryd.call27 args w⟩
instance : CalT Tryd.prog 31 := ⟨fun args w => Tryd.call31 args w⟩
instance : CalT Tryd.prog 71 := ⟨fun args w => Tryd.call71 args w⟩
end Go.Proofs.YtlpdapfihgpheaaDoor
