/- The seat's types and functions, as instances. Printed by wip/tools/types.py. -/
import Derived.Test.YtchkpkeljcdccaaDoorEngB
import Derived.Test.YtchkpkeljcdccaaDoorProg
import Derived.KernelRfl
namespace Go.Proofs.YtchkpkeljcdccaaDoor
open Go.Port
instance : TyT Tryd.prog 2 1 false := ⟨fun w => Tryd.isAgg2 w, fun w => Tryd.sizeOf2 w⟩
instance : MkI Tryd.prog 2 := ⟨fun v w => by kernel_rfl⟩
instance : IntT Tryd.prog 2 .i64 := ⟨Tryd.underlying2⟩
instance : ZvT Tryd.prog 2 (.int .i64 0) := ⟨fun w => Tryd.zeroValue2 w⟩
instance : TyT Tryd.prog 3 1 false := ⟨fun w => Tryd.isAgg3 w, fun w => Tryd.sizeOf3 w⟩
instance : MkI Tryd.prog 3 := ⟨fun v w => by kernel_rfl⟩
instance : IntT Tryd.prog 3 .i64 := ⟨Tryd.underlying3⟩
instance : ZvT Tryd.prog 3 (.int .i64 0) := ⟨fun w => Tryd.zeroValue3 w⟩
instance : TyT Tryd.prog 4 1 false := ⟨fun w => Tryd.isAgg4 w, fun w => Tryd.sizeOf4 w⟩
instance : MkI Tryd.prog 4 := ⟨fun v w => by kernel_rfl⟩
instance : ZvT Tryd.prog 4 (.bool false) := ⟨fun w => Tryd.zeroValue4 w⟩
instance : TyT Tryd.prog 5 1 false := ⟨fun w => Tryd.isAgg5 w, fun w => Tryd.sizeOf5 w⟩
instance : MkI Tryd.prog 5 := ⟨fun v w => by kernel_rfl⟩
instance : IntT Tryd.prog 5 .u8 := ⟨Tryd.underlying5⟩
instance : ZvT Tryd.prog 5 (.int .u8 0) := ⟨fun w => Tryd.zeroValue5 w⟩
instance : TyT Tryd.prog 6 1 false := ⟨fun w => Tryd.isAgg6 w, fun w => Tryd.sizeOf6 w⟩
instance : MkI Tryd.prog 6 := ⟨fun v w => by kernel_rfl⟩
instance : IntT Tryd.prog 6 .u8 := ⟨Tryd.underlying6⟩
instance : ZvT Tryd.prog 6 (.int .u8 0) := ⟨fun w => Tryd.zeroValue6 w⟩
instance : TyT Tryd.prog 7 4 true := ⟨fun w => Tryd.isAgg7 w, fun w => Tryd.sizeOf7 w⟩
instance : MkI Tryd.prog 7 := ⟨fun v w => by kernel_rfl⟩
instance : ZvT Tryd.prog 7 (.agg #[.int .i64 0, .int .i64 0, .bool false, .int .u8 0]) := ⟨fun w => Tryd.zeroValue7 w⟩
instance : FdT Tryd.prog 7 0 0 2 := ⟨fun a w => by kernel_rfl, fun cs w => by kernel_rfl⟩
instance : FdT Tryd.prog 7 1 1 3 := ⟨fun a w => by kernel_rfl, fun cs w => by kernel_rfl⟩
instance : FdT Tryd.prog 7 2 2 4 := ⟨fun a w => by kernel_rfl, fun cs w => by kernel_rfl⟩
instance : FdT Tryd.prog 7 3 3 6 := ⟨fun a w => by kernel_rfl, fun cs w => by kernel_rfl⟩
instance : BldT Tryd.prog 7 [(0, 1), (1, 1), (2, 1), (3, 1)] [.int .i64 0, .int .i64 0, .bool false, .int .u8 0] := ⟨fun parts => by kernel_rfl⟩
instance : TyT Tryd.prog 8 4 true := ⟨fun w => Tryd.isAgg8 w, fun w => Tryd.sizeOf8 w⟩
instance : MkI Tryd.prog 8 := ⟨fun v w => by kernel_rfl⟩
instance : ZvT Tryd.prog 8 (.agg #[.int .i64 0, .int .i64 0, .bool false, .int .u8 0]) := ⟨fun w => Tryd.zeroValue8 w⟩
instance : FdT Tryd.prog 8 0 0 2 := ⟨fun a w => by kernel_rfl, fun cs w => by kernel_rfl⟩
instance : FdT Tryd.prog 8 1 1 3 := ⟨fun a w => by kernel_rfl, fun cs w => by kernel_rfl⟩
instance : FdT Tryd.prog 8 2 2 4 := ⟨fun a w => by kernel_rfl, fun cs w => by kernel_rfl⟩
instance : FdT Tryd.prog 8 3 3 6 := ⟨fun a w => by kernel_rfl, fun cs w => by kernel_rfl⟩
instance : BldT Tryd.prog 8 [(0, 1), (1, 1), (2, 1), (3, 1)] [.int .i64 0, .int .i64 0, .bool false, .int .u8 0] := ⟨fun parts => by kernel_rfl⟩
instance : TyT Tryd.prog 9 1 false := ⟨fun w => Tryd.isAgg9 w, fun w => Tryd.sizeOf9 w⟩
instance : MkI Tryd.prog 9 := ⟨fun v w => by kernel_rfl⟩
instance : StrT Tryd.prog 9 := ⟨Tryd.underlying9⟩
instance : ZvT Tryd.prog 9 (.string ⟨#[]⟩) := ⟨fun w => Tryd.zeroValue9 w⟩
instance : TyT Tryd.prog 10 1 false := ⟨fun w => Tryd.isAgg10 w, fun w => Tryd.sizeOf10 w⟩
instance : MkI Tryd.prog 10 := ⟨fun v w => by kernel_rfl⟩
instance : StrT Tryd.prog 10 := ⟨Tryd.underlying10⟩
instance : ZvT Tryd.prog 10 (.string ⟨#[]⟩) := ⟨fun w => Tryd.zeroValue10 w⟩
instance : TyT Tryd.prog 11 1 false := ⟨fun w => Tryd.isAgg11 w, fun w => Tryd.sizeOf11 w⟩
instance : MkI Tryd.prog 11 := ⟨fun v w => by kernel_rfl⟩
instance : StrT Tryd.prog 11 := ⟨Tryd.underlying11⟩
instance : ZvT Tryd.prog 11 (.string ⟨#[]⟩) := ⟨fun w => Tryd.zeroValue11 w⟩
instance : TyT Tryd.prog 12 1 false := ⟨fun w => Tryd.isAgg12 w, fun w => Tryd.sizeOf12 w⟩
instance : MkI Tryd.prog 12 := ⟨fun v w => by kernel_rfl⟩
instance : IntT Tryd.prog 12 .u64 := ⟨Tryd.underlying12⟩
instance : ZvT Tryd.prog 12 (.int .u64 0) := ⟨fun w => Tryd.zeroValue12 w⟩
instance : TyT Tryd.prog 13 2 true := ⟨fun w => Tryd.isAgg13 w, fun w => Tryd.sizeOf13 w⟩
instance : MkI Tryd.prog 13 := ⟨fun v w => by kernel_rfl⟩
instance : ZvT Tryd.prog 13 (.agg #[.string ⟨#[]⟩, .int .u64 0]) := ⟨fun w => Tryd.zeroValue13 w⟩
instance : FdT Tryd.prog 13 0 0 9 := ⟨fun a w => by kernel_rfl, fun cs w => by kernel_rfl⟩
instance : FdT Tryd.prog 13 1 1 12 := ⟨fun a w => by kernel_rfl, fun cs w => by kernel_rfl⟩
instance : BldT Tryd.prog 13 [(0, 1), (1, 1)] [.string ⟨#[]⟩, .int .u64 0] := ⟨fun parts => by kernel_rfl⟩
instance : TyT Tryd.prog 14 2 true := ⟨fun w => Tryd.isAgg14 w, fun w => Tryd.sizeOf14 w⟩
instance : MkI Tryd.prog 14 := ⟨fun v w => by kernel_rfl⟩
instance : ZvT Tryd.prog 14 (.agg #[.string ⟨#[]⟩, .int .u64 0]) := ⟨fun w => Tryd.zeroValue14 w⟩
instance : FdT Tryd.prog 14 0 0 9 := ⟨fun a w => by kernel_rfl, fun cs w => by kernel_rfl⟩
instance : FdT Tryd.prog 14 1 1 12 := ⟨fun a w => by kernel_rfl, fun cs w => by kernel_rfl⟩
instance : BldT Tryd.prog 14 [(0, 1), (1, 1)] [.string ⟨#[]⟩, .int .u64 0] := ⟨fun parts => by kernel_rfl⟩
instance : TyT Tryd.prog 15 1 false := ⟨fun w => Tryd.isAgg15 w, fun w => Tryd.sizeOf15 w⟩
instance : MkI Tryd.prog 15 := ⟨fun v w => by kernel_rfl⟩
instance : ZvT Tryd.prog 15 (.pointer none) := ⟨fun w => Tryd.zeroValue15 w⟩
instance : TyT Tryd.prog 16 1 false := ⟨fun w => Tryd.isAgg16 w, fun w => Tryd.sizeOf16 w⟩
instance : MkI Tryd.prog 16 := ⟨fun v w => by kernel_rfl⟩
instance : ZvT Tryd.prog 16 (.pointer none) := ⟨fun w => Tryd.zeroValue16 w⟩
instance : TyT Tryd.prog 17 1 false := ⟨fun w => Tryd.isAgg17 w, fun w => Tryd.sizeOf17 w⟩
instance : MkI Tryd.prog 17 := ⟨fun v w => by kernel_rfl⟩
instance : ZvT Tryd.prog 17 (.pointer none) := ⟨fun w => Tryd.zeroValue17 w⟩
instance : TyT Tryd.prog 18 1 true := ⟨fun w => Tryd.isAgg18 w, fun w => Tryd.sizeOf18 w⟩
instance : MkI Tryd.prog 18 := ⟨fun v w => by kernel_rfl⟩
instance : ZvT Tryd.prog 18 (.agg #[.pointer none]) := ⟨fun w => Tryd.zeroValue18 w⟩
instance : FdT Tryd.prog 18 0 0 17 := ⟨fun a w => by kernel_rfl, fun cs w => by kernel_rfl⟩
instance : BldT Tryd.prog 18 [(0, 1)] [.pointer none] := ⟨fun parts => by kernel_rfl⟩
instance : TyT Tryd.prog 19 1 true := ⟨fun w => Tryd.isAgg19 w, fun w => Tryd.sizeOf19 w⟩
instance : MkI Tryd.prog 19 := ⟨fun v w => by kernel_rfl⟩
instance : ZvT Tryd.prog 19 (.agg #[.pointer none]) := ⟨fun w => Tryd.zeroValue19 w⟩
instance : FdT Tryd.prog 19 0 0 17 := ⟨fun a w => by kernel_rfl, fun cs w => by kernel_rfl⟩
instance : BldT Tryd.prog 19 [(0, 1)] [.pointer none] := ⟨fun parts => by kernel_rfl⟩
instance : TyT Tryd.prog 20 1 false := ⟨fun w => Tryd.isAgg20 w, fun w => Tryd.sizeOf20 w⟩
instance : IfT Tryd.prog 20 := ⟨⟨_, Tryd.underlying20⟩⟩
instance : ZvT Tryd.prog 20 (.nilIface) := ⟨fun w => Tryd.zeroValue20 w⟩
instance : TyT Tryd.prog 21 1 false := ⟨fun w => Tryd.isAgg21 w, fun w => Tryd.sizeOf21 w⟩
instance : MkI Tryd.prog 21 := ⟨fun v w => by kernel_rfl⟩
instance : IntT Tryd.prog 21 .i32 := ⟨Tryd.underlying21⟩
instance : ZvT Tryd.prog 21 (.int .i32 0) := ⟨fun w => Tryd.zeroValue21 w⟩
instance : TyT Tryd.prog 22 2 true := ⟨fun w => Tryd.isAgg22 w, fun w => Tryd.sizeOf22 w⟩
instance : MkI Tryd.prog 22 := ⟨fun v w => by kernel_rfl⟩
instance : ZvT Tryd.prog 22 (.agg #[.int .i64 0, .int .i64 0]) := ⟨fun w => Tryd.zeroValue22 w⟩
instance : FdT Tryd.prog 22 0 0 3 := ⟨fun a w => by kernel_rfl, fun cs w => by kernel_rfl⟩
instance : FdT Tryd.prog 22 1 1 3 := ⟨fun a w => by kernel_rfl, fun cs w => by kernel_rfl⟩
instance : BldT Tryd.prog 22 [(0, 1), (1, 1)] [.int .i64 0, .int .i64 0] := ⟨fun parts => by kernel_rfl⟩
instance : TyT Tryd.prog 23 2 true := ⟨fun w => Tryd.isAgg23 w, fun w => Tryd.sizeOf23 w⟩
instance : MkI Tryd.prog 23 := ⟨fun v w => by kernel_rfl⟩
instance : ZvT Tryd.prog 23 (.agg #[.int .i64 0, .int .i64 0]) := ⟨fun w => Tryd.zeroValue23 w⟩
instance : FdT Tryd.prog 23 0 0 3 := ⟨fun a w => by kernel_rfl, fun cs w => by kernel_rfl⟩
instance : FdT Tryd.prog 23 1 1 3 := ⟨fun a w => by kernel_rfl, fun cs w => by kernel_rfl⟩
instance : BldT Tryd.prog 23 [(0, 1), (1, 1)] [.int .i64 0, .int .i64 0] := ⟨fun parts => by kernel_rfl⟩
instance : TyT Tryd.prog 24 1 false := ⟨fun w => Tryd.isAgg24 w, fun w => Tryd.sizeOf24 w⟩
instance : MkI Tryd.prog 24 := ⟨fun v w => by kernel_rfl⟩
instance : ZvT Tryd.prog 24 (.slice none 0 0) := ⟨fun w => Tryd.zeroValue24 w⟩
instance : SlT Tryd.prog 24 23 2 16 (.agg #[.int .i64 0, .int .i64 0]) := ⟨by kernel_rfl, by kernel_rfl, rfl, by decide, by decide⟩
instance : TyT Tryd.prog 32 1 false := ⟨fun w => Tryd.isAgg32 w, fun w => Tryd.sizeOf32 w⟩
instance : IfT Tryd.prog 32 := ⟨⟨_, Tryd.underlying32⟩⟩
instance : ZvT Tryd.prog 32 (.nilIface) := ⟨fun w => Tryd.zeroValue32 w⟩
instance : TyT Tryd.prog 33 1 false := ⟨fun w => Tryd.isAgg33 w, fun w => Tryd.sizeOf33 w⟩
instance : IfT Tryd.prog 33 := ⟨⟨_, Tryd.underlying33⟩⟩
instance : ZvT Tryd.prog 33 (.nilIface) := ⟨fun w => Tryd.zeroValue33 w⟩
instance : TyT Tryd.prog 41 1 false := ⟨fun w => Tryd.isAgg41 w, fun w => Tryd.sizeOf41 w⟩
instance : MkI Tryd.prog 41 := ⟨fun v w => by kernel_rfl⟩
instance : ZvT Tryd.prog 41 (.slice none 0 0) := ⟨fun w => Tryd.zeroValue41 w⟩
instance : SlT Tryd.prog 41 45 2 16 (.agg #[.int .i64 0, .int .i64 0]) := ⟨by kernel_rfl, by kernel_rfl, rfl, by decide, by decide⟩
instance : TyT Tryd.prog 45 2 true := ⟨fun w => Tryd.isAgg45 w, fun w => Tryd.sizeOf45 w⟩
instance : MkI Tryd.prog 45 := ⟨fun v w => by kernel_rfl⟩
instance : ZvT Tryd.prog 45 (.agg #[.int .i64 0, .int .i64 0]) := ⟨fun w => Tryd.zeroValue45 w⟩
instance : ArT Tryd.prog 45 2 3 1 := ⟨Tryd.underlying45, fun w => Tryd.sizeOf3 w⟩
instance : TyT Tryd.prog 53 1 false := ⟨fun w => Tryd.isAgg53 w, fun w => Tryd.sizeOf53 w⟩
instance : MkI Tryd.prog 53 := ⟨fun v w => by kernel_rfl⟩
instance : ZvT Tryd.prog 53 (.slice none 0 0) := ⟨fun w => Tryd.zeroValue53 w⟩
instance : SlT Tryd.prog 53 57 11 104 (.agg #[.bool false, .bool false, .bool false, .int .i64 0, .int .i64 0, .int .i64 0, .int .i64 0, .int .i64 0, .int .i64 0, .slice none 0 0, .slice none 0 0]) := ⟨by kernel_rfl, by kernel_rfl, rfl, by decide, by decide⟩
instance : TyT Tryd.prog 54 5 true := ⟨fun w => Tryd.isAgg54 w, fun w => Tryd.sizeOf54 w⟩
instance : MkI Tryd.prog 54 := ⟨fun v w => by kernel_rfl⟩
instance : ZvT Tryd.prog 54 (.agg #[.int .i64 0, .int .i64 0, .int .i64 0, .int .i64 0, .int .i64 0]) := ⟨fun w => Tryd.zeroValue54 w⟩
instance : FdT Tryd.prog 54 0 0 3 := ⟨fun a w => by kernel_rfl, fun cs w => by kernel_rfl⟩
instance : FdT Tryd.prog 54 1 1 3 := ⟨fun a w => by kernel_rfl, fun cs w => by kernel_rfl⟩
instance : FdT Tryd.prog 54 2 2 3 := ⟨fun a w => by kernel_rfl, fun cs w => by kernel_rfl⟩
instance : FdT Tryd.prog 54 3 3 3 := ⟨fun a w => by kernel_rfl, fun cs w => by kernel_rfl⟩
instance : FdT Tryd.prog 54 4 4 3 := ⟨fun a w => by kernel_rfl, fun cs w => by kernel_rfl⟩
instance : BldT Tryd.prog 54 [(0, 1), (1, 1), (2, 1), (3, 1), (4, 1)] [.int .i64 0, .int .i64 0, .int .i64 0, .int .i64 0, .int .i64 0] := ⟨fun parts => by kernel_rfl⟩
instance : TyT Tryd.prog 55 5 true := ⟨fun w => Tryd.isAgg55 w, fun w => Tryd.sizeOf55 w⟩
instance : MkI Tryd.prog 55 := ⟨fun v w => by kernel_rfl⟩
instance : ZvT Tryd.prog 55 (.agg #[.int .i64 0, .int .i64 0, .int .i64 0, .int .i64 0, .int .i64 0]) := ⟨fun w => Tryd.zeroValue55 w⟩
instance : FdT Tryd.prog 55 0 0 3 := ⟨fun a w => by kernel_rfl, fun cs w => by kernel_rfl⟩
instance : FdT Tryd.prog 55 1 1 3 := ⟨fun a w => by kernel_rfl, fun cs w => by kernel_rfl⟩
instance : FdT Tryd.prog 55 2 2 3 := ⟨fun a w => by kernel_rfl, fun cs w => by kernel_rfl⟩
instance : FdT Tryd.prog 55 3 3 3 := ⟨fun a w => by kernel_rfl, fun cs w => by kernel_rfl⟩
instance : FdT Tryd.prog 55 4 4 3 := ⟨fun a w => by kernel_rfl, fun cs w => by kernel_rfl⟩
instance : BldT Tryd.prog 55 [(0, 1), (1, 1), (2, 1), (3, 1), (4, 1)] [.int .i64 0, .int .i64 0, .int .i64 0, .int .i64 0, .int .i64 0] := ⟨fun parts => by kernel_rfl⟩
instance : TyT Tryd.prog 56 11 true := ⟨fun w => Tryd.isAgg56 w, fun w => Tryd.sizeOf56 w⟩
instance : MkI Tryd.prog 56 := ⟨fun v w => by kernel_rfl⟩
instance : ZvT Tryd.prog 56 (.agg #[.bool false, .bool false, .bool false, .int .i64 0, .int .i64 0, .int .i64 0, .int .i64 0, .int .i64 0, .int .i64 0, .slice none 0 0, .slice none 0 0]) := ⟨fun w => Tryd.zeroValue56 w⟩
instance : FdT Tryd.prog 56 0 0 4 := ⟨fun a w => by kernel_rfl, fun cs w => by kernel_rfl⟩
instance : FdT Tryd.prog 56 1 1 4 := ⟨fun a w => by kernel_rfl, fun cs w => by kernel_rfl⟩
instance : FdT Tryd.prog 56 2 2 4 := ⟨fun a w => by kernel_rfl, fun cs w => by kernel_rfl⟩
instance : FdT Tryd.prog 56 3 3 3 := ⟨fun a w => by kernel_rfl, fun cs w => by kernel_rfl⟩
instance : FdT Tryd.prog 56 4 4 3 := ⟨fun a w => by kernel_rfl, fun cs w => by kernel_rfl⟩
instance : FdT Tryd.prog 56 5 5 23 := ⟨fun a w => by kernel_rfl, fun cs w => by kernel_rfl⟩
instance : FdT Tryd.prog 56 6 7 23 := ⟨fun a w => by kernel_rfl, fun cs w => by kernel_rfl⟩
instance : FdT Tryd.prog 56 7 9 41 := ⟨fun a w => by kernel_rfl, fun cs w => by kernel_rfl⟩
instance : FdT Tryd.prog 56 8 10 41 := ⟨fun a w => by kernel_rfl, fun cs w => by kernel_rfl⟩
instance : BldT Tryd.prog 56 [(0, 1), (1, 1), (2, 1), (3, 1), (4, 1), (5, 2), (7, 2), (9, 1), (10, 1)] [.bool false, .bool false, .bool false, .int .i64 0, .int .i64 0, .int .i64 0, .int .i64 0, .int .i64 0, .int .i64 0, .slice none 0 0, .slice none 0 0] := ⟨fun parts => by kernel_rfl⟩
instance : TyT Tryd.prog 57 11 true := ⟨fun w => Tryd.isAgg57 w, fun w => Tryd.sizeOf57 w⟩
instance : MkI Tryd.prog 57 := ⟨fun v w => by kernel_rfl⟩
instance : ZvT Tryd.prog 57 (.agg #[.bool false, .bool false, .bool false, .int .i64 0, .int .i64 0, .int .i64 0, .int .i64 0, .int .i64 0, .int .i64 0, .slice none 0 0, .slice none 0 0]) := ⟨fun w => Tryd.zeroValue57 w⟩
instance : FdT Tryd.prog 57 0 0 4 := ⟨fun a w => by kernel_rfl, fun cs w => by kernel_rfl⟩
instance : FdT Tryd.prog 57 1 1 4 := ⟨fun a w => by kernel_rfl, fun cs w => by kernel_rfl⟩
instance : FdT Tryd.prog 57 2 2 4 := ⟨fun a w => by kernel_rfl, fun cs w => by kernel_rfl⟩
instance : FdT Tryd.prog 57 3 3 3 := ⟨fun a w => by kernel_rfl, fun cs w => by kernel_rfl⟩
instance : FdT Tryd.prog 57 4 4 3 := ⟨fun a w => by kernel_rfl, fun cs w => by kernel_rfl⟩
instance : FdT Tryd.prog 57 5 5 23 := ⟨fun a w => by kernel_rfl, fun cs w => by kernel_rfl⟩
instance : FdT Tryd.prog 57 6 7 23 := ⟨fun a w => by kernel_rfl, fun cs w => by kernel_rfl⟩
instance : FdT Tryd.prog 57 7 9 41 := ⟨fun a w => by kernel_rfl, fun cs w => by kernel_rfl⟩
instance : FdT Tryd.prog 57 8 10 41 := ⟨fun a w => by kernel_rfl, fun cs w => by kernel_rfl⟩
instance : BldT Tryd.prog 57 [(0, 1), (1, 1), (2, 1), (3, 1), (4, 1), (5, 2), (7, 2), (9, 1), (10, 1)] [.bool false, .bool false, .bool false, .int .i64 0, .int .i64 0, .int .i64 0, .int .i64 0, .int .i64 0, .int .i64 0, .slice none 0 0, .slice none 0 0] := ⟨fun parts => by kernel_rfl⟩
instance : TyT Tryd.prog 60 1 false := ⟨fun w => Tryd.isAgg60 w, fun w => Tryd.sizeOf60 w⟩
instance : MkI Tryd.prog 60 := ⟨fun v w => by kernel_rfl⟩
instance : ZvT Tryd.prog 60 (.slice none 0 0) := ⟨fun w => Tryd.zeroValue60 w⟩
instance : SlT Tryd.prog 60 3 1 8 (.int .i64 0) := ⟨by kernel_rfl, by kernel_rfl, rfl, by decide, by decide⟩
instance : TyT Tryd.prog 76 1 false := ⟨fun w => Tryd.isAgg76 w, fun w => Tryd.sizeOf76 w⟩
instance : MkI Tryd.prog 76 := ⟨fun v w => by kernel_rfl⟩
instance : IntT Tryd.prog 76 .i64 := ⟨Tryd.underlying76⟩
instance : ZvT Tryd.prog 76 (.int .i64 0) := ⟨fun w => Tryd.zeroValue76 w⟩
instance : TyT Tryd.prog 90 1 false := ⟨fun w => Tryd.isAgg90 w, fun w => Tryd.sizeOf90 w⟩
instance : MkI Tryd.prog 90 := ⟨fun v w => by kernel_rfl⟩
instance : ZvT Tryd.prog 90 (.slice none 0 0) := ⟨fun w => Tryd.zeroValue90 w⟩
instance : SlT Tryd.prog 90 9 1 16 (.string ⟨#[]⟩) := ⟨by kernel_rfl, by kernel_rfl, rfl, by decide, by decide⟩
instance : TyT Tryd.prog 98 1 false := ⟨fun w => Tryd.isAgg98 w, fun w => Tryd.sizeOf98 w⟩
instance : MkI Tryd.prog 98 := ⟨fun v w => by kernel_rfl⟩
instance : ZvT Tryd.prog 98 (.pointer none) := ⟨fun w => Tryd.zeroValue98 w⟩
instance : TyT Tryd.prog 101 1 false := ⟨fun w => Tryd.isAgg101 w, fun w => Tryd.sizeOf101 w⟩
instance : MkI Tryd.prog 101 := ⟨fun v w => by kernel_rfl⟩
instance : IntT Tryd.prog 101 .u64 := ⟨Tryd.underlying101⟩
instance : ZvT Tryd.prog 101 (.int .u64 0) := ⟨fun w => Tryd.zeroValue101 w⟩
instance : TyT Tryd.prog 106 1 false := ⟨fun w => Tryd.isAgg106 w, fun w => Tryd.sizeOf106 w⟩
instance : MkI Tryd.prog 106 := ⟨fun v w => by kernel_rfl⟩
instance : ZvT Tryd.prog 106 (.slice none 0 0) := ⟨fun w => Tryd.zeroValue106 w⟩
instance : SlT Tryd.prog 106 41 1 24 (.slice none 0 0) := ⟨by kernel_rfl, by kernel_rfl, rfl, by decide, by decide⟩
instance : TyT Tryd.prog 111 1 false := ⟨fun w => Tryd.isAgg111 w, fun w => Tryd.sizeOf111 w⟩
instance : MkI Tryd.prog 111 := ⟨fun v w => by kernel_rfl⟩
instance : ZvT Tryd.prog 111 (.pointer none) := ⟨fun w => Tryd.zeroValue111 w⟩
instance : TyT Tryd.prog 112 1 false := ⟨fun w => Tryd.isAgg112 w, fun w => Tryd.sizeOf112 w⟩
instance : MkI Tryd.prog 112 := ⟨fun v w => by kernel_rfl⟩
instance : ZvT Tryd.prog 112 (.slice none 0 0) := ⟨fun w => Tryd.zeroValue112 w⟩
instance : SlT Tryd.prog 112 5 1 1 (.int .u8 0) := ⟨by kernel_rfl, by kernel_rfl, rfl, by decide, by decide⟩
instance : TyT Tryd.prog 113 2 true := ⟨fun w => Tryd.isAgg113 w, fun w => Tryd.sizeOf113 w⟩
instance : MkI Tryd.prog 113 := ⟨fun v w => by kernel_rfl⟩
instance : ZvT Tryd.prog 113 (.agg #[.pointer none, .slice none 0 0]) := ⟨fun w => Tryd.zeroValue113 w⟩
instance : FdT Tryd.prog 113 0 0 111 := ⟨fun a w => by kernel_rfl, fun cs w => by kernel_rfl⟩
instance : FdT Tryd.prog 113 1 1 112 := ⟨fun a w => by kernel_rfl, fun cs w => by kernel_rfl⟩
instance : BldT Tryd.prog 113 [(0, 1), (1, 1)] [.pointer none, .slice none 0 0] := ⟨fun parts => by kernel_rfl⟩
instance : TyT Tryd.prog 114 2 true := ⟨fun w => Tryd.isAgg114 w, fun w => Tryd.sizeOf114 w⟩
instance : MkI Tryd.prog 114 := ⟨fun v w => by kernel_rfl⟩
instance : ZvT Tryd.prog 114 (.agg #[.pointer none, .slice none 0 0]) := ⟨fun w => Tryd.zeroValue114 w⟩
instance : FdT Tryd.prog 114 0 0 111 := ⟨fun a w => by kernel_rfl, fun cs w => by kernel_rfl⟩
instance : FdT Tryd.prog 114 1 1 112 := ⟨fun a w => by kernel_rfl, fun cs w => by kernel_rfl⟩
instance : BldT Tryd.prog 114 [(0, 1), (1, 1)] [.pointer none, .slice none 0 0] := ⟨fun parts => by kernel_rfl⟩
instance : TyT Tryd.prog 119 1 false := ⟨fun w => Tryd.isAgg119 w, fun w => Tryd.sizeOf119 w⟩
instance : MkI Tryd.prog 119 := ⟨fun v w => by kernel_rfl⟩
instance : ZvT Tryd.prog 119 (.pointer none) := ⟨fun w => Tryd.zeroValue119 w⟩
instance : TyT Tryd.prog 120 1 false := ⟨fun w => Tryd.isAgg120 w, fun w => Tryd.sizeOf120 w⟩
instance : MkI Tryd.prog 120 := ⟨fun v w => by kernel_rfl⟩
instance : IntT Tryd.prog 120 .u64 := ⟨Tryd.underlying120⟩
instance : ZvT Tryd.prog 120 (.int .u64 0) := ⟨fun w => Tryd.zeroValue120 w⟩
instance : TyT Tryd.prog 121 3 true := ⟨fun w => Tryd.isAgg121 w, fun w => Tryd.sizeOf121 w⟩
instance : MkI Tryd.prog 121 := ⟨fun v w => by kernel_rfl⟩
instance : ZvT Tryd.prog 121 (.agg #[.pointer none, .pointer none, .int .u64 0]) := ⟨fun w => Tryd.zeroValue121 w⟩
instance : FdT Tryd.prog 121 0 0 17 := ⟨fun a w => by kernel_rfl, fun cs w => by kernel_rfl⟩
instance : FdT Tryd.prog 121 1 1 119 := ⟨fun a w => by kernel_rfl, fun cs w => by kernel_rfl⟩
instance : FdT Tryd.prog 121 2 2 120 := ⟨fun a w => by kernel_rfl, fun cs w => by kernel_rfl⟩
instance : BldT Tryd.prog 121 [(0, 1), (1, 1), (2, 1)] [.pointer none, .pointer none, .int .u64 0] := ⟨fun parts => by kernel_rfl⟩
instance : TyT Tryd.prog 122 3 true := ⟨fun w => Tryd.isAgg122 w, fun w => Tryd.sizeOf122 w⟩
instance : MkI Tryd.prog 122 := ⟨fun v w => by kernel_rfl⟩
instance : ZvT Tryd.prog 122 (.agg #[.pointer none, .pointer none, .int .u64 0]) := ⟨fun w => Tryd.zeroValue122 w⟩
instance : FdT Tryd.prog 122 0 0 17 := ⟨fun a w => by kernel_rfl, fun cs w => by kernel_rfl⟩
instance : FdT Tryd.prog 122 1 1 119 := ⟨fun a w => by kernel_rfl, fun cs w => by kernel_rfl⟩
instance : FdT Tryd.prog 122 2 2 120 := ⟨fun a w => by kernel_rfl, fun cs w => by kernel_rfl⟩
instance : BldT Tryd.prog 122 [(0, 1), (1, 1), (2, 1)] [.pointer none, .pointer none, .int .u64 0] := ⟨fun parts => by kernel_rfl⟩
instance : TyT Tryd.prog 124 1 false := ⟨fun w => Tryd.isAgg124 w, fun w => Tryd.sizeOf124 w⟩
instance : IfT Tryd.prog 124 := ⟨⟨_, Tryd.underlying124⟩⟩
instance : ZvT Tryd.prog 124 (.nilIface) := ⟨fun w => Tryd.zeroValue124 w⟩
instance : TyT Tryd.prog 125 1 false := ⟨fun w => Tryd.isAgg125 w, fun w => Tryd.sizeOf125 w⟩
instance : IfT Tryd.prog 125 := ⟨⟨_, Tryd.underlying125⟩⟩
instance : ZvT Tryd.prog 125 (.nilIface) := ⟨fun w => Tryd.zeroValue125 w⟩
instance : TyT Tryd.prog 127 1 false := ⟨fun w => Tryd.isAgg127 w, fun w => Tryd.sizeOf127 w⟩
instance : MkI Tryd.prog 127 := ⟨fun v w => by kernel_rfl⟩
instance : IntT Tryd.prog 127 .u8 := ⟨Tryd.underlying127⟩
instance : ZvT Tryd.prog 127 (.int .u8 0) := ⟨fun w => Tryd.zeroValue127 w⟩
instance : TyT Tryd.prog 133 1 false := ⟨fun w => Tryd.isAgg133 w, fun w => Tryd.sizeOf133 w⟩
instance : MkI Tryd.prog 133 := ⟨fun v w => by kernel_rfl⟩
instance : IntT Tryd.prog 133 .i64 := ⟨Tryd.underlying133⟩
instance : ZvT Tryd.prog 133 (.int .i64 0) := ⟨fun w => Tryd.zeroValue133 w⟩
instance : TyT Tryd.prog 141 1 false := ⟨fun w => Tryd.isAgg141 w, fun w => Tryd.sizeOf141 w⟩
instance : MkI Tryd.prog 141 := ⟨fun v w => by kernel_rfl⟩
instance : IntT Tryd.prog 141 .u32 := ⟨Tryd.underlying141⟩
instance : ZvT Tryd.prog 141 (.int .u32 0) := ⟨fun w => Tryd.zeroValue141 w⟩
instance : TyT Tryd.prog 143 1 false := ⟨fun w => Tryd.isAgg143 w, fun w => Tryd.sizeOf143 w⟩
instance : MkI Tryd.prog 143 := ⟨fun v w => by kernel_rfl⟩
instance : IntT Tryd.prog 143 .u64 := ⟨Tryd.underlying143⟩
instance : ZvT Tryd.prog 143 (.int .u64 0) := ⟨fun w => Tryd.zeroValue143 w⟩
instance : TyT Tryd.prog 146 1 false := ⟨fun w => Tryd.isAgg146 w, fun w => Tryd.sizeOf146 w⟩
instance : MkI Tryd.prog 146 := ⟨fun v w => by kernel_rfl⟩
instance : ZvT Tryd.prog 146 (.pointer none) := ⟨fun w => Tryd.zeroValue146 w⟩
instance : TyT Tryd.prog 149 1 false := ⟨fun w => Tryd.isAgg149 w, fun w => Tryd.sizeOf149 w⟩
instance : MkI Tryd.prog 149 := ⟨fun v w => by kernel_rfl⟩
instance : IntT Tryd.prog 149 .i64 := ⟨Tryd.underlying149⟩
instance : ZvT Tryd.prog 149 (.int .i64 0) := ⟨fun w => Tryd.zeroValue149 w⟩
instance : TyT Tryd.prog 152 1 false := ⟨fun w => Tryd.isAgg152 w, fun w => Tryd.sizeOf152 w⟩
instance : MkI Tryd.prog 152 := ⟨fun v w => by kernel_rfl⟩
instance : ZvT Tryd.prog 152 (.pointer none) := ⟨fun w => Tryd.zeroValue152 w⟩
instance : TyT Tryd.prog 155 1 true := ⟨fun w => Tryd.isAgg155 w, fun w => Tryd.sizeOf155 w⟩
instance : MkI Tryd.prog 155 := ⟨fun v w => by kernel_rfl⟩
instance : ZvT Tryd.prog 155 (.agg #[.pointer none]) := ⟨fun w => Tryd.zeroValue155 w⟩
instance : FdT Tryd.prog 155 0 0 17 := ⟨fun a w => by kernel_rfl, fun cs w => by kernel_rfl⟩
instance : BldT Tryd.prog 155 [(0, 1)] [.pointer none] := ⟨fun parts => by kernel_rfl⟩
instance : TyT Tryd.prog 156 1 true := ⟨fun w => Tryd.isAgg156 w, fun w => Tryd.sizeOf156 w⟩
instance : MkI Tryd.prog 156 := ⟨fun v w => by kernel_rfl⟩
instance : ZvT Tryd.prog 156 (.agg #[.pointer none]) := ⟨fun w => Tryd.zeroValue156 w⟩
instance : FdT Tryd.prog 156 0 0 17 := ⟨fun a w => by kernel_rfl, fun cs w => by kernel_rfl⟩
instance : BldT Tryd.prog 156 [(0, 1)] [.pointer none] := ⟨fun parts => by kernel_rfl⟩
instance : TyT Tryd.prog 157 1 false := ⟨fun w => Tryd.isAgg157 w, fun w => Tryd.sizeOf157 w⟩
instance : MkI Tryd.prog 157 := ⟨fun v w => by kernel_rfl⟩
instance : ZvT Tryd.prog 157 (.pointer none) := ⟨fun w => Tryd.zeroValue157 w⟩
instance : TyT Tryd.prog 161 1 false := ⟨fun w => Tryd.isAgg161 w, fun w => Tryd.sizeOf161 w⟩
instance : IfT Tryd.prog 161 := ⟨⟨_, Tryd.underlying161⟩⟩
instance : ZvT Tryd.prog 161 (.nilIface) := ⟨fun w => Tryd.zeroValue161 w⟩
instance : TyT Tryd.prog 164 1 false := ⟨fun w => Tryd.isAgg164 w, fun w => Tryd.sizeOf164 w⟩
instance : IfT Tryd.prog 164 := ⟨⟨_, Tryd.underlying164⟩⟩
instance : ZvT Tryd.prog 164 (.nilIface) := ⟨fun w => Tryd.zeroValue164 w⟩
instance : TyT Tryd.prog 166 1 false := ⟨fun w => Tryd.isAgg166 w, fun w => Tryd.sizeOf166 w⟩
instance : IfT Tryd.prog 166 := ⟨⟨_, Tryd.underlying166⟩⟩
instance : ZvT Tryd.prog 166 (.nilIface) := ⟨fun w => Tryd.zeroValue166 w⟩
instance : TyT Tryd.prog 167 1 false := ⟨fun w => Tryd.isAgg167 w, fun w => Tryd.sizeOf167 w⟩
instance : MkI Tryd.prog 167 := ⟨fun v w => by kernel_rfl⟩
instance : ZvT Tryd.prog 167 (.slice none 0 0) := ⟨fun w => Tryd.zeroValue167 w⟩
instance : SlT Tryd.prog 167 33 1 16 (.nilIface) := ⟨by kernel_rfl, by kernel_rfl, rfl, by decide, by decide⟩
instance : TyT Tryd.prog 169 1 false := ⟨fun w => Tryd.isAgg169 w, fun w => Tryd.sizeOf169 w⟩
instance : MkI Tryd.prog 169 := ⟨fun v w => by kernel_rfl⟩
instance : IntT Tryd.prog 169 .u64 := ⟨Tryd.underlying169⟩
instance : ZvT Tryd.prog 169 (.int .u64 0) := ⟨fun w => Tryd.zeroValue169 w⟩
instance : TyT Tryd.prog 173 1 false := ⟨fun w => Tryd.isAgg173 w, fun w => Tryd.sizeOf173 w⟩
instance : MkI Tryd.prog 173 := ⟨fun v w => by kernel_rfl⟩
instance : ZvT Tryd.prog 173 (.pointer none) := ⟨fun w => Tryd.zeroValue173 w⟩
instance : TyT Tryd.prog 180 24 true := ⟨fun w => Tryd.isAgg180 w, fun w => Tryd.sizeOf180 w⟩
instance : MkI Tryd.prog 180 := ⟨fun v w => by kernel_rfl⟩
instance : ZvT Tryd.prog 180 (.agg #[.int .u8 0, .int .u8 0, .int .u8 0, .int .u8 0, .int .u8 0, .int .u8 0, .int .u8 0, .int .u8 0, .int .u8 0, .int .u8 0, .int .u8 0, .int .u8 0, .int .u8 0, .int .u8 0, .int .u8 0, .int .u8 0, .int .u8 0, .int .u8 0, .int .u8 0, .int .u8 0, .int .u8 0, .int .u8 0, .int .u8 0, .int .u8 0]) := ⟨fun w => Tryd.zeroValue180 w⟩
instance : ArT Tryd.prog 180 24 5 1 := ⟨Tryd.underlying180, fun w => Tryd.sizeOf5 w⟩
instance : TyT Tryd.prog 191 3 true := ⟨fun w => Tryd.isAgg191 w, fun w => Tryd.sizeOf191 w⟩
instance : MkI Tryd.prog 191 := ⟨fun v w => by kernel_rfl⟩
instance : ZvT Tryd.prog 191 (.agg #[.string ⟨#[]⟩, .string ⟨#[]⟩, .nilIface]) := ⟨fun w => Tryd.zeroValue191 w⟩
instance : FdT Tryd.prog 191 0 0 9 := ⟨fun a w => by kernel_rfl, fun cs w => by kernel_rfl⟩
instance : FdT Tryd.prog 191 1 1 9 := ⟨fun a w => by kernel_rfl, fun cs w => by kernel_rfl⟩
instance : FdT Tryd.prog 191 2 2 33 := ⟨fun a w => by kernel_rfl, fun cs w => by kernel_rfl⟩
instance : BldT Tryd.prog 191 [(0, 1), (1, 1), (2, 1)] [.string ⟨#[]⟩, .string ⟨#[]⟩, .nilIface] := ⟨fun parts => by kernel_rfl⟩
instance : TyT Tryd.prog 192 3 true := ⟨fun w => Tryd.isAgg192 w, fun w => Tryd.sizeOf192 w⟩
instance : MkI Tryd.prog 192 := ⟨fun v w => by kernel_rfl⟩
instance : ZvT Tryd.prog 192 (.agg #[.string ⟨#[]⟩, .string ⟨#[]⟩, .nilIface]) := ⟨fun w => Tryd.zeroValue192 w⟩
instance : FdT Tryd.prog 192 0 0 9 := ⟨fun a w => by kernel_rfl, fun cs w => by kernel_rfl⟩
instance : FdT Tryd.prog 192 1 1 9 := ⟨fun a w => by kernel_rfl, fun cs w => by kernel_rfl⟩
instance : FdT Tryd.prog 192 2 2 33 := ⟨fun a w => by kernel_rfl, fun cs w => by kernel_rfl⟩
instance : BldT Tryd.prog 192 [(0, 1), (1, 1), (2, 1)] [.string ⟨#[]⟩, .string ⟨#[]⟩, .nilIface] := ⟨fun parts => by kernel_rfl⟩
instance : TyT Tryd.prog 194 1 false := ⟨fun w => Tryd.isAgg194 w, fun w => Tryd.sizeOf194 w⟩
instance : MkI Tryd.prog 194 := ⟨fun v w => by kernel_rfl⟩
instance : ZvT Tryd.prog 194 (.pointer none) := ⟨fun w => Tryd.zeroValue194 w⟩
instance : TyT Tryd.prog 199 20 true := ⟨fun w => Tryd.isAgg199 w, fun w => Tryd.sizeOf199 w⟩
instance : MkI Tryd.prog 199 := ⟨fun v w => by kernel_rfl⟩
instance : ZvT Tryd.prog 199 (.agg #[.int .u64 0, .int .u64 0, .int .u64 0, .int .u64 0, .int .u64 0, .int .u64 0, .int .u64 0, .int .u64 0, .int .u64 0, .int .u64 0, .int .u64 0, .int .u64 0, .int .u64 0, .int .u64 0, .int .u64 0, .int .u64 0, .int .u64 0, .int .u64 0, .int .u64 0, .int .u64 0]) := ⟨fun w => Tryd.zeroValue199 w⟩
instance : ArT Tryd.prog 199 20 143 1 := ⟨Tryd.underlying199, fun w => Tryd.sizeOf143 w⟩
instance : TyT Tryd.prog 200 65 true := ⟨fun w => Tryd.isAgg200 w, fun w => Tryd.sizeOf200 w⟩
instance : MkI Tryd.prog 200 := ⟨fun v w => by kernel_rfl⟩
instance : ArT Tryd.prog 200 65 5 1 := ⟨Tryd.underlying200, fun w => Tryd.sizeOf5 w⟩
instance : TyT Tryd.prog 208 1 false := ⟨fun w => Tryd.isAgg208 w, fun w => Tryd.sizeOf208 w⟩
instance : MkI Tryd.prog 208 := ⟨fun v w => by kernel_rfl⟩
instance : ZvT Tryd.prog 208 (.pointer none) := ⟨fun w => Tryd.zeroValue208 w⟩
instance : TyT Tryd.prog 209 1 true := ⟨fun w => Tryd.isAgg209 w, fun w => Tryd.sizeOf209 w⟩
instance : MkI Tryd.prog 209 := ⟨fun v w => by kernel_rfl⟩
instance : ZvT Tryd.prog 209 (.agg #[.string ⟨#[]⟩]) := ⟨fun w => Tryd.zeroValue209 w⟩
instance : FdT Tryd.prog 209 0 0 9 := ⟨fun a w => by kernel_rfl, fun cs w => by kernel_rfl⟩
instance : BldT Tryd.prog 209 [(0, 1)] [.string ⟨#[]⟩] := ⟨fun parts => by kernel_rfl⟩
instance : TyT Tryd.prog 210 1 true := ⟨fun w => Tryd.isAgg210 w, fun w => Tryd.sizeOf210 w⟩
instance : MkI Tryd.prog 210 := ⟨fun v w => by kernel_rfl⟩
instance : ZvT Tryd.prog 210 (.agg #[.string ⟨#[]⟩]) := ⟨fun w => Tryd.zeroValue210 w⟩
instance : FdT Tryd.prog 210 0 0 9 := ⟨fun a w => by kernel_rfl, fun cs w => by kernel_rfl⟩
instance : BldT Tryd.prog 210 [(0, 1)] [.string ⟨#[]⟩] := ⟨fun parts => by kernel_rfl⟩
instance : TyT Tryd.prog 212 32 true := ⟨fun w => Tryd.isAgg212 w, fun w => Tryd.sizeOf212 w⟩
instance : MkI Tryd.prog 212 := ⟨fun v w => by kernel_rfl⟩
instance : ZvT Tryd.prog 212 (.agg #[.int .u8 0, .int .u8 0, .int .u8 0, .int .u8 0, .int .u8 0, .int .u8 0, .int .u8 0, .int .u8 0, .int .u8 0, .int .u8 0, .int .u8 0, .int .u8 0, .int .u8 0, .int .u8 0, .int .u8 0, .int .u8 0, .int .u8 0, .int .u8 0, .int .u8 0, .int .u8 0, .int .u8 0, .int .u8 0, .int .u8 0, .int .u8 0, .int .u8 0, .int .u8 0, .int .u8 0, .int .u8 0, .int .u8 0, .int .u8 0, .int .u8 0, .int .u8 0]) := ⟨fun w => Tryd.zeroValue212 w⟩
instance : ArT Tryd.prog 212 32 5 1 := ⟨Tryd.underlying212, fun w => Tryd.sizeOf5 w⟩
instance : TyT Tryd.prog 213 64 true := ⟨fun w => Tryd.isAgg213 w, fun w => Tryd.sizeOf213 w⟩
instance : MkI Tryd.prog 213 := ⟨fun v w => by kernel_rfl⟩
instance : ZvT Tryd.prog 213 (.agg #[.int .u8 0, .int .u8 0, .int .u8 0, .int .u8 0, .int .u8 0, .int .u8 0, .int .u8 0, .int .u8 0, .int .u8 0, .int .u8 0, .int .u8 0, .int .u8 0, .int .u8 0, .int .u8 0, .int .u8 0, .int .u8 0, .int .u8 0, .int .u8 0, .int .u8 0, .int .u8 0, .int .u8 0, .int .u8 0, .int .u8 0, .int .u8 0, .int .u8 0, .int .u8 0, .int .u8 0, .int .u8 0, .int .u8 0, .int .u8 0, .int .u8 0, .int .u8 0, .int .u8 0, .int .u8 0, .int .u8 0, .int .u8 0, .int .u8 0, .int .u8 0, .int .u8 0, .int .u8 0, .int .u8 0, .int .u8 0, .int .u8 0, .int .u8 0, .int .u8 0, .int .u8 0, .int .u8 0, .int .u8 0, .int .u8 0, .int .u8 0, .int .u8 0, .int .u8 0, .int .u8 0, .int .u8 0, .int .u8 0, .int .u8 0, .int .u8 0, .int .u8 0, .int .u8 0, .int .u8 0, .int .u8 0, .int .u8 0, .int .u8 0, .int .u8 0]) := ⟨fun w => Tryd.zeroValue213 w⟩
instance : ArT Tryd.prog 213 64 5 1 := ⟨Tryd.underlying213, fun w => Tryd.sizeOf5 w⟩
instance : TyT Tryd.prog 214 256 true := ⟨fun w => Tryd.isAgg214 w, fun w => Tryd.sizeOf214 w⟩
instance : MkI Tryd.prog 214 := ⟨fun v w => by kernel_rfl⟩
instance : ArT Tryd.prog 214 256 5 1 := ⟨Tryd.underlying214, fun w => Tryd.sizeOf5 w⟩
instance : TyT Tryd.prog 215 2 true := ⟨fun w => Tryd.isAgg215 w, fun w => Tryd.sizeOf215 w⟩
instance : MkI Tryd.prog 215 := ⟨fun v w => by kernel_rfl⟩
instance : ZvT Tryd.prog 215 (.agg #[.int .u8 0, .int .u8 0]) := ⟨fun w => Tryd.zeroValue215 w⟩
instance : FdT Tryd.prog 215 0 0 5 := ⟨fun a w => by kernel_rfl, fun cs w => by kernel_rfl⟩
instance : FdT Tryd.prog 215 1 1 5 := ⟨fun a w => by kernel_rfl, fun cs w => by kernel_rfl⟩
instance : BldT Tryd.prog 215 [(0, 1), (1, 1)] [.int .u8 0, .int .u8 0] := ⟨fun parts => by kernel_rfl⟩
instance : TyT Tryd.prog 216 2 true := ⟨fun w => Tryd.isAgg216 w, fun w => Tryd.sizeOf216 w⟩
instance : MkI Tryd.prog 216 := ⟨fun v w => by kernel_rfl⟩
instance : ZvT Tryd.prog 216 (.agg #[.int .u8 0, .int .u8 0]) := ⟨fun w => Tryd.zeroValue216 w⟩
instance : FdT Tryd.prog 216 0 0 5 := ⟨fun a w => by kernel_rfl, fun cs w => by kernel_rfl⟩
instance : FdT Tryd.prog 216 1 1 5 := ⟨fun a w => by kernel_rfl, fun cs w => by kernel_rfl⟩
instance : BldT Tryd.prog 216 [(0, 1), (1, 1)] [.int .u8 0, .int .u8 0] := ⟨fun parts => by kernel_rfl⟩
instance : TyT Tryd.prog 217 32 true := ⟨fun w => Tryd.isAgg217 w, fun w => Tryd.sizeOf217 w⟩
instance : MkI Tryd.prog 217 := ⟨fun v w => by kernel_rfl⟩
instance : ZvT Tryd.prog 217 (.agg #[.int .u8 0, .int .u8 0, .int .u8 0, .int .u8 0, .int .u8 0, .int .u8 0, .int .u8 0, .int .u8 0, .int .u8 0, .int .u8 0, .int .u8 0, .int .u8 0, .int .u8 0, .int .u8 0, .int .u8 0, .int .u8 0, .int .u8 0, .int .u8 0, .int .u8 0, .int .u8 0, .int .u8 0, .int .u8 0, .int .u8 0, .int .u8 0, .int .u8 0, .int .u8 0, .int .u8 0, .int .u8 0, .int .u8 0, .int .u8 0, .int .u8 0, .int .u8 0]) := ⟨fun w => Tryd.zeroValue217 w⟩
instance : ArT Tryd.prog 217 16 216 2 := ⟨Tryd.underlying217, fun w => Tryd.sizeOf216 w⟩
instance : TyT Tryd.prog 218 4 true := ⟨fun w => Tryd.isAgg218 w, fun w => Tryd.sizeOf218 w⟩
instance : MkI Tryd.prog 218 := ⟨fun v w => by kernel_rfl⟩
instance : ZvT Tryd.prog 218 (.agg #[.pointer none, .pointer none, .pointer none, .string ⟨#[]⟩]) := ⟨fun w => Tryd.zeroValue218 w⟩
instance : FdT Tryd.prog 218 0 0 17 := ⟨fun a w => by kernel_rfl, fun cs w => by kernel_rfl⟩
instance : FdT Tryd.prog 218 1 1 17 := ⟨fun a w => by kernel_rfl, fun cs w => by kernel_rfl⟩
instance : FdT Tryd.prog 218 2 2 17 := ⟨fun a w => by kernel_rfl, fun cs w => by kernel_rfl⟩
instance : FdT Tryd.prog 218 3 3 9 := ⟨fun a w => by kernel_rfl, fun cs w => by kernel_rfl⟩
instance : BldT Tryd.prog 218 [(0, 1), (1, 1), (2, 1), (3, 1)] [.pointer none, .pointer none, .pointer none, .string ⟨#[]⟩] := ⟨fun parts => by kernel_rfl⟩
instance : TyT Tryd.prog 219 4 true := ⟨fun w => Tryd.isAgg219 w, fun w => Tryd.sizeOf219 w⟩
instance : MkI Tryd.prog 219 := ⟨fun v w => by kernel_rfl⟩
instance : ZvT Tryd.prog 219 (.agg #[.pointer none, .pointer none, .pointer none, .string ⟨#[]⟩]) := ⟨fun w => Tryd.zeroValue219 w⟩
instance : FdT Tryd.prog 219 0 0 17 := ⟨fun a w => by kernel_rfl, fun cs w => by kernel_rfl⟩
instance : FdT Tryd.prog 219 1 1 17 := ⟨fun a w => by kernel_rfl, fun cs w => by kernel_rfl⟩
instance : FdT Tryd.prog 219 2 2 17 := ⟨fun a w => by kernel_rfl, fun cs w => by kernel_rfl⟩
instance : FdT Tryd.prog 219 3 3 9 := ⟨fun a w => by kernel_rfl, fun cs w => by kernel_rfl⟩
instance : BldT Tryd.prog 219 [(0, 1), (1, 1), (2, 1), (3, 1)] [.pointer none, .pointer none, .pointer none, .string ⟨#[]⟩] := ⟨fun parts => by kernel_rfl⟩
instance : TyT Tryd.prog 220 0 true := ⟨fun w => Tryd.isAgg220 w, fun w => Tryd.sizeOf220 w⟩
instance : MkI Tryd.prog 220 := ⟨fun v w => by kernel_rfl⟩
instance : ZvT Tryd.prog 220 (.agg #[]) := ⟨fun w => Tryd.zeroValue220 w⟩
instance : ArT Tryd.prog 220 0 16 1 := ⟨Tryd.underlying220, fun w => Tryd.sizeOf16 w⟩
instance : TyT Tryd.prog 221 0 true := ⟨fun w => Tryd.isAgg221 w, fun w => Tryd.sizeOf221 w⟩
instance : MkI Tryd.prog 221 := ⟨fun v w => by kernel_rfl⟩
instance : ZvT Tryd.prog 221 (.agg #[]) := ⟨fun w => Tryd.zeroValue221 w⟩
instance : BldT Tryd.prog 221 [(0, 0)] [] := ⟨fun parts => by kernel_rfl⟩
instance : TyT Tryd.prog 222 0 true := ⟨fun w => Tryd.isAgg222 w, fun w => Tryd.sizeOf222 w⟩
instance : MkI Tryd.prog 222 := ⟨fun v w => by kernel_rfl⟩
instance : ZvT Tryd.prog 222 (.agg #[]) := ⟨fun w => Tryd.zeroValue222 w⟩
instance : BldT Tryd.prog 222 [(0, 0)] [] := ⟨fun parts => by kernel_rfl⟩
instance : TyT Tryd.prog 225 1 false := ⟨fun w => Tryd.isAgg225 w, fun w => Tryd.sizeOf225 w⟩
instance : MkI Tryd.prog 225 := ⟨fun v w => by kernel_rfl⟩
instance : IntT Tryd.prog 225 .u8 := ⟨Tryd.underlying225⟩
instance : ZvT Tryd.prog 225 (.int .u8 0) := ⟨fun w => Tryd.zeroValue225 w⟩
instance : TyT Tryd.prog 227 1 false := ⟨fun w => Tryd.isAgg227 w, fun w => Tryd.sizeOf227 w⟩
instance : MkI Tryd.prog 227 := ⟨fun v w => by kernel_rfl⟩
instance : IntT Tryd.prog 227 .i32 := ⟨Tryd.underlying227⟩
instance : ZvT Tryd.prog 227 (.int .i32 0) := ⟨fun w => Tryd.zeroValue227 w⟩
instance : TyT Tryd.prog 228 1 false := ⟨fun w => Tryd.isAgg228 w, fun w => Tryd.sizeOf228 w⟩
instance : MkI Tryd.prog 228 := ⟨fun v w => by kernel_rfl⟩
instance : IntT Tryd.prog 228 .i32 := ⟨Tryd.underlying228⟩
instance : ZvT Tryd.prog 228 (.int .i32 0) := ⟨fun w => Tryd.zeroValue228 w⟩
instance : TyT Tryd.prog 229 11 true := ⟨fun w => Tryd.isAgg229 w, fun w => Tryd.sizeOf229 w⟩
instance : MkI Tryd.prog 229 := ⟨fun v w => by kernel_rfl⟩
instance : ZvT Tryd.prog 229 (.agg #[.int .u64 0, .int .u64 0, .int .u32 0, .int .u8 0, .int .u8 0, .int .u8 0, .int .u8 0, .nilFunc, .pointer none, .int .i32 0, .int .i32 0]) := ⟨fun w => Tryd.zeroValue229 w⟩
instance : FdT Tryd.prog 229 0 0 12 := ⟨fun a w => by kernel_rfl, fun cs w => by kernel_rfl⟩
instance : FdT Tryd.prog 229 1 1 12 := ⟨fun a w => by kernel_rfl, fun cs w => by kernel_rfl⟩
instance : FdT Tryd.prog 229 2 2 141 := ⟨fun a w => by kernel_rfl, fun cs w => by kernel_rfl⟩
instance : FdT Tryd.prog 229 3 3 225 := ⟨fun a w => by kernel_rfl, fun cs w => by kernel_rfl⟩
instance : FdT Tryd.prog 229 4 4 5 := ⟨fun a w => by kernel_rfl, fun cs w => by kernel_rfl⟩
instance : FdT Tryd.prog 229 5 5 5 := ⟨fun a w => by kernel_rfl, fun cs w => by kernel_rfl⟩
instance : FdT Tryd.prog 229 6 6 127 := ⟨fun a w => by kernel_rfl, fun cs w => by kernel_rfl⟩
instance : FdT Tryd.prog 229 8 8 146 := ⟨fun a w => by kernel_rfl, fun cs w => by kernel_rfl⟩
instance : FdT Tryd.prog 229 9 9 227 := ⟨fun a w => by kernel_rfl, fun cs w => by kernel_rfl⟩
instance : FdT Tryd.prog 229 10 10 228 := ⟨fun a w => by kernel_rfl, fun cs w => by kernel_rfl⟩
instance : TyT Tryd.prog 230 11 true := ⟨fun w => Tryd.isAgg230 w, fun w => Tryd.sizeOf230 w⟩
instance : MkI Tryd.prog 230 := ⟨fun v w => by kernel_rfl⟩
instance : ZvT Tryd.prog 230 (.agg #[.int .u64 0, .int .u64 0, .int .u32 0, .int .u8 0, .int .u8 0, .int .u8 0, .int .u8 0, .nilFunc, .pointer none, .int .i32 0, .int .i32 0]) := ⟨fun w => Tryd.zeroValue230 w⟩
instance : FdT Tryd.prog 230 0 0 12 := ⟨fun a w => by kernel_rfl, fun cs w => by kernel_rfl⟩
instance : FdT Tryd.prog 230 1 1 12 := ⟨fun a w => by kernel_rfl, fun cs w => by kernel_rfl⟩
instance : FdT Tryd.prog 230 2 2 141 := ⟨fun a w => by kernel_rfl, fun cs w => by kernel_rfl⟩
instance : FdT Tryd.prog 230 3 3 225 := ⟨fun a w => by kernel_rfl, fun cs w => by kernel_rfl⟩
instance : FdT Tryd.prog 230 4 4 5 := ⟨fun a w => by kernel_rfl, fun cs w => by kernel_rfl⟩
instance : FdT Tryd.prog 230 5 5 5 := ⟨fun a w => by kernel_rfl, fun cs w => by kernel_rfl⟩
instance : FdT Tryd.prog 230 6 6 127 := ⟨fun a w => by kernel_rfl, fun cs w => by kernel_rfl⟩
instance : FdT Tryd.prog 230 8 8 146 := ⟨fun a w => by kernel_rfl, fun cs w => by kernel_rfl⟩
instance : FdT Tryd.prog 230 9 9 227 := ⟨fun a w => by kernel_rfl, fun cs w => by kernel_rfl⟩
instance : FdT Tryd.prog 230 10 10 228 := ⟨fun a w => by kernel_rfl, fun cs w => by kernel_rfl⟩
instance : TyT Tryd.prog 233 2 true := ⟨fun w => Tryd.isAgg233 w, fun w => Tryd.sizeOf233 w⟩
instance : MkI Tryd.prog 233 := ⟨fun v w => by kernel_rfl⟩
instance : ZvT Tryd.prog 233 (.agg #[.string ⟨#[]⟩, .int .u8 0]) := ⟨fun w => Tryd.zeroValue233 w⟩
instance : FdT Tryd.prog 233 0 0 9 := ⟨fun a w => by kernel_rfl, fun cs w => by kernel_rfl⟩
instance : FdT Tryd.prog 233 1 1 127 := ⟨fun a w => by kernel_rfl, fun cs w => by kernel_rfl⟩
instance : BldT Tryd.prog 233 [(0, 1), (1, 1)] [.string ⟨#[]⟩, .int .u8 0] := ⟨fun parts => by kernel_rfl⟩
instance : TyT Tryd.prog 234 2 true := ⟨fun w => Tryd.isAgg234 w, fun w => Tryd.sizeOf234 w⟩
instance : MkI Tryd.prog 234 := ⟨fun v w => by kernel_rfl⟩
instance : ZvT Tryd.prog 234 (.agg #[.string ⟨#[]⟩, .int .u8 0]) := ⟨fun w => Tryd.zeroValue234 w⟩
instance : FdT Tryd.prog 234 0 0 9 := ⟨fun a w => by kernel_rfl, fun cs w => by kernel_rfl⟩
instance : FdT Tryd.prog 234 1 1 127 := ⟨fun a w => by kernel_rfl, fun cs w => by kernel_rfl⟩
instance : BldT Tryd.prog 234 [(0, 1), (1, 1)] [.string ⟨#[]⟩, .int .u8 0] := ⟨fun parts => by kernel_rfl⟩
instance : TyT Tryd.prog 235 1 false := ⟨fun w => Tryd.isAgg235 w, fun w => Tryd.sizeOf235 w⟩
instance : MkI Tryd.prog 235 := ⟨fun v w => by kernel_rfl⟩
instance : ZvT Tryd.prog 235 (.pointer none) := ⟨fun w => Tryd.zeroValue235 w⟩
instance : TyT Tryd.prog 237 1 false := ⟨fun w => Tryd.isAgg237 w, fun w => Tryd.sizeOf237 w⟩
instance : MkI Tryd.prog 237 := ⟨fun v w => by kernel_rfl⟩
instance : IntT Tryd.prog 237 .u16 := ⟨Tryd.underlying237⟩
instance : ZvT Tryd.prog 237 (.int .u16 0) := ⟨fun w => Tryd.zeroValue237 w⟩
instance : TyT Tryd.prog 238 5 true := ⟨fun w => Tryd.isAgg238 w, fun w => Tryd.sizeOf238 w⟩
instance : MkI Tryd.prog 238 := ⟨fun v w => by kernel_rfl⟩
instance : ZvT Tryd.prog 238 (.agg #[.int .i32 0, .int .u16 0, .int .u16 0, .int .u32 0, .int .u32 0]) := ⟨fun w => Tryd.zeroValue238 w⟩
instance : FdT Tryd.prog 238 0 0 227 := ⟨fun a w => by kernel_rfl, fun cs w => by kernel_rfl⟩
instance : FdT Tryd.prog 238 1 1 237 := ⟨fun a w => by kernel_rfl, fun cs w => by kernel_rfl⟩
instance : FdT Tryd.prog 238 2 2 237 := ⟨fun a w => by kernel_rfl, fun cs w => by kernel_rfl⟩
instance : FdT Tryd.prog 238 3 3 141 := ⟨fun a w => by kernel_rfl, fun cs w => by kernel_rfl⟩
instance : FdT Tryd.prog 238 4 4 141 := ⟨fun a w => by kernel_rfl, fun cs w => by kernel_rfl⟩
instance : BldT Tryd.prog 238 [(0, 1), (1, 1), (2, 1), (3, 1), (4, 1)] [.int .i32 0, .int .u16 0, .int .u16 0, .int .u32 0, .int .u32 0] := ⟨fun parts => by kernel_rfl⟩
instance : TyT Tryd.prog 239 5 true := ⟨fun w => Tryd.isAgg239 w, fun w => Tryd.sizeOf239 w⟩
instance : MkI Tryd.prog 239 := ⟨fun v w => by kernel_rfl⟩
instance : ZvT Tryd.prog 239 (.agg #[.int .i32 0, .int .u16 0, .int .u16 0, .int .u32 0, .int .u32 0]) := ⟨fun w => Tryd.zeroValue239 w⟩
instance : FdT Tryd.prog 239 0 0 227 := ⟨fun a w => by kernel_rfl, fun cs w => by kernel_rfl⟩
instance : FdT Tryd.prog 239 1 1 237 := ⟨fun a w => by kernel_rfl, fun cs w => by kernel_rfl⟩
instance : FdT Tryd.prog 239 2 2 237 := ⟨fun a w => by kernel_rfl, fun cs w => by kernel_rfl⟩
instance : FdT Tryd.prog 239 3 3 141 := ⟨fun a w => by kernel_rfl, fun cs w => by kernel_rfl⟩
instance : FdT Tryd.prog 239 4 4 141 := ⟨fun a w => by kernel_rfl, fun cs w => by kernel_rfl⟩
instance : BldT Tryd.prog 239 [(0, 1), (1, 1), (2, 1), (3, 1), (4, 1)] [.int .i32 0, .int .u16 0, .int .u16 0, .int .u32 0, .int .u32 0] := ⟨fun parts => by kernel_rfl⟩
instance : TyT Tryd.prog 240 1 false := ⟨fun w => Tryd.isAgg240 w, fun w => Tryd.sizeOf240 w⟩
instance : MkI Tryd.prog 240 := ⟨fun v w => by kernel_rfl⟩
instance : ZvT Tryd.prog 240 (.slice none 0 0) := ⟨fun w => Tryd.zeroValue240 w⟩
instance : SlT Tryd.prog 240 243 4 16 (.agg #[.int .i32 0, .int .i32 0, .int .i32 0, .int .i32 0]) := ⟨by kernel_rfl, by kernel_rfl, rfl, by decide, by decide⟩
instance : TyT Tryd.prog 241 1 false := ⟨fun w => Tryd.isAgg241 w, fun w => Tryd.sizeOf241 w⟩
instance : MkI Tryd.prog 241 := ⟨fun v w => by kernel_rfl⟩
instance : IntT Tryd.prog 241 .i32 := ⟨Tryd.underlying241⟩
instance : ZvT Tryd.prog 241 (.int .i32 0) := ⟨fun w => Tryd.zeroValue241 w⟩
instance : TyT Tryd.prog 242 4 true := ⟨fun w => Tryd.isAgg242 w, fun w => Tryd.sizeOf242 w⟩
instance : MkI Tryd.prog 242 := ⟨fun v w => by kernel_rfl⟩
instance : ZvT Tryd.prog 242 (.agg #[.int .i32 0, .int .i32 0, .int .i32 0, .int .i32 0]) := ⟨fun w => Tryd.zeroValue242 w⟩
instance : FdT Tryd.prog 242 0 0 227 := ⟨fun a w => by kernel_rfl, fun cs w => by kernel_rfl⟩
instance : FdT Tryd.prog 242 1 1 228 := ⟨fun a w => by kernel_rfl, fun cs w => by kernel_rfl⟩
instance : FdT Tryd.prog 242 2 2 241 := ⟨fun a w => by kernel_rfl, fun cs w => by kernel_rfl⟩
instance : FdT Tryd.prog 242 3 3 241 := ⟨fun a w => by kernel_rfl, fun cs w => by kernel_rfl⟩
instance : BldT Tryd.prog 242 [(0, 1), (1, 1), (2, 1), (3, 1)] [.int .i32 0, .int .i32 0, .int .i32 0, .int .i32 0] := ⟨fun parts => by kernel_rfl⟩
instance : TyT Tryd.prog 243 4 true := ⟨fun w => Tryd.isAgg243 w, fun w => Tryd.sizeOf243 w⟩
instance : MkI Tryd.prog 243 := ⟨fun v w => by kernel_rfl⟩
instance : ZvT Tryd.prog 243 (.agg #[.int .i32 0, .int .i32 0, .int .i32 0, .int .i32 0]) := ⟨fun w => Tryd.zeroValue243 w⟩
instance : FdT Tryd.prog 243 0 0 227 := ⟨fun a w => by kernel_rfl, fun cs w => by kernel_rfl⟩
instance : FdT Tryd.prog 243 1 1 228 := ⟨fun a w => by kernel_rfl, fun cs w => by kernel_rfl⟩
instance : FdT Tryd.prog 243 2 2 241 := ⟨fun a w => by kernel_rfl, fun cs w => by kernel_rfl⟩
instance : FdT Tryd.prog 243 3 3 241 := ⟨fun a w => by kernel_rfl, fun cs w => by kernel_rfl⟩
instance : BldT Tryd.prog 243 [(0, 1), (1, 1), (2, 1), (3, 1)] [.int .i32 0, .int .i32 0, .int .i32 0, .int .i32 0] := ⟨fun parts => by kernel_rfl⟩
instance : TyT Tryd.prog 244 1 false := ⟨fun w => Tryd.isAgg244 w, fun w => Tryd.sizeOf244 w⟩
instance : MkI Tryd.prog 244 := ⟨fun v w => by kernel_rfl⟩
instance : ZvT Tryd.prog 244 (.pointer none) := ⟨fun w => Tryd.zeroValue244 w⟩
/- Functions with a body. -/
instance : CalT Tryd.prog 2 := ⟨fun args w => Tryd.call2 args w⟩
instance : CalT Tryd.prog 3 := ⟨fun args w => Tryd.call3 args w⟩
instance : CalT Tryd.prog 4 := ⟨fun args w => Tryd.call4 args w⟩
instance : CalT Tryd.prog 5 := ⟨fun args w => Tryd.call5 args w⟩
instance : CalT Tryd.prog 6 := ⟨fun args w => Tryd.call6 args w⟩
instance : CalT Tryd.prog 7 := ⟨fun args w => Tryd.call7 args w⟩
instance : CalT Tryd.prog 8 := ⟨fun args w => Tryd.call8 args w⟩
instance : CalT Tryd.prog 9 := ⟨fun args w => Tryd.call9 args w⟩
instance : CalT Tryd.prog 10 := ⟨fun args w => Tryd.call10 args w⟩
instance : CalT Tryd.prog 11 := ⟨fun args w => Tryd.call11 args w⟩
instance : CalT Tryd.prog 12 := ⟨fun args w => Tryd.call12 args w⟩
instance : CalT Tryd.prog 13 := ⟨fun args w => Tryd.call13 args w⟩
instance : CalT Tryd.prog 14 := ⟨fun args w => Tryd.call14 args w⟩
instance : CalT Tryd.prog 15 := ⟨fun args w => Tryd.call15 args w⟩
instance : CalT Tryd.prog 16 := ⟨fun args w => Tryd.call16 args w⟩
instance : CalT Tryd.prog 17 := ⟨fun args w => Tryd.call17 args w⟩
instance : CalT Tryd.prog 18 := ⟨fun args w => Tryd.call18 args w⟩
instance : CalT Tryd.prog 19 := ⟨fun args w => Tryd.call19 args w⟩
instance : CalT Tryd.prog 20 := ⟨fun args w => Tryd.call20 args w⟩
instance : CalT Tryd.prog 21 := ⟨fun args w => Tryd.call21 args w⟩
instance : CalT Tryd.prog 22 := ⟨fun args w => Tryd.call22 args w⟩
instance : CalT Tryd.prog 23 := ⟨fun args w => Tryd.call23 args w⟩
instance : CalT Tryd.prog 24 := ⟨fun args w => Tryd.call24 args w⟩
instance : CalT Tryd.prog 25 := ⟨fun args w => Tryd.call25 args w⟩
instance : CalT Tryd.prog 26 := ⟨fun args w => Tryd.call26 args w⟩
instance : CalT Tryd.prog 27 := ⟨fun args w => Tryd.call27 args w⟩
instance : CalT Tryd.prog 28 := ⟨fun args w => Tryd.call28 args w⟩
instance : CalT Tryd.prog 29 := ⟨fun args w => Tryd.call29 args w⟩
instance : CalT Tryd.prog 30 := ⟨fun args w => Tryd.call30 args w⟩
instance : CalT Tryd.prog 31 := ⟨fun args w => Tryd.call31 args w⟩
instance : CalT Tryd.prog 32 := ⟨fun args w => Tryd.call32 args w⟩
instance : CalT Tryd.prog 33 := ⟨fun args w => Tryd.call33 args w⟩
instance : CalT Tryd.prog 34 := ⟨fun args w => Tryd.call34 args w⟩
instance : CalT Tryd.prog 35 := ⟨fun args w => Tryd.call35 args w⟩
instance : CalT Tryd.prog 36 := ⟨fun args w => Tryd.call36 args w⟩
instance : CalT Tryd.prog 37 := ⟨fun args w => Tryd.call37 args w⟩
instance : CalT Tryd.prog 38 := ⟨fun args w => Tryd.call38 args w⟩
instance : CalT Tryd.prog 39 := ⟨fun args w => Tryd.call39 args w⟩
instance : CalT Tryd.prog 40 := ⟨fun args w => Tryd.call40 args w⟩
instance : CalT Tryd.prog 41 := ⟨fun args w => Tryd.call41 args w⟩
instance : CalT Tryd.prog 42 := ⟨fun args w => Tryd.call42 args w⟩
instance : CalT Tryd.prog 43 := ⟨fun args w => Tryd.call43 args w⟩
instance : CalT Tryd.prog 44 := ⟨fun args w => Tryd.call44 args w⟩
instance : CalT Tryd.prog 45 := ⟨fun args w => Tryd.call45 args w⟩
instance : CalT Tryd.prog 46 := ⟨fun args w => Tryd.call46 args w⟩
instance : CalT Tryd.prog 47 := ⟨fun args w => Tryd.call47 args w⟩
instance : CalT Tryd.prog 48 := ⟨fun args w => Tryd.call48 args w⟩
instance : CalT Tryd.prog 49 := ⟨fun args w => Tryd.call49 args w⟩
instance : CalT Tryd.prog 50 := ⟨fun args w => Tryd.call50 args w⟩
instance : CalT Tryd.prog 51 := ⟨fun args w => Tryd.call51 args w⟩
instance : CalT Tryd.prog 52 := ⟨fun args w => Tryd.call52 args w⟩
instance : CalT Tryd.prog 53 := ⟨fun args w => Tryd.call53 args w⟩
instance : CalT Tryd.prog 54 := ⟨fun args w => Tryd.call54 args w⟩
instance : CalT Tryd.prog 55 := ⟨fun args w => Tryd.call55 args w⟩
instance : CalT Tryd.prog 56 := ⟨fun args w => Tryd.call56 args w⟩
instance : CalT Tryd.prog 57 := ⟨fun args w => Tryd.call57 args w⟩
instance : CalT Tryd.prog 58 := ⟨fun args w => Tryd.call58 args w⟩
instance : CalT Tryd.prog 59 := ⟨fun args w => Tryd.call59 args w⟩
instance : CalT Tryd.prog 60 := ⟨fun args w => Tryd.call60 args w⟩
instance : CalT Tryd.prog 61 := ⟨fun args w => Tryd.call61 args w⟩
instance : CalT Tryd.prog 62 := ⟨fun args w => Tryd.call62 args w⟩
instance : CalT Tryd.prog 63 := ⟨fun args w => Tryd.call63 args w⟩
instance : CalT Tryd.prog 64 := ⟨fun args w => Tryd.call64 args w⟩
instance : CalT Tryd.prog 65 := ⟨fun args w => Tryd.call65 args w⟩
instance : CalT Tryd.prog 66 := ⟨fun args w => Tryd.call66 args w⟩
instance : CalT Tryd.prog 67 := ⟨fun args w => Tryd.call67 args w⟩
instance : CalT Tryd.prog 68 := ⟨fun args w => Tryd.call68 args w⟩
instance : CalT Tryd.prog 69 := ⟨fun args w => Tryd.call69 args w⟩
instance : CalT Tryd.prog 70 := ⟨fun args w => Tryd.call70 args w⟩
instance : CalT Tryd.prog 71 := ⟨fun args w => Tryd.call71 args w⟩
instance : CalT Tryd.prog 72 := ⟨fun args w => Tryd.call72 args w⟩
instance : CalT Tryd.prog 73 := ⟨fun args w => Tryd.call73 args w⟩
instance : CalT Tryd.prog 74 := ⟨fun args w => Tryd.call74 args w⟩
instance : CalT Tryd.prog 75 := ⟨fun args w => Tryd.call75 args w⟩
instance : CalT Tryd.prog 76 := ⟨fun args w => Tryd.call76 args w⟩
instance : CalT Tryd.prog 77 := ⟨fun args w => Tryd.call77 args w⟩
instance : CalT Tryd.prog 78 := ⟨fun args w => Tryd.call78 args w⟩
instance : CalT Tryd.prog 79 := ⟨fun args w => Tryd.call79 args w⟩
instance : CalT Tryd.prog 80 := ⟨fun args w => Tryd.call80 args w⟩
instance : CalT Tryd.prog 81 := ⟨fun args w => Tryd.call81 args w⟩
instance : CalT Tryd.prog 82 := ⟨fun args w => Tryd.call82 args w⟩
instance : CalT Tryd.prog 83 := ⟨fun args w => Tryd.call83 args w⟩
instance : CalT Tryd.prog 84 := ⟨fun args w => Tryd.call84 args w⟩
instance : CalT Tryd.prog 85 := ⟨fun args w => Tryd.call85 args w⟩
instance : CalT Tryd.prog 86 := ⟨fun args w => Tryd.call86 args w⟩
instance : CalT Tryd.prog 87 := ⟨fun args w => Tryd.call87 args w⟩
instance : CalT Tryd.prog 88 := ⟨fun args w => Tryd.call88 args w⟩
instance : CalT Tryd.prog 89 := ⟨fun args w => Tryd.call89 args w⟩
instance : CalT Tryd.prog 90 := ⟨fun args w => Tryd.call90 args w⟩
instance : CalT Tryd.prog 91 := ⟨fun args w => Tryd.call91 args w⟩
instance : CalT Tryd.prog 92 := ⟨fun args w => Tryd.call92 args w⟩
instance : CalT Tryd.prog 96 := ⟨fun args w => Tryd.call96 args w⟩
instance : CalT Tryd.prog 97 := ⟨fun args w => Tryd.call97 args w⟩
instance : CalT Tryd.prog 98 := ⟨fun args w => Tryd.call98 args w⟩
instance : CalT Tryd.prog 99 := ⟨fun args w => Tryd.call99 args w⟩
instance : CalT Tryd.prog 100 := ⟨fun args w => Tryd.call100 args w⟩
instance : CalT Tryd.prog 101 := ⟨fun args w => Tryd.call101 args w⟩
instance : CalT Tryd.prog 102 := ⟨fun args w => Tryd.call102 args w⟩
instance : CalT Tryd.prog 103 := ⟨fun args w => Tryd.call103 args w⟩
instance : CalT Tryd.prog 104 := ⟨fun args w => Tryd.call104 args w⟩
instance : CalT Tryd.prog 105 := ⟨fun args w => Tryd.call105 args w⟩
instance : CalT Tryd.prog 106 := ⟨fun args w => Tryd.call106 args w⟩
instance : CalT Tryd.prog 107 := ⟨fun args w => Tryd.call107 args w⟩
instance : CalT Tryd.prog 108 := ⟨fun args w => Tryd.call108 args w⟩
instance : CalT Tryd.prog 109 := ⟨fun args w => Tryd.call109 args w⟩
instance : CalT Tryd.prog 110 := ⟨fun args w => Tryd.call110 args w⟩
instance : CalT Tryd.prog 111 := ⟨fun args w => Tryd.call111 args w⟩
instance : CalT Tryd.prog 112 := ⟨fun args w => Tryd.call112 args w⟩
instance : CalT Tryd.prog 113 := ⟨fun args w => Tryd.call113 args w⟩
instance : CalT Tryd.prog 114 := ⟨fun args w => Tryd.call114 args w⟩
instance : CalT Tryd.prog 115 := ⟨fun args w => Tryd.call115 args w⟩
instance : CalT Tryd.prog 116 := ⟨fun args w => Tryd.call116 args w⟩
instance : CalT Tryd.prog 117 := ⟨fun args w => Tryd.call117 args w⟩
instance : CalT Tryd.prog 118 := ⟨fun args w => Tryd.call118 args w⟩
instance : CalT Tryd.prog 119 := ⟨fun args w => Tryd.call119 args w⟩
instance : CalT Tryd.prog 123 := ⟨fun args w => Tryd.call123 args w⟩
instance : CalT Tryd.prog 124 := ⟨fun args w => Tryd.call124 args w⟩
instance : CalT Tryd.prog 125 := ⟨fun args w => Tryd.call125 args w⟩
instance : CalT Tryd.prog 126 := ⟨fun args w => Tryd.call126 args w⟩
instance : CalT Tryd.prog 127 := ⟨fun args w => Tryd.call127 args w⟩
instance : CalT Tryd.prog 128 := ⟨fun args w => Tryd.call128 args w⟩
instance : CalT Tryd.prog 129 := ⟨fun args w => Tryd.call129 args w⟩
instance : CalT Tryd.prog 130 := ⟨fun args w => Tryd.call130 args w⟩
instance : CalT Tryd.prog 131 := ⟨fun args w => Tryd.call131 args w⟩
instance : CalT Tryd.prog 132 := ⟨fun args w => Tryd.call132 args w⟩
instance : CalT Tryd.prog 133 := ⟨fun args w => Tryd.call133 args w⟩
instance : CalT Tryd.prog 134 := ⟨fun args w => Tryd.call134 args w⟩
instance : CalT Tryd.prog 135 := ⟨fun args w => Tryd.call135 args w⟩
instance : CalT Tryd.prog 136 := ⟨fun args w => Tryd.call136 args w⟩
instance : CalT Tryd.prog 137 := ⟨fun args w => Tryd.call137 args w⟩
instance : CalT Tryd.prog 138 := ⟨fun args w => Tryd.call138 args w⟩
instance : CalT Tryd.prog 139 := ⟨fun args w => Tryd.call139 args w⟩
instance : CalT Tryd.prog 140 := ⟨fun args w => Tryd.call140 args w⟩
instance : CalT Tryd.prog 143 := ⟨fun args w => Tryd.call143 args w⟩
instance : CalT Tryd.prog 145 := ⟨fun args w => Tryd.call145 args w⟩
instance : CalT Tryd.prog 146 := ⟨fun args w => Tryd.call146 args w⟩
instance : CalT Tryd.prog 147 := ⟨fun args w => Tryd.call147 args w⟩
instance : CalT Tryd.prog 148 := ⟨fun args w => Tryd.call148 args w⟩
instance : CalT Tryd.prog 149 := ⟨fun args w => Tryd.call149 args w⟩
instance : CalT Tryd.prog 150 := ⟨fun args w => Tryd.call150 args w⟩
instance : CalT Tryd.prog 151 := ⟨fun args w => Tryd.call151 args w⟩
instance : CalT Tryd.prog 152 := ⟨fun args w => Tryd.call152 args w⟩
instance : CalT Tryd.prog 153 := ⟨fun args w => Tryd.call153 args w⟩
instance : CalT Tryd.prog 154 := ⟨fun args w => Tryd.call154 args w⟩
instance : CalT Tryd.prog 155 := ⟨fun args w => Tryd.call155 args w⟩
instance : CalT Tryd.prog 156 := ⟨fun args w => Tryd.call156 args w⟩
instance : CalT Tryd.prog 157 := ⟨fun args w => Tryd.call157 args w⟩
instance : CalT Tryd.prog 158 := ⟨fun args w => Tryd.call158 args w⟩
instance : CalT Tryd.prog 159 := ⟨fun args w => Tryd.call159 args w⟩
instance : CalT Tryd.prog 160 := ⟨fun args w => Tryd.call160 args w⟩
instance : CalT Tryd.prog 162 := ⟨fun args w => Tryd.call162 args w⟩
instance : CalT Tryd.prog 163 := ⟨fun args w => Tryd.call163 args w⟩
instance : CalT Tryd.prog 164 := ⟨fun args w => Tryd.call164 args w⟩
instance : CalT Tryd.prog 166 := ⟨fun args w => Tryd.call166 args w⟩
instance : CalT Tryd.prog 167 := ⟨fun args w => Tryd.call167 args w⟩
instance : CalT Tryd.prog 168 := ⟨fun args w => Tryd.call168 args w⟩
instance : CalT Tryd.prog 169 := ⟨fun args w => Tryd.call169 args w⟩
instance : CalT Tryd.prog 170 := ⟨fun args w => Tryd.call170 args w⟩
instance : CalT Tryd.prog 171 := ⟨fun args w => Tryd.call171 args w⟩
instance : CalT Tryd.prog 196 := ⟨fun args w => Tryd.call196 args w⟩
instance : CalT Tryd.prog 220 := ⟨fun args w => Tryd.call220 args w⟩
end Go.Proofs.YtchkpkeljcdccaaDoor
