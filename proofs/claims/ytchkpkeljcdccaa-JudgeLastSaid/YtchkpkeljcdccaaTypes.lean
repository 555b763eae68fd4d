/- The seat's types and functions, as instances. Printed by wip/tools/types.py. -/
import Derived.Test.YtchkpkeljcdccaaSxMore
import Derived.Test.YtchkpkeljcdccaaProg
import Derived.KernelRfl
namespace Go.Proofs.Ytchkpkeljcdccaa
open Go.Port
instance : TyT Try.prog 2 1 false := ⟨fun w => Try.isAgg2 w, fun w => Try.sizeOf2 w⟩
instance : MkI Try.prog 2 := ⟨fun v w => by kernel_rfl⟩
instance : IntT Try.prog 2 .i64 := ⟨Try.underlying2⟩
instance : ZvT Try.prog 2 (.int .i64 0) := ⟨fun w => Try.zeroValue2 w⟩
instance : TyT Try.prog 3 1 false := ⟨fun w => Try.isAgg3 w, fun w => Try.sizeOf3 w⟩
instance : MkI Try.prog 3 := ⟨fun v w => by kernel_rfl⟩
instance : IntT Try.prog 3 .i64 := ⟨Try.underlying3⟩
instance : ZvT Try.prog 3 (.int .i64 0) := ⟨fun w => Try.zeroValue3 w⟩
instance : TyT Try.prog 4 1 false := ⟨fun w => Try.isAgg4 w, fun w => Try.sizeOf4 w⟩
instance : MkI Try.prog 4 := ⟨fun v w => by kernel_rfl⟩
instance : ZvT Try.prog 4 (.bool false) := ⟨fun w => Try.zeroValue4 w⟩
instance : TyT Try.prog 5 1 false := ⟨fun w => Try.isAgg5 w, fun w => Try.sizeOf5 w⟩
instance : MkI Try.prog 5 := ⟨fun v w => by kernel_rfl⟩
instance : IntT Try.prog 5 .u8 := ⟨Try.underlying5⟩
instance : ZvT Try.prog 5 (.int .u8 0) := ⟨fun w => Try.zeroValue5 w⟩
instance : TyT Try.prog 6 1 false := ⟨fun w => Try.isAgg6 w, fun w => Try.sizeOf6 w⟩
instance : MkI Try.prog 6 := ⟨fun v w => by kernel_rfl⟩
instance : IntT Try.prog 6 .u8 := ⟨Try.underlying6⟩
instance : ZvT Try.prog 6 (.int .u8 0) := ⟨fun w => Try.zeroValue6 w⟩
instance : TyT Try.prog 7 4 true := ⟨fun w => Try.isAgg7 w, fun w => Try.sizeOf7 w⟩
instance : MkI Try.prog 7 := ⟨fun v w => by kernel_rfl⟩
instance : ZvT Try.prog 7 (.agg #[.int .i64 0, .int .i64 0, .bool false, .int .u8 0]) := ⟨fun w => Try.zeroValue7 w⟩
instance : FdT Try.prog 7 0 0 2 := ⟨fun a w => by kernel_rfl, fun cs w => by kernel_rfl⟩
instance : FdT Try.prog 7 1 1 3 := ⟨fun a w => by kernel_rfl, fun cs w => by kernel_rfl⟩
instance : FdT Try.prog 7 2 2 4 := ⟨fun a w => by kernel_rfl, fun cs w => by kernel_rfl⟩
instance : FdT Try.prog 7 3 3 6 := ⟨fun a w => by kernel_rfl, fun cs w => by kernel_rfl⟩
instance : BldT Try.prog 7 [(0, 1), (1, 1), (2, 1), (3, 1)] [.int .i64 0, .int .i64 0, .bool false, .int .u8 0] := ⟨fun parts => by kernel_rfl⟩
instance : TyT Try.prog 8 4 true := ⟨fun w => Try.isAgg8 w, fun w => Try.sizeOf8 w⟩
instance : MkI Try.prog 8 := ⟨fun v w => by kernel_rfl⟩
instance : ZvT Try.prog 8 (.agg #[.int .i64 0, .int .i64 0, .bool false, .int .u8 0]) := ⟨fun w => Try.zeroValue8 w⟩
instance : FdT Try.prog 8 0 0 2 := ⟨fun a w => by kernel_rfl, fun cs w => by kernel_rfl⟩
instance : FdT Try.prog 8 1 1 3 := ⟨fun a w => by kernel_rfl, fun cs w => by kernel_rfl⟩
instance : FdT Try.prog 8 2 2 4 := ⟨fun a w => by kernel_rfl, fun cs w => by kernel_rfl⟩
instance : FdT Try.prog 8 3 3 6 := ⟨fun a w => by kernel_rfl, fun cs w => by kernel_rfl⟩
instance : BldT Try.prog 8 [(0, 1), (1, 1), (2, 1), (3, 1)] [.int .i64 0, .int .i64 0, .bool false, .int .u8 0] := ⟨fun parts => by kernel_rfl⟩
instance : TyT Try.prog 9 1 false := ⟨fun w => Try.isAgg9 w, fun w => Try.sizeOf9 w⟩
instance : MkI Try.prog 9 := ⟨fun v w => by kernel_rfl⟩
instance : StrT Try.prog 9 := ⟨Try.underlying9⟩
instance : ZvT Try.prog 9 (.string ⟨#[]⟩) := ⟨fun w => Try.zeroValue9 w⟩
instance : TyT Try.prog 10 1 false := ⟨fun w => Try.isAgg10 w, fun w => Try.sizeOf10 w⟩
instance : MkI Try.prog 10 := ⟨fun v w => by kernel_rfl⟩
instance : StrT Try.prog 10 := ⟨Try.underlying10⟩
instance : ZvT Try.prog 10 (.string ⟨#[]⟩) := ⟨fun w => Try.zeroValue10 w⟩
instance : TyT Try.prog 11 1 false := ⟨fun w => Try.isAgg11 w, fun w => Try.sizeOf11 w⟩
instance : MkI Try.prog 11 := ⟨fun v w => by kernel_rfl⟩
instance : StrT Try.prog 11 := ⟨Try.underlying11⟩
instance : ZvT Try.prog 11 (.string ⟨#[]⟩) := ⟨fun w => Try.zeroValue11 w⟩
instance : TyT Try.prog 12 1 false := ⟨fun w => Try.isAgg12 w, fun w => Try.sizeOf12 w⟩
instance : MkI Try.prog 12 := ⟨fun v w => by kernel_rfl⟩
instance : IntT Try.prog 12 .u64 := ⟨Try.underlying12⟩
instance : ZvT Try.prog 12 (.int .u64 0) := ⟨fun w => Try.zeroValue12 w⟩
instance : TyT Try.prog 13 2 true := ⟨fun w => Try.isAgg13 w, fun w => Try.sizeOf13 w⟩
instance : MkI Try.prog 13 := ⟨fun v w => by kernel_rfl⟩
instance : ZvT Try.prog 13 (.agg #[.string ⟨#[]⟩, .int .u64 0]) := ⟨fun w => Try.zeroValue13 w⟩
instance : FdT Try.prog 13 0 0 9 := ⟨fun a w => by kernel_rfl, fun cs w => by kernel_rfl⟩
instance : FdT Try.prog 13 1 1 12 := ⟨fun a w => by kernel_rfl, fun cs w => by kernel_rfl⟩
instance : BldT Try.prog 13 [(0, 1), (1, 1)] [.string ⟨#[]⟩, .int .u64 0] := ⟨fun parts => by kernel_rfl⟩
instance : TyT Try.prog 14 2 true := ⟨fun w => Try.isAgg14 w, fun w => Try.sizeOf14 w⟩
instance : MkI Try.prog 14 := ⟨fun v w => by kernel_rfl⟩
instance : ZvT Try.prog 14 (.agg #[.string ⟨#[]⟩, .int .u64 0]) := ⟨fun w => Try.zeroValue14 w⟩
instance : FdT Try.prog 14 0 0 9 := ⟨fun a w => by kernel_rfl, fun cs w => by kernel_rfl⟩
instance : FdT Try.prog 14 1 1 12 := ⟨fun a w => by kernel_rfl, fun cs w => by kernel_rfl⟩
instance : BldT Try.prog 14 [(0, 1), (1, 1)] [.string ⟨#[]⟩, .int .u64 0] := ⟨fun parts => by kernel_rfl⟩
instance : TyT Try.prog 15 1 false := ⟨fun w => Try.isAgg15 w, fun w => Try.sizeOf15 w⟩
instance : MkI Try.prog 15 := ⟨fun v w => by kernel_rfl⟩
instance : ZvT Try.prog 15 (.pointer none) := ⟨fun w => Try.zeroValue15 w⟩
instance : TyT Try.prog 16 1 false := ⟨fun w => Try.isAgg16 w, fun w => Try.sizeOf16 w⟩
instance : MkI Try.prog 16 := ⟨fun v w => by kernel_rfl⟩
instance : ZvT Try.prog 16 (.pointer none) := ⟨fun w => Try.zeroValue16 w⟩
instance : TyT Try.prog 17 1 false := ⟨fun w => Try.isAgg17 w, fun w => Try.sizeOf17 w⟩
instance : MkI Try.prog 17 := ⟨fun v w => by kernel_rfl⟩
instance : ZvT Try.prog 17 (.pointer none) := ⟨fun w => Try.zeroValue17 w⟩
instance : TyT Try.prog 18 1 true := ⟨fun w => Try.isAgg18 w, fun w => Try.sizeOf18 w⟩
instance : MkI Try.prog 18 := ⟨fun v w => by kernel_rfl⟩
instance : ZvT Try.prog 18 (.agg #[.pointer none]) := ⟨fun w => Try.zeroValue18 w⟩
instance : FdT Try.prog 18 0 0 17 := ⟨fun a w => by kernel_rfl, fun cs w => by kernel_rfl⟩
instance : BldT Try.prog 18 [(0, 1)] [.pointer none] := ⟨fun parts => by kernel_rfl⟩
instance : TyT Try.prog 19 1 true := ⟨fun w => Try.isAgg19 w, fun w => Try.sizeOf19 w⟩
instance : MkI Try.prog 19 := ⟨fun v w => by kernel_rfl⟩
instance : ZvT Try.prog 19 (.agg #[.pointer none]) := ⟨fun w => Try.zeroValue19 w⟩
instance : FdT Try.prog 19 0 0 17 := ⟨fun a w => by kernel_rfl, fun cs w => by kernel_rfl⟩
instance : BldT Try.prog 19 [(0, 1)] [.pointer none] := ⟨fun parts => by kernel_rfl⟩
instance : TyT Try.prog 20 1 false := ⟨fun w => Try.isAgg20 w, fun w => Try.sizeOf20 w⟩
instance : IfT Try.prog 20 := ⟨⟨_, Try.underlying20⟩⟩
instance : ZvT Try.prog 20 (.nilIface) := ⟨fun w => Try.zeroValue20 w⟩
instance : TyT Try.prog 21 1 false := ⟨fun w => Try.isAgg21 w, fun w => Try.sizeOf21 w⟩
instance : MkI Try.prog 21 := ⟨fun v w => by kernel_rfl⟩
instance : IntT Try.prog 21 .i32 := ⟨Try.underlying21⟩
instance : ZvT Try.prog 21 (.int .i32 0) := ⟨fun w => Try.zeroValue21 w⟩
instance : TyT Try.prog 22 1 false := ⟨fun w => Try.isAgg22 w, fun w => Try.sizeOf22 w⟩
instance : MkI Try.prog 22 := ⟨fun v w => by kernel_rfl⟩
instance : ZvT Try.prog 22 (.slice none 0 0) := ⟨fun w => Try.zeroValue22 w⟩
instance : SlT Try.prog 22 27 2 16 (.agg #[.int .i64 0, .int .i64 0]) := ⟨by kernel_rfl, by kernel_rfl, rfl, by decide, by decide⟩
instance : TyT Try.prog 23 1 false := ⟨fun w => Try.isAgg23 w, fun w => Try.sizeOf23 w⟩
instance : IfT Try.prog 23 := ⟨⟨_, Try.underlying23⟩⟩
instance : ZvT Try.prog 23 (.nilIface) := ⟨fun w => Try.zeroValue23 w⟩
instance : TyT Try.prog 24 1 false := ⟨fun w => Try.isAgg24 w, fun w => Try.sizeOf24 w⟩
instance : IfT Try.prog 24 := ⟨⟨_, Try.underlying24⟩⟩
instance : ZvT Try.prog 24 (.nilIface) := ⟨fun w => Try.zeroValue24 w⟩
instance : TyT Try.prog 27 2 true := ⟨fun w => Try.isAgg27 w, fun w => Try.sizeOf27 w⟩
instance : MkI Try.prog 27 := ⟨fun v w => by kernel_rfl⟩
instance : ZvT Try.prog 27 (.agg #[.int .i64 0, .int .i64 0]) := ⟨fun w => Try.zeroValue27 w⟩
instance : ArT Try.prog 27 2 3 1 := ⟨Try.underlying27, fun w => Try.sizeOf3 w⟩
instance : TyT Try.prog 32 1 false := ⟨fun w => Try.isAgg32 w, fun w => Try.sizeOf32 w⟩
instance : MkI Try.prog 32 := ⟨fun v w => by kernel_rfl⟩
instance : ZvT Try.prog 32 (.slice none 0 0) := ⟨fun w => Try.zeroValue32 w⟩
instance : SlT Try.prog 32 36 11 104 (.agg #[.bool false, .bool false, .bool false, .int .i64 0, .int .i64 0, .int .i64 0, .int .i64 0, .int .i64 0, .int .i64 0, .slice none 0 0, .slice none 0 0]) := ⟨by kernel_rfl, by kernel_rfl, rfl, by decide, by decide⟩
instance : TyT Try.prog 33 2 true := ⟨fun w => Try.isAgg33 w, fun w => Try.sizeOf33 w⟩
instance : MkI Try.prog 33 := ⟨fun v w => by kernel_rfl⟩
instance : ZvT Try.prog 33 (.agg #[.int .i64 0, .int .i64 0]) := ⟨fun w => Try.zeroValue33 w⟩
instance : FdT Try.prog 33 0 0 3 := ⟨fun a w => by kernel_rfl, fun cs w => by kernel_rfl⟩
instance : FdT Try.prog 33 1 1 3 := ⟨fun a w => by kernel_rfl, fun cs w => by kernel_rfl⟩
instance : BldT Try.prog 33 [(0, 1), (1, 1)] [.int .i64 0, .int .i64 0] := ⟨fun parts => by kernel_rfl⟩
instance : TyT Try.prog 34 2 true := ⟨fun w => Try.isAgg34 w, fun w => Try.sizeOf34 w⟩
instance : MkI Try.prog 34 := ⟨fun v w => by kernel_rfl⟩
instance : ZvT Try.prog 34 (.agg #[.int .i64 0, .int .i64 0]) := ⟨fun w => Try.zeroValue34 w⟩
instance : FdT Try.prog 34 0 0 3 := ⟨fun a w => by kernel_rfl, fun cs w => by kernel_rfl⟩
instance : FdT Try.prog 34 1 1 3 := ⟨fun a w => by kernel_rfl, fun cs w => by kernel_rfl⟩
instance : BldT Try.prog 34 [(0, 1), (1, 1)] [.int .i64 0, .int .i64 0] := ⟨fun parts => by kernel_rfl⟩
instance : TyT Try.prog 35 11 true := ⟨fun w => Try.isAgg35 w, fun w => Try.sizeOf35 w⟩
instance : MkI Try.prog 35 := ⟨fun v w => by kernel_rfl⟩
instance : ZvT Try.prog 35 (.agg #[.bool false, .bool false, .bool false, .int .i64 0, .int .i64 0, .int .i64 0, .int .i64 0, .int .i64 0, .int .i64 0, .slice none 0 0, .slice none 0 0]) := ⟨fun w => Try.zeroValue35 w⟩
instance : FdT Try.prog 35 0 0 4 := ⟨fun a w => by kernel_rfl, fun cs w => by kernel_rfl⟩
instance : FdT Try.prog 35 1 1 4 := ⟨fun a w => by kernel_rfl, fun cs w => by kernel_rfl⟩
instance : FdT Try.prog 35 2 2 4 := ⟨fun a w => by kernel_rfl, fun cs w => by kernel_rfl⟩
instance : FdT Try.prog 35 3 3 3 := ⟨fun a w => by kernel_rfl, fun cs w => by kernel_rfl⟩
instance : FdT Try.prog 35 4 4 3 := ⟨fun a w => by kernel_rfl, fun cs w => by kernel_rfl⟩
instance : FdT Try.prog 35 5 5 34 := ⟨fun a w => by kernel_rfl, fun cs w => by kernel_rfl⟩
instance : FdT Try.prog 35 6 7 34 := ⟨fun a w => by kernel_rfl, fun cs w => by kernel_rfl⟩
instance : FdT Try.prog 35 7 9 22 := ⟨fun a w => by kernel_rfl, fun cs w => by kernel_rfl⟩
instance : FdT Try.prog 35 8 10 22 := ⟨fun a w => by kernel_rfl, fun cs w => by kernel_rfl⟩
instance : BldT Try.prog 35 [(0, 1), (1, 1), (2, 1), (3, 1), (4, 1), (5, 2), (7, 2), (9, 1), (10, 1)] [.bool false, .bool false, .bool false, .int .i64 0, .int .i64 0, .int .i64 0, .int .i64 0, .int .i64 0, .int .i64 0, .slice none 0 0, .slice none 0 0] := ⟨fun parts => by kernel_rfl⟩
instance : TyT Try.prog 36 11 true := ⟨fun w => Try.isAgg36 w, fun w => Try.sizeOf36 w⟩
instance : MkI Try.prog 36 := ⟨fun v w => by kernel_rfl⟩
instance : ZvT Try.prog 36 (.agg #[.bool false, .bool false, .bool false, .int .i64 0, .int .i64 0, .int .i64 0, .int .i64 0, .int .i64 0, .int .i64 0, .slice none 0 0, .slice none 0 0]) := ⟨fun w => Try.zeroValue36 w⟩
instance : FdT Try.prog 36 0 0 4 := ⟨fun a w => by kernel_rfl, fun cs w => by kernel_rfl⟩
instance : FdT Try.prog 36 1 1 4 := ⟨fun a w => by kernel_rfl, fun cs w => by kernel_rfl⟩
instance : FdT Try.prog 36 2 2 4 := ⟨fun a w => by kernel_rfl, fun cs w => by kernel_rfl⟩
instance : FdT Try.prog 36 3 3 3 := ⟨fun a w => by kernel_rfl, fun cs w => by kernel_rfl⟩
instance : FdT Try.prog 36 4 4 3 := ⟨fun a w => by kernel_rfl, fun cs w => by kernel_rfl⟩
instance : FdT Try.prog 36 5 5 34 := ⟨fun a w => by kernel_rfl, fun cs w => by kernel_rfl⟩
instance : FdT Try.prog 36 6 7 34 := ⟨fun a w => by kernel_rfl, fun cs w => by kernel_rfl⟩
instance : FdT Try.prog 36 7 9 22 := ⟨fun a w => by kernel_rfl, fun cs w => by kernel_rfl⟩
instance : FdT Try.prog 36 8 10 22 := ⟨fun a w => by kernel_rfl, fun cs w => by kernel_rfl⟩
instance : BldT Try.prog 36 [(0, 1), (1, 1), (2, 1), (3, 1), (4, 1), (5, 2), (7, 2), (9, 1), (10, 1)] [.bool false, .bool false, .bool false, .int .i64 0, .int .i64 0, .int .i64 0, .int .i64 0, .int .i64 0, .int .i64 0, .slice none 0 0, .slice none 0 0] := ⟨fun parts => by kernel_rfl⟩
instance : TyT Try.prog 37 5 true := ⟨fun w => Try.isAgg37 w, fun w => Try.sizeOf37 w⟩
instance : MkI Try.prog 37 := ⟨fun v w => by kernel_rfl⟩
instance : ZvT Try.prog 37 (.agg #[.int .i64 0, .int .i64 0, .int .i64 0, .int .i64 0, .int .i64 0]) := ⟨fun w => Try.zeroValue37 w⟩
instance : FdT Try.prog 37 0 0 3 := ⟨fun a w => by kernel_rfl, fun cs w => by kernel_rfl⟩
instance : FdT Try.prog 37 1 1 3 := ⟨fun a w => by kernel_rfl, fun cs w => by kernel_rfl⟩
instance : FdT Try.prog 37 2 2 3 := ⟨fun a w => by kernel_rfl, fun cs w => by kernel_rfl⟩
instance : FdT Try.prog 37 3 3 3 := ⟨fun a w => by kernel_rfl, fun cs w => by kernel_rfl⟩
instance : FdT Try.prog 37 4 4 3 := ⟨fun a w => by kernel_rfl, fun cs w => by kernel_rfl⟩
instance : BldT Try.prog 37 [(0, 1), (1, 1), (2, 1), (3, 1), (4, 1)] [.int .i64 0, .int .i64 0, .int .i64 0, .int .i64 0, .int .i64 0] := ⟨fun parts => by kernel_rfl⟩
instance : TyT Try.prog 38 5 true := ⟨fun w => Try.isAgg38 w, fun w => Try.sizeOf38 w⟩
instance : MkI Try.prog 38 := ⟨fun v w => by kernel_rfl⟩
instance : ZvT Try.prog 38 (.agg #[.int .i64 0, .int .i64 0, .int .i64 0, .int .i64 0, .int .i64 0]) := ⟨fun w => Try.zeroValue38 w⟩
instance : FdT Try.prog 38 0 0 3 := ⟨fun a w => by kernel_rfl, fun cs w => by kernel_rfl⟩
instance : FdT Try.prog 38 1 1 3 := ⟨fun a w => by kernel_rfl, fun cs w => by kernel_rfl⟩
instance : FdT Try.prog 38 2 2 3 := ⟨fun a w => by kernel_rfl, fun cs w => by kernel_rfl⟩
instance : FdT Try.prog 38 3 3 3 := ⟨fun a w => by kernel_rfl, fun cs w => by kernel_rfl⟩
instance : FdT Try.prog 38 4 4 3 := ⟨fun a w => by kernel_rfl, fun cs w => by kernel_rfl⟩
instance : BldT Try.prog 38 [(0, 1), (1, 1), (2, 1), (3, 1), (4, 1)] [.int .i64 0, .int .i64 0, .int .i64 0, .int .i64 0, .int .i64 0] := ⟨fun parts => by kernel_rfl⟩
instance : TyT Try.prog 41 1 false := ⟨fun w => Try.isAgg41 w, fun w => Try.sizeOf41 w⟩
instance : MkI Try.prog 41 := ⟨fun v w => by kernel_rfl⟩
instance : ZvT Try.prog 41 (.slice none 0 0) := ⟨fun w => Try.zeroValue41 w⟩
instance : SlT Try.prog 41 3 1 8 (.int .i64 0) := ⟨by kernel_rfl, by kernel_rfl, rfl, by decide, by decide⟩
instance : TyT Try.prog 48 1 false := ⟨fun w => Try.isAgg48 w, fun w => Try.sizeOf48 w⟩
instance : MkI Try.prog 48 := ⟨fun v w => by kernel_rfl⟩
instance : IntT Try.prog 48 .i64 := ⟨Try.underlying48⟩
instance : ZvT Try.prog 48 (.int .i64 0) := ⟨fun w => Try.zeroValue48 w⟩
instance : TyT Try.prog 59 1 false := ⟨fun w => Try.isAgg59 w, fun w => Try.sizeOf59 w⟩
instance : MkI Try.prog 59 := ⟨fun v w => by kernel_rfl⟩
instance : ZvT Try.prog 59 (.slice none 0 0) := ⟨fun w => Try.zeroValue59 w⟩
instance : SlT Try.prog 59 34 2 16 (.agg #[.int .i64 0, .int .i64 0]) := ⟨by kernel_rfl, by kernel_rfl, rfl, by decide, by decide⟩
instance : TyT Try.prog 61 1 false := ⟨fun w => Try.isAgg61 w, fun w => Try.sizeOf61 w⟩
instance : MkI Try.prog 61 := ⟨fun v w => by kernel_rfl⟩
instance : ZvT Try.prog 61 (.slice none 0 0) := ⟨fun w => Try.zeroValue61 w⟩
instance : SlT Try.prog 61 22 1 24 (.slice none 0 0) := ⟨by kernel_rfl, by kernel_rfl, rfl, by decide, by decide⟩
instance : TyT Try.prog 66 1 false := ⟨fun w => Try.isAgg66 w, fun w => Try.sizeOf66 w⟩
instance : MkI Try.prog 66 := ⟨fun v w => by kernel_rfl⟩
instance : IntT Try.prog 66 .u64 := ⟨Try.underlying66⟩
instance : ZvT Try.prog 66 (.int .u64 0) := ⟨fun w => Try.zeroValue66 w⟩
instance : TyT Try.prog 69 1 false := ⟨fun w => Try.isAgg69 w, fun w => Try.sizeOf69 w⟩
instance : MkI Try.prog 69 := ⟨fun v w => by kernel_rfl⟩
instance : IntT Try.prog 69 .i64 := ⟨Try.underlying69⟩
instance : ZvT Try.prog 69 (.int .i64 0) := ⟨fun w => Try.zeroValue69 w⟩
instance : TyT Try.prog 77 1 false := ⟨fun w => Try.isAgg77 w, fun w => Try.sizeOf77 w⟩
instance : MkI Try.prog 77 := ⟨fun v w => by kernel_rfl⟩
instance : IntT Try.prog 77 .u32 := ⟨Try.underlying77⟩
instance : ZvT Try.prog 77 (.int .u32 0) := ⟨fun w => Try.zeroValue77 w⟩
instance : TyT Try.prog 79 1 false := ⟨fun w => Try.isAgg79 w, fun w => Try.sizeOf79 w⟩
instance : MkI Try.prog 79 := ⟨fun v w => by kernel_rfl⟩
instance : IntT Try.prog 79 .u64 := ⟨Try.underlying79⟩
instance : ZvT Try.prog 79 (.int .u64 0) := ⟨fun w => Try.zeroValue79 w⟩
instance : TyT Try.prog 80 1 false := ⟨fun w => Try.isAgg80 w, fun w => Try.sizeOf80 w⟩
instance : MkI Try.prog 80 := ⟨fun v w => by kernel_rfl⟩
instance : IntT Try.prog 80 .u64 := ⟨Try.underlying80⟩
instance : ZvT Try.prog 80 (.int .u64 0) := ⟨fun w => Try.zeroValue80 w⟩
instance : TyT Try.prog 84 1 false := ⟨fun w => Try.isAgg84 w, fun w => Try.sizeOf84 w⟩
instance : MkI Try.prog 84 := ⟨fun v w => by kernel_rfl⟩
instance : ZvT Try.prog 84 (.pointer none) := ⟨fun w => Try.zeroValue84 w⟩
instance : TyT Try.prog 86 1 false := ⟨fun w => Try.isAgg86 w, fun w => Try.sizeOf86 w⟩
instance : MkI Try.prog 86 := ⟨fun v w => by kernel_rfl⟩
instance : ZvT Try.prog 86 (.pointer none) := ⟨fun w => Try.zeroValue86 w⟩
instance : TyT Try.prog 89 4 true := ⟨fun w => Try.isAgg89 w, fun w => Try.sizeOf89 w⟩
instance : MkI Try.prog 89 := ⟨fun v w => by kernel_rfl⟩
instance : ZvT Try.prog 89 (.agg #[.pointer none, .pointer none, .pointer none, .string ⟨#[]⟩]) := ⟨fun w => Try.zeroValue89 w⟩
instance : FdT Try.prog 89 0 0 17 := ⟨fun a w => by kernel_rfl, fun cs w => by kernel_rfl⟩
instance : FdT Try.prog 89 1 1 17 := ⟨fun a w => by kernel_rfl, fun cs w => by kernel_rfl⟩
instance : FdT Try.prog 89 2 2 17 := ⟨fun a w => by kernel_rfl, fun cs w => by kernel_rfl⟩
instance : FdT Try.prog 89 3 3 9 := ⟨fun a w => by kernel_rfl, fun cs w => by kernel_rfl⟩
instance : BldT Try.prog 89 [(0, 1), (1, 1), (2, 1), (3, 1)] [.pointer none, .pointer none, .pointer none, .string ⟨#[]⟩] := ⟨fun parts => by kernel_rfl⟩
instance : TyT Try.prog 90 4 true := ⟨fun w => Try.isAgg90 w, fun w => Try.sizeOf90 w⟩
instance : MkI Try.prog 90 := ⟨fun v w => by kernel_rfl⟩
instance : ZvT Try.prog 90 (.agg #[.pointer none, .pointer none, .pointer none, .string ⟨#[]⟩]) := ⟨fun w => Try.zeroValue90 w⟩
instance : FdT Try.prog 90 0 0 17 := ⟨fun a w => by kernel_rfl, fun cs w => by kernel_rfl⟩
instance : FdT Try.prog 90 1 1 17 := ⟨fun a w => by kernel_rfl, fun cs w => by kernel_rfl⟩
instance : FdT Try.prog 90 2 2 17 := ⟨fun a w => by kernel_rfl, fun cs w => by kernel_rfl⟩
instance : FdT Try.prog 90 3 3 9 := ⟨fun a w => by kernel_rfl, fun cs w => by kernel_rfl⟩
instance : BldT Try.prog 90 [(0, 1), (1, 1), (2, 1), (3, 1)] [.pointer none, .pointer none, .pointer none, .string ⟨#[]⟩] := ⟨fun parts => by kernel_rfl⟩
instance : TyT Try.prog 91 0 true := ⟨fun w => Try.isAgg91 w, fun w => Try.sizeOf91 w⟩
instance : MkI Try.prog 91 := ⟨fun v w => by kernel_rfl⟩
instance : ZvT Try.prog 91 (.agg #[]) := ⟨fun w => Try.zeroValue91 w⟩
instance : ArT Try.prog 91 0 16 1 := ⟨Try.underlying91, fun w => Try.sizeOf16 w⟩
instance : TyT Try.prog 92 0 true := ⟨fun w => Try.isAgg92 w, fun w => Try.sizeOf92 w⟩
instance : MkI Try.prog 92 := ⟨fun v w => by kernel_rfl⟩
instance : ZvT Try.prog 92 (.agg #[]) := ⟨fun w => Try.zeroValue92 w⟩
instance : BldT Try.prog 92 [(0, 0)] [] := ⟨fun parts => by kernel_rfl⟩
instance : TyT Try.prog 93 0 true := ⟨fun w => Try.isAgg93 w, fun w => Try.sizeOf93 w⟩
instance : MkI Try.prog 93 := ⟨fun v w => by kernel_rfl⟩
instance : ZvT Try.prog 93 (.agg #[]) := ⟨fun w => Try.zeroValue93 w⟩
instance : BldT Try.prog 93 [(0, 0)] [] := ⟨fun parts => by kernel_rfl⟩
instance : TyT Try.prog 95 1 false := ⟨fun w => Try.isAgg95 w, fun w => Try.sizeOf95 w⟩
instance : MkI Try.prog 95 := ⟨fun v w => by kernel_rfl⟩
instance : IntT Try.prog 95 .u8 := ⟨Try.underlying95⟩
instance : ZvT Try.prog 95 (.int .u8 0) := ⟨fun w => Try.zeroValue95 w⟩
instance : TyT Try.prog 96 1 false := ⟨fun w => Try.isAgg96 w, fun w => Try.sizeOf96 w⟩
instance : MkI Try.prog 96 := ⟨fun v w => by kernel_rfl⟩
instance : IntT Try.prog 96 .u8 := ⟨Try.underlying96⟩
instance : ZvT Try.prog 96 (.int .u8 0) := ⟨fun w => Try.zeroValue96 w⟩
instance : TyT Try.prog 98 1 false := ⟨fun w => Try.isAgg98 w, fun w => Try.sizeOf98 w⟩
instance : MkI Try.prog 98 := ⟨fun v w => by kernel_rfl⟩
instance : ZvT Try.prog 98 (.pointer none) := ⟨fun w => Try.zeroValue98 w⟩
instance : TyT Try.prog 99 1 false := ⟨fun w => Try.isAgg99 w, fun w => Try.sizeOf99 w⟩
instance : MkI Try.prog 99 := ⟨fun v w => by kernel_rfl⟩
instance : IntT Try.prog 99 .i32 := ⟨Try.underlying99⟩
instance : ZvT Try.prog 99 (.int .i32 0) := ⟨fun w => Try.zeroValue99 w⟩
instance : TyT Try.prog 100 1 false := ⟨fun w => Try.isAgg100 w, fun w => Try.sizeOf100 w⟩
instance : MkI Try.prog 100 := ⟨fun v w => by kernel_rfl⟩
instance : IntT Try.prog 100 .i32 := ⟨Try.underlying100⟩
instance : ZvT Try.prog 100 (.int .i32 0) := ⟨fun w => Try.zeroValue100 w⟩
instance : TyT Try.prog 101 11 true := ⟨fun w => Try.isAgg101 w, fun w => Try.sizeOf101 w⟩
instance : MkI Try.prog 101 := ⟨fun v w => by kernel_rfl⟩
instance : ZvT Try.prog 101 (.agg #[.int .u64 0, .int .u64 0, .int .u32 0, .int .u8 0, .int .u8 0, .int .u8 0, .int .u8 0, .nilFunc, .pointer none, .int .i32 0, .int .i32 0]) := ⟨fun w => Try.zeroValue101 w⟩
instance : FdT Try.prog 101 0 0 12 := ⟨fun a w => by kernel_rfl, fun cs w => by kernel_rfl⟩
instance : FdT Try.prog 101 1 1 12 := ⟨fun a w => by kernel_rfl, fun cs w => by kernel_rfl⟩
instance : FdT Try.prog 101 2 2 77 := ⟨fun a w => by kernel_rfl, fun cs w => by kernel_rfl⟩
instance : FdT Try.prog 101 3 3 95 := ⟨fun a w => by kernel_rfl, fun cs w => by kernel_rfl⟩
instance : FdT Try.prog 101 4 4 5 := ⟨fun a w => by kernel_rfl, fun cs w => by kernel_rfl⟩
instance : FdT Try.prog 101 5 5 5 := ⟨fun a w => by kernel_rfl, fun cs w => by kernel_rfl⟩
instance : FdT Try.prog 101 6 6 96 := ⟨fun a w => by kernel_rfl, fun cs w => by kernel_rfl⟩
instance : FdT Try.prog 101 8 8 98 := ⟨fun a w => by kernel_rfl, fun cs w => by kernel_rfl⟩
instance : FdT Try.prog 101 9 9 99 := ⟨fun a w => by kernel_rfl, fun cs w => by kernel_rfl⟩
instance : FdT Try.prog 101 10 10 100 := ⟨fun a w => by kernel_rfl, fun cs w => by kernel_rfl⟩
instance : TyT Try.prog 102 11 true := ⟨fun w => Try.isAgg102 w, fun w => Try.sizeOf102 w⟩
instance : MkI Try.prog 102 := ⟨fun v w => by kernel_rfl⟩
instance : ZvT Try.prog 102 (.agg #[.int .u64 0, .int .u64 0, .int .u32 0, .int .u8 0, .int .u8 0, .int .u8 0, .int .u8 0, .nilFunc, .pointer none, .int .i32 0, .int .i32 0]) := ⟨fun w => Try.zeroValue102 w⟩
instance : FdT Try.prog 102 0 0 12 := ⟨fun a w => by kernel_rfl, fun cs w => by kernel_rfl⟩
instance : FdT Try.prog 102 1 1 12 := ⟨fun a w => by kernel_rfl, fun cs w => by kernel_rfl⟩
instance : FdT Try.prog 102 2 2 77 := ⟨fun a w => by kernel_rfl, fun cs w => by kernel_rfl⟩
instance : FdT Try.prog 102 3 3 95 := ⟨fun a w => by kernel_rfl, fun cs w => by kernel_rfl⟩
instance : FdT Try.prog 102 4 4 5 := ⟨fun a w => by kernel_rfl, fun cs w => by kernel_rfl⟩
instance : FdT Try.prog 102 5 5 5 := ⟨fun a w => by kernel_rfl, fun cs w => by kernel_rfl⟩
instance : FdT Try.prog 102 6 6 96 := ⟨fun a w => by kernel_rfl, fun cs w => by kernel_rfl⟩
instance : FdT Try.prog 102 8 8 98 := ⟨fun a w => by kernel_rfl, fun cs w => by kernel_rfl⟩
instance : FdT Try.prog 102 9 9 99 := ⟨fun a w => by kernel_rfl, fun cs w => by kernel_rfl⟩
instance : FdT Try.prog 102 10 10 100 := ⟨fun a w => by kernel_rfl, fun cs w => by kernel_rfl⟩
instance : TyT Try.prog 103 1 false := ⟨fun w => Try.isAgg103 w, fun w => Try.sizeOf103 w⟩
instance : MkI Try.prog 103 := ⟨fun v w => by kernel_rfl⟩
instance : ZvT Try.prog 103 (.pointer none) := ⟨fun w => Try.zeroValue103 w⟩
/- Functions with a body. -/
instance : CalT Try.prog 2 := ⟨fun args w => Try.call2 args w⟩
instance : CalT Try.prog 3 := ⟨fun args w => Try.call3 args w⟩
instance : CalT Try.prog 4 := ⟨fun args w => Try.call4 args w⟩
instance : CalT Try.prog 5 := ⟨fun args w => Try.call5 args w⟩
instance : CalT Try.prog 6 := ⟨fun args w => Try.call6 args w⟩
instance : CalT Try.prog 7 := ⟨fun args w => Try.call7 args w⟩
instance : CalT Try.prog 8 := ⟨fun args w => Try.call8 args w⟩
instance : CalT Try.prog 9 := ⟨fun args w => Try.call9 args w⟩
instance : CalT Try.prog 10 := ⟨fun args w => Try.call10 args w⟩
instance : CalT Try.prog 11 := ⟨fun args w => Try.call11 args w⟩
instance : CalT Try.prog 12 := ⟨fun args w => Try.call12 args w⟩
instance : CalT Try.prog 13 := ⟨fun args w => Try.call13 args w⟩
instance : CalT Try.prog 14 := ⟨fun args w => Try.call14 args w⟩
instance : CalT Try.prog 15 := ⟨fun args w => Try.call15 args w⟩
instance : CalT Try.prog 16 := ⟨fun args w => Try.call16 args w⟩
instance : CalT Try.prog 17 := ⟨fun args w => Try.call17 args w⟩
instance : CalT Try.prog 18 := ⟨fun args w => Try.call18 args w⟩
instance : CalT Try.prog 19 := ⟨fun args w => Try.call19 args w⟩
instance : CalT Try.prog 20 := ⟨fun args w => Try.call20 args w⟩
instance : CalT Try.prog 21 := ⟨fun args w => Try.call21 args w⟩
instance : CalT Try.prog 22 := ⟨fun args w => Try.call22 args w⟩
instance : CalT Try.prog 23 := ⟨fun args w => Try.call23 args w⟩
instance : CalT Try.prog 24 := ⟨fun args w => Try.call24 args w⟩
instance : CalT Try.prog 25 := ⟨fun args w => Try.call25 args w⟩
instance : CalT Try.prog 26 := ⟨fun args w => Try.call26 args w⟩
instance : CalT Try.prog 27 := ⟨fun args w => Try.call27 args w⟩
instance : CalT Try.prog 28 := ⟨fun args w => Try.call28 args w⟩
instance : CalT Try.prog 29 := ⟨fun args w => Try.call29 args w⟩
instance : CalT Try.prog 30 := ⟨fun args w => Try.call30 args w⟩
instance : CalT Try.prog 31 := ⟨fun args w => Try.call31 args w⟩
instance : CalT Try.prog 32 := ⟨fun args w => Try.call32 args w⟩
instance : CalT Try.prog 33 := ⟨fun args w => Try.call33 args w⟩
instance : CalT Try.prog 34 := ⟨fun args w => Try.call34 args w⟩
instance : CalT Try.prog 35 := ⟨fun args w => Try.call35 args w⟩
instance : CalT Try.prog 36 := ⟨fun args w => Try.call36 args w⟩
instance : CalT Try.prog 37 := ⟨fun args w => Try.call37 args w⟩
instance : CalT Try.prog 38 := ⟨fun args w => Try.call38 args w⟩
instance : CalT Try.prog 39 := ⟨fun args w => Try.call39 args w⟩
instance : CalT Try.prog 40 := ⟨fun args w => Try.call40 args w⟩
instance : CalT Try.prog 41 := ⟨fun args w => Try.call41 args w⟩
instance : CalT Try.prog 42 := ⟨fun args w => Try.call42 args w⟩
instance : CalT Try.prog 43 := ⟨fun args w => Try.call43 args w⟩
instance : CalT Try.prog 44 := ⟨fun args w => Try.call44 args w⟩
instance : CalT Try.prog 45 := ⟨fun args w => Try.call45 args w⟩
instance : CalT Try.prog 46 := ⟨fun args w => Try.call46 args w⟩
instance : CalT Try.prog 47 := ⟨fun args w => Try.call47 args w⟩
instance : CalT Try.prog 48 := ⟨fun args w => Try.call48 args w⟩
instance : CalT Try.prog 49 := ⟨fun args w => Try.call49 args w⟩
instance : CalT Try.prog 50 := ⟨fun args w => Try.call50 args w⟩
end Go.Proofs.Ytchkpkeljcdccaa
