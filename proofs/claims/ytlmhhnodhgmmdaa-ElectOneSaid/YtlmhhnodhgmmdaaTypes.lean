/- The seat's types and functions, as instances. Printed by wip/tools/types.py. -/
import Derived.Test.YtlmhhnodhgmmdaaSxMore
import Derived.Test.YtlmhhnodhgmmdaaProg
import Derived.KernelRfl
namespace Go.Proofs.Ytlmhhnodhgmmdaa
open Go.Port
instance : TyT Try.prog 2 1 false := ⟨fun w => Try.isAgg2 w, fun w => Try.sizeOf2 w⟩
instance : MkI Try.prog 2 := ⟨fun v w => by kernel_rfl⟩
instance : IntT Try.prog 2 .i64 := ⟨Try.underlying2⟩
instance : ZvT Try.prog 2 (.int .i64 0) := ⟨fun w => Try.zeroValue2 w⟩
instance : TyT Try.prog 3 1 false := ⟨fun w => Try.isAgg3 w, fun w => Try.sizeOf3 w⟩
instance : MkI Try.prog 3 := ⟨fun v w => by kernel_rfl⟩
instance : IntT Try.prog 3 .i64 := ⟨Try.underlying3⟩
instance : ZvT Try.prog 3 (.int .i64 0) := ⟨fun w => Try.zeroValue3 w⟩
instance : TyT Try.prog 4 1 false := ⟨fun w => Try.isAgg4 w, fun w => Try.sizeOf4 w⟩
instance : MkI Try.prog 4 := ⟨fun v w => by kernel_rfl⟩
instance : ZvT Try.prog 4 (.bool false) := ⟨fun w => Try.zeroValue4 w⟩
instance : TyT Try.prog 5 1 false := ⟨fun w => Try.isAgg5 w, fun w => Try.sizeOf5 w⟩
instance : MkI Try.prog 5 := ⟨fun v w => by kernel_rfl⟩
instance : IntT Try.prog 5 .u8 := ⟨Try.underlying5⟩
instance : ZvT Try.prog 5 (.int .u8 0) := ⟨fun w => Try.zeroValue5 w⟩
instance : TyT Try.prog 6 1 false := ⟨fun w => Try.isAgg6 w, fun w => Try.sizeOf6 w⟩
instance : MkI Try.prog 6 := ⟨fun v w => by kernel_rfl⟩
instance : IntT Try.prog 6 .u8 := ⟨Try.underlying6⟩
instance : ZvT Try.prog 6 (.int .u8 0) := ⟨fun w => Try.zeroValue6 w⟩
instance : TyT Try.prog 7 4 true := ⟨fun w => Try.isAgg7 w, fun w => Try.sizeOf7 w⟩
instance : MkI Try.prog 7 := ⟨fun v w => by kernel_rfl⟩
instance : ZvT Try.prog 7 (.agg #[.int .i64 0, .int .i64 0, .bool false, .int .u8 0]) := ⟨fun w => Try.zeroValue7 w⟩
instance : FdT Try.prog 7 0 0 2 := ⟨fun a w => by kernel_rfl, fun cs w => by kernel_rfl⟩
instance : FdT Try.prog 7 1 1 3 := ⟨fun a w => by kernel_rfl, fun cs w => by kernel_rfl⟩
instance : FdT Try.prog 7 2 2 4 := ⟨fun a w => by kernel_rfl, fun cs w => by kernel_rfl⟩
instance : FdT Try.prog 7 3 3 6 := ⟨fun a w => by kernel_rfl, fun cs w => by kernel_rfl⟩
instance : BldT Try.prog 7 [(0, 1), (1, 1), (2, 1), (3, 1)] [.int .i64 0, .int .i64 0, .bool false, .int .u8 0] := ⟨fun parts => by kernel_rfl⟩
instance : TyT Try.prog 8 4 true := ⟨fun w => Try.isAgg8 w, fun w => Try.sizeOf8 w⟩
instance : MkI Try.prog 8 := ⟨fun v w => by kernel_rfl⟩
instance : ZvT Try.prog 8 (.agg #[.int .i64 0, .int .i64 0, .bool false, .int .u8 0]) := ⟨fun w => Try.zeroValue8 w⟩
instance : FdT Try.prog 8 0 0 2 := ⟨fun a w => by kernel_rfl, fun cs w => by kernel_rfl⟩
instance : FdT Try.prog 8 1 1 3 := ⟨fun a w => by kernel_rfl, fun cs w => by kernel_rfl⟩
instance : FdT Try.prog 8 2 2 4 := ⟨fun a w => by kernel_rfl, fun cs w => by kernel_rfl⟩
instance : FdT Try.prog 8 3 3 6 := ⟨fun a w => by kernel_rfl, fun cs w => by kernel_rfl⟩
instance : BldT Try.prog 8 [(0, 1), (1, 1), (2, 1), (3, 1)] [.int .i64 0, .int .i64 0, .bool false, .int .u8 0] := ⟨fun parts => by kernel_rfl⟩
instance : TyT Try.prog 9 1 false := ⟨fun w => Try.isAgg9 w, fun w => Try.sizeOf9 w⟩
instance : MkI Try.prog 9 := ⟨fun v w => by kernel_rfl⟩
instance : StrT Try.prog 9 := ⟨Try.underlying9⟩
instance : ZvT Try.prog 9 (.string ⟨#[]⟩) := ⟨fun w => Try.zeroValue9 w⟩
instance : TyT Try.prog 10 1 false := ⟨fun w => Try.isAgg10 w, fun w => Try.sizeOf10 w⟩
instance : MkI Try.prog 10 := ⟨fun v w => by kernel_rfl⟩
instance : StrT Try.prog 10 := ⟨Try.underlying10⟩
instance : ZvT Try.prog 10 (.string ⟨#[]⟩) := ⟨fun w => Try.zeroValue10 w⟩
instance : TyT Try.prog 11 1 false := ⟨fun w => Try.isAgg11 w, fun w => Try.sizeOf11 w⟩
instance : MkI Try.prog 11 := ⟨fun v w => by kernel_rfl⟩
instance : StrT Try.prog 11 := ⟨Try.underlying11⟩
instance : ZvT Try.prog 11 (.string ⟨#[]⟩) := ⟨fun w => Try.zeroValue11 w⟩
instance : TyT Try.prog 12 1 false := ⟨fun w => Try.isAgg12 w, fun w => Try.sizeOf12 w⟩
instance : MkI Try.prog 12 := ⟨fun v w => by kernel_rfl⟩
instance : IntT Try.prog 12 .u64 := ⟨Try.underlying12⟩
instance : ZvT Try.prog 12 (.int .u64 0) := ⟨fun w => Try.zeroValue12 w⟩
instance : TyT Try.prog 13 2 true := ⟨fun w => Try.isAgg13 w, fun w => Try.sizeOf13 w⟩
instance : MkI Try.prog 13 := ⟨fun v w => by kernel_rfl⟩
instance : ZvT Try.prog 13 (.agg #[.string ⟨#[]⟩, .int .u64 0]) := ⟨fun w => Try.zeroValue13 w⟩
instance : FdT Try.prog 13 0 0 9 := ⟨fun a w => by kernel_rfl, fun cs w => by kernel_rfl⟩
instance : FdT Try.prog 13 1 1 12 := ⟨fun a w => by kernel_rfl, fun cs w => by kernel_rfl⟩
instance : BldT Try.prog 13 [(0, 1), (1, 1)] [.string ⟨#[]⟩, .int .u64 0] := ⟨fun parts => by kernel_rfl⟩
instance : TyT Try.prog 14 2 true := ⟨fun w => Try.isAgg14 w, fun w => Try.sizeOf14 w⟩
instance : MkI Try.prog 14 := ⟨fun v w => by kernel_rfl⟩
instance : ZvT Try.prog 14 (.agg #[.string ⟨#[]⟩, .int .u64 0]) := ⟨fun w => Try.zeroValue14 w⟩
instance : FdT Try.prog 14 0 0 9 := ⟨fun a w => by kernel_rfl, fun cs w => by kernel_rfl⟩
instance : FdT Try.prog 14 1 1 12 := ⟨fun a w => by kernel_rfl, fun cs w => by kernel_rfl⟩
instance : BldT Try.prog 14 [(0, 1), (1, 1)] [.string ⟨#[]⟩, .int .u64 0] := ⟨fun parts => by kernel_rfl⟩
instance : TyT Try.prog 15 1 false := ⟨fun w => Try.isAgg15 w, fun w => Try.sizeOf15 w⟩
instance : MkI Try.prog 15 := ⟨fun v w => by kernel_rfl⟩
instance : ZvT Try.prog 15 (.pointer none) := ⟨fun w => Try.zeroValue15 w⟩
instance : TyT Try.prog 16 1 false := ⟨fun w => Try.isAgg16 w, fun w => Try.sizeOf16 w⟩
instance : MkI Try.prog 16 := ⟨fun v w => by kernel_rfl⟩
instance : ZvT Try.prog 16 (.pointer none) := ⟨fun w => Try.zeroValue16 w⟩
instance : TyT Try.prog 17 1 false := ⟨fun w => Try.isAgg17 w, fun w => Try.sizeOf17 w⟩
instance : MkI Try.prog 17 := ⟨fun v w => by kernel_rfl⟩
instance : ZvT Try.prog 17 (.pointer none) := ⟨fun w => Try.zeroValue17 w⟩
instance : TyT Try.prog 18 1 true := ⟨fun w => Try.isAgg18 w, fun w => Try.sizeOf18 w⟩
instance : MkI Try.prog 18 := ⟨fun v w => by kernel_rfl⟩
instance : ZvT Try.prog 18 (.agg #[.pointer none]) := ⟨fun w => Try.zeroValue18 w⟩
instance : FdT Try.prog 18 0 0 17 := ⟨fun a w => by kernel_rfl, fun cs w => by kernel_rfl⟩
instance : BldT Try.prog 18 [(0, 1)] [.pointer none] := ⟨fun parts => by kernel_rfl⟩
instance : TyT Try.prog 19 1 true := ⟨fun w => Try.isAgg19 w, fun w => Try.sizeOf19 w⟩
instance : MkI Try.prog 19 := ⟨fun v w => by kernel_rfl⟩
instance : ZvT Try.prog 19 (.agg #[.pointer none]) := ⟨fun w => Try.zeroValue19 w⟩
instance : FdT Try.prog 19 0 0 17 := ⟨fun a w => by kernel_rfl, fun cs w => by kernel_rfl⟩
instance : BldT Try.prog 19 [(0, 1)] [.pointer none] := ⟨fun parts => by kernel_rfl⟩
instance : TyT Try.prog 20 1 false := ⟨fun w => Try.isAgg20 w, fun w => Try.sizeOf20 w⟩
instance : IfT Try.prog 20 := ⟨⟨_, Try.underlying20⟩⟩
instance : ZvT Try.prog 20 (.nilIface) := ⟨fun w => Try.zeroValue20 w⟩
instance : TyT Try.prog 21 1 false := ⟨fun w => Try.isAgg21 w, fun w => Try.sizeOf21 w⟩
instance : MkI Try.prog 21 := ⟨fun v w => by kernel_rfl⟩
instance : IntT Try.prog 21 .i32 := ⟨Try.underlying21⟩
instance : ZvT Try.prog 21 (.int .i32 0) := ⟨fun w => Try.zeroValue21 w⟩
instance : TyT Try.prog 22 1 false := ⟨fun w => Try.isAgg22 w, fun w => Try.sizeOf22 w⟩
instance : MkI Try.prog 22 := ⟨fun v w => by kernel_rfl⟩
instance : ZvT Try.prog 22 (.slice none 0 0) := ⟨fun w => Try.zeroValue22 w⟩
instance : SlT Try.prog 22 9 1 16 (.string ⟨#[]⟩) := ⟨by kernel_rfl, by kernel_rfl, rfl, by decide, by decide⟩
instance : TyT Try.prog 23 1 false := ⟨fun w => Try.isAgg23 w, fun w => Try.sizeOf23 w⟩
instance : MkI Try.prog 23 := ⟨fun v w => by kernel_rfl⟩
instance : IntT Try.prog 23 .i64 := ⟨Try.underlying23⟩
instance : ZvT Try.prog 23 (.int .i64 0) := ⟨fun w => Try.zeroValue23 w⟩
instance : TyT Try.prog 26 1 false := ⟨fun w => Try.isAgg26 w, fun w => Try.sizeOf26 w⟩
instance : MkI Try.prog 26 := ⟨fun v w => by kernel_rfl⟩
instance : ZvT Try.prog 26 (.slice none 0 0) := ⟨fun w => Try.zeroValue26 w⟩
instance : SlT Try.prog 26 5 1 1 (.int .u8 0) := ⟨by kernel_rfl, by kernel_rfl, rfl, by decide, by decide⟩
instance : TyT Try.prog 29 1 false := ⟨fun w => Try.isAgg29 w, fun w => Try.sizeOf29 w⟩
instance : IfT Try.prog 29 := ⟨⟨_, Try.underlying29⟩⟩
instance : ZvT Try.prog 29 (.nilIface) := ⟨fun w => Try.zeroValue29 w⟩
instance : TyT Try.prog 30 1 false := ⟨fun w => Try.isAgg30 w, fun w => Try.sizeOf30 w⟩
instance : IfT Try.prog 30 := ⟨⟨_, Try.underlying30⟩⟩
instance : ZvT Try.prog 30 (.nilIface) := ⟨fun w => Try.zeroValue30 w⟩
instance : TyT Try.prog 34 8 true := ⟨fun w => Try.isAgg34 w, fun w => Try.sizeOf34 w⟩
instance : MkI Try.prog 34 := ⟨fun v w => by kernel_rfl⟩
instance : ZvT Try.prog 34 (.agg #[.int .i64 0, .int .i64 0, .int .i64 0, .int .i64 0, .int .i64 0, .int .i64 0, .bool false, .slice none 0 0]) := ⟨fun w => Try.zeroValue34 w⟩
instance : FdT Try.prog 34 0 0 3 := ⟨fun a w => by kernel_rfl, fun cs w => by kernel_rfl⟩
instance : FdT Try.prog 34 1 1 3 := ⟨fun a w => by kernel_rfl, fun cs w => by kernel_rfl⟩
instance : FdT Try.prog 34 2 2 3 := ⟨fun a w => by kernel_rfl, fun cs w => by kernel_rfl⟩
instance : FdT Try.prog 34 3 3 3 := ⟨fun a w => by kernel_rfl, fun cs w => by kernel_rfl⟩
instance : FdT Try.prog 34 4 4 3 := ⟨fun a w => by kernel_rfl, fun cs w => by kernel_rfl⟩
instance : FdT Try.prog 34 5 5 3 := ⟨fun a w => by kernel_rfl, fun cs w => by kernel_rfl⟩
instance : FdT Try.prog 34 6 6 4 := ⟨fun a w => by kernel_rfl, fun cs w => by kernel_rfl⟩
instance : FdT Try.prog 34 7 7 26 := ⟨fun a w => by kernel_rfl, fun cs w => by kernel_rfl⟩
instance : BldT Try.prog 34 [(0, 1), (1, 1), (2, 1), (3, 1), (4, 1), (5, 1), (6, 1), (7, 1)] [.int .i64 0, .int .i64 0, .int .i64 0, .int .i64 0, .int .i64 0, .int .i64 0, .bool false, .slice none 0 0] := ⟨fun parts => by kernel_rfl⟩
instance : TyT Try.prog 35 8 true := ⟨fun w => Try.isAgg35 w, fun w => Try.sizeOf35 w⟩
instance : MkI Try.prog 35 := ⟨fun v w => by kernel_rfl⟩
instance : ZvT Try.prog 35 (.agg #[.int .i64 0, .int .i64 0, .int .i64 0, .int .i64 0, .int .i64 0, .int .i64 0, .bool false, .slice none 0 0]) := ⟨fun w => Try.zeroValue35 w⟩
instance : FdT Try.prog 35 0 0 3 := ⟨fun a w => by kernel_rfl, fun cs w => by kernel_rfl⟩
instance : FdT Try.prog 35 1 1 3 := ⟨fun a w => by kernel_rfl, fun cs w => by kernel_rfl⟩
instance : FdT Try.prog 35 2 2 3 := ⟨fun a w => by kernel_rfl, fun cs w => by kernel_rfl⟩
instance : FdT Try.prog 35 3 3 3 := ⟨fun a w => by kernel_rfl, fun cs w => by kernel_rfl⟩
instance : FdT Try.prog 35 4 4 3 := ⟨fun a w => by kernel_rfl, fun cs w => by kernel_rfl⟩
instance : FdT Try.prog 35 5 5 3 := ⟨fun a w => by kernel_rfl, fun cs w => by kernel_rfl⟩
instance : FdT Try.prog 35 6 6 4 := ⟨fun a w => by kernel_rfl, fun cs w => by kernel_rfl⟩
instance : FdT Try.prog 35 7 7 26 := ⟨fun a w => by kernel_rfl, fun cs w => by kernel_rfl⟩
instance : BldT Try.prog 35 [(0, 1), (1, 1), (2, 1), (3, 1), (4, 1), (5, 1), (6, 1), (7, 1)] [.int .i64 0, .int .i64 0, .int .i64 0, .int .i64 0, .int .i64 0, .int .i64 0, .bool false, .slice none 0 0] := ⟨fun parts => by kernel_rfl⟩
instance : TyT Try.prog 36 1 false := ⟨fun w => Try.isAgg36 w, fun w => Try.sizeOf36 w⟩
instance : MkI Try.prog 36 := ⟨fun v w => by kernel_rfl⟩
instance : ZvT Try.prog 36 (.slice none 0 0) := ⟨fun w => Try.zeroValue36 w⟩
instance : SlT Try.prog 36 35 8 80 (.agg #[.int .i64 0, .int .i64 0, .int .i64 0, .int .i64 0, .int .i64 0, .int .i64 0, .bool false, .slice none 0 0]) := ⟨by kernel_rfl, by kernel_rfl, rfl, by decide, by decide⟩
instance : TyT Try.prog 42 1 false := ⟨fun w => Try.isAgg42 w, fun w => Try.sizeOf42 w⟩
instance : MkI Try.prog 42 := ⟨fun v w => by kernel_rfl⟩
instance : ZvT Try.prog 42 (.slice none 0 0) := ⟨fun w => Try.zeroValue42 w⟩
instance : SlT Try.prog 42 52 1 24 (.slice none 0 0) := ⟨by kernel_rfl, by kernel_rfl, rfl, by decide, by decide⟩
instance : TyT Try.prog 43 1 false := ⟨fun w => Try.isAgg43 w, fun w => Try.sizeOf43 w⟩
instance : MkI Try.prog 43 := ⟨fun v w => by kernel_rfl⟩
instance : ZvT Try.prog 43 (.pointer none) := ⟨fun w => Try.zeroValue43 w⟩
instance : TyT Try.prog 47 1 false := ⟨fun w => Try.isAgg47 w, fun w => Try.sizeOf47 w⟩
instance : MkI Try.prog 47 := ⟨fun v w => by kernel_rfl⟩
instance : ZvT Try.prog 47 (.pointer none) := ⟨fun w => Try.zeroValue47 w⟩
instance : TyT Try.prog 50 2 true := ⟨fun w => Try.isAgg50 w, fun w => Try.sizeOf50 w⟩
instance : MkI Try.prog 50 := ⟨fun v w => by kernel_rfl⟩
instance : ZvT Try.prog 50 (.agg #[.int .i64 0, .int .i64 0]) := ⟨fun w => Try.zeroValue50 w⟩
instance : ArT Try.prog 50 2 3 1 := ⟨Try.underlying50, fun w => Try.sizeOf3 w⟩
instance : TyT Try.prog 51 3 true := ⟨fun w => Try.isAgg51 w, fun w => Try.sizeOf51 w⟩
instance : MkI Try.prog 51 := ⟨fun v w => by kernel_rfl⟩
instance : ZvT Try.prog 51 (.agg #[.int .i64 0, .int .i64 0, .int .i64 0]) := ⟨fun w => Try.zeroValue51 w⟩
instance : ArT Try.prog 51 3 3 1 := ⟨Try.underlying51, fun w => Try.sizeOf3 w⟩
instance : TyT Try.prog 52 1 false := ⟨fun w => Try.isAgg52 w, fun w => Try.sizeOf52 w⟩
instance : MkI Try.prog 52 := ⟨fun v w => by kernel_rfl⟩
instance : ZvT Try.prog 52 (.slice none 0 0) := ⟨fun w => Try.zeroValue52 w⟩
instance : SlT Try.prog 52 3 1 8 (.int .i64 0) := ⟨by kernel_rfl, by kernel_rfl, rfl, by decide, by decide⟩
instance : TyT Try.prog 59 1 true := ⟨fun w => Try.isAgg59 w, fun w => Try.sizeOf59 w⟩
instance : MkI Try.prog 59 := ⟨fun v w => by kernel_rfl⟩
instance : ZvT Try.prog 59 (.agg #[.int .i64 0]) := ⟨fun w => Try.zeroValue59 w⟩
instance : FdT Try.prog 59 0 0 3 := ⟨fun a w => by kernel_rfl, fun cs w => by kernel_rfl⟩
instance : BldT Try.prog 59 [(0, 1)] [.int .i64 0] := ⟨fun parts => by kernel_rfl⟩
instance : TyT Try.prog 60 1 true := ⟨fun w => Try.isAgg60 w, fun w => Try.sizeOf60 w⟩
instance : MkI Try.prog 60 := ⟨fun v w => by kernel_rfl⟩
instance : ZvT Try.prog 60 (.agg #[.int .i64 0]) := ⟨fun w => Try.zeroValue60 w⟩
instance : FdT Try.prog 60 0 0 3 := ⟨fun a w => by kernel_rfl, fun cs w => by kernel_rfl⟩
instance : BldT Try.prog 60 [(0, 1)] [.int .i64 0] := ⟨fun parts => by kernel_rfl⟩
instance : TyT Try.prog 61 4 true := ⟨fun w => Try.isAgg61 w, fun w => Try.sizeOf61 w⟩
instance : MkI Try.prog 61 := ⟨fun v w => by kernel_rfl⟩
instance : ZvT Try.prog 61 (.agg #[.int .i64 0, .int .i64 0, .int .i64 0, .int .i64 0]) := ⟨fun w => Try.zeroValue61 w⟩
instance : FdT Try.prog 61 0 0 60 := ⟨fun a w => by kernel_rfl, fun cs w => by kernel_rfl⟩
instance : FdT Try.prog 61 1 1 3 := ⟨fun a w => by kernel_rfl, fun cs w => by kernel_rfl⟩
instance : FdT Try.prog 61 2 2 3 := ⟨fun a w => by kernel_rfl, fun cs w => by kernel_rfl⟩
instance : FdT Try.prog 61 3 3 3 := ⟨fun a w => by kernel_rfl, fun cs w => by kernel_rfl⟩
instance : BldT Try.prog 61 [(0, 1), (1, 1), (2, 1), (3, 1)] [.int .i64 0, .int .i64 0, .int .i64 0, .int .i64 0] := ⟨fun parts => by kernel_rfl⟩
instance : TyT Try.prog 62 4 true := ⟨fun w => Try.isAgg62 w, fun w => Try.sizeOf62 w⟩
instance : MkI Try.prog 62 := ⟨fun v w => by kernel_rfl⟩
instance : ZvT Try.prog 62 (.agg #[.int .i64 0, .int .i64 0, .int .i64 0, .int .i64 0]) := ⟨fun w => Try.zeroValue62 w⟩
instance : FdT Try.prog 62 0 0 60 := ⟨fun a w => by kernel_rfl, fun cs w => by kernel_rfl⟩
instance : FdT Try.prog 62 1 1 3 := ⟨fun a w => by kernel_rfl, fun cs w => by kernel_rfl⟩
instance : FdT Try.prog 62 2 2 3 := ⟨fun a w => by kernel_rfl, fun cs w => by kernel_rfl⟩
instance : FdT Try.prog 62 3 3 3 := ⟨fun a w => by kernel_rfl, fun cs w => by kernel_rfl⟩
instance : BldT Try.prog 62 [(0, 1), (1, 1), (2, 1), (3, 1)] [.int .i64 0, .int .i64 0, .int .i64 0, .int .i64 0] := ⟨fun parts => by kernel_rfl⟩
instance : TyT Try.prog 63 7 true := ⟨fun w => Try.isAgg63 w, fun w => Try.sizeOf63 w⟩
instance : MkI Try.prog 63 := ⟨fun v w => by kernel_rfl⟩
instance : ZvT Try.prog 63 (.agg #[.int .i64 0, .int .i64 0, .int .i64 0, .int .i64 0, .int .i64 0, .int .i64 0, .int .i64 0]) := ⟨fun w => Try.zeroValue63 w⟩
instance : FdT Try.prog 63 0 0 60 := ⟨fun a w => by kernel_rfl, fun cs w => by kernel_rfl⟩
instance : FdT Try.prog 63 1 1 3 := ⟨fun a w => by kernel_rfl, fun cs w => by kernel_rfl⟩
instance : FdT Try.prog 63 2 2 3 := ⟨fun a w => by kernel_rfl, fun cs w => by kernel_rfl⟩
instance : FdT Try.prog 63 3 3 3 := ⟨fun a w => by kernel_rfl, fun cs w => by kernel_rfl⟩
instance : FdT Try.prog 63 4 4 3 := ⟨fun a w => by kernel_rfl, fun cs w => by kernel_rfl⟩
instance : FdT Try.prog 63 5 5 3 := ⟨fun a w => by kernel_rfl, fun cs w => by kernel_rfl⟩
instance : FdT Try.prog 63 6 6 3 := ⟨fun a w => by kernel_rfl, fun cs w => by kernel_rfl⟩
instance : BldT Try.prog 63 [(0, 1), (1, 1), (2, 1), (3, 1), (4, 1), (5, 1), (6, 1)] [.int .i64 0, .int .i64 0, .int .i64 0, .int .i64 0, .int .i64 0, .int .i64 0, .int .i64 0] := ⟨fun parts => by kernel_rfl⟩
instance : TyT Try.prog 64 7 true := ⟨fun w => Try.isAgg64 w, fun w => Try.sizeOf64 w⟩
instance : MkI Try.prog 64 := ⟨fun v w => by kernel_rfl⟩
instance : ZvT Try.prog 64 (.agg #[.int .i64 0, .int .i64 0, .int .i64 0, .int .i64 0, .int .i64 0, .int .i64 0, .int .i64 0]) := ⟨fun w => Try.zeroValue64 w⟩
instance : FdT Try.prog 64 0 0 60 := ⟨fun a w => by kernel_rfl, fun cs w => by kernel_rfl⟩
instance : FdT Try.prog 64 1 1 3 := ⟨fun a w => by kernel_rfl, fun cs w => by kernel_rfl⟩
instance : FdT Try.prog 64 2 2 3 := ⟨fun a w => by kernel_rfl, fun cs w => by kernel_rfl⟩
instance : FdT Try.prog 64 3 3 3 := ⟨fun a w => by kernel_rfl, fun cs w => by kernel_rfl⟩
instance : FdT Try.prog 64 4 4 3 := ⟨fun a w => by kernel_rfl, fun cs w => by kernel_rfl⟩
instance : FdT Try.prog 64 5 5 3 := ⟨fun a w => by kernel_rfl, fun cs w => by kernel_rfl⟩
instance : FdT Try.prog 64 6 6 3 := ⟨fun a w => by kernel_rfl, fun cs w => by kernel_rfl⟩
instance : BldT Try.prog 64 [(0, 1), (1, 1), (2, 1), (3, 1), (4, 1), (5, 1), (6, 1)] [.int .i64 0, .int .i64 0, .int .i64 0, .int .i64 0, .int .i64 0, .int .i64 0, .int .i64 0] := ⟨fun parts => by kernel_rfl⟩
instance : TyT Try.prog 66 1 false := ⟨fun w => Try.isAgg66 w, fun w => Try.sizeOf66 w⟩
instance : MkI Try.prog 66 := ⟨fun v w => by kernel_rfl⟩
instance : IntT Try.prog 66 .u64 := ⟨Try.underlying66⟩
instance : ZvT Try.prog 66 (.int .u64 0) := ⟨fun w => Try.zeroValue66 w⟩
instance : TyT Try.prog 67 1 false := ⟨fun w => Try.isAgg67 w, fun w => Try.sizeOf67 w⟩
instance : MkI Try.prog 67 := ⟨fun v w => by kernel_rfl⟩
instance : ZvT Try.prog 67 (.pointer none) := ⟨fun w => Try.zeroValue67 w⟩
instance : TyT Try.prog 68 4 true := ⟨fun w => Try.isAgg68 w, fun w => Try.sizeOf68 w⟩
instance : MkI Try.prog 68 := ⟨fun v w => by kernel_rfl⟩
instance : ZvT Try.prog 68 (.agg #[.pointer none, .pointer none, .pointer none, .string ⟨#[]⟩]) := ⟨fun w => Try.zeroValue68 w⟩
instance : FdT Try.prog 68 0 0 17 := ⟨fun a w => by kernel_rfl, fun cs w => by kernel_rfl⟩
instance : FdT Try.prog 68 1 1 17 := ⟨fun a w => by kernel_rfl, fun cs w => by kernel_rfl⟩
instance : FdT Try.prog 68 2 2 17 := ⟨fun a w => by kernel_rfl, fun cs w => by kernel_rfl⟩
instance : FdT Try.prog 68 3 3 9 := ⟨fun a w => by kernel_rfl, fun cs w => by kernel_rfl⟩
instance : BldT Try.prog 68 [(0, 1), (1, 1), (2, 1), (3, 1)] [.pointer none, .pointer none, .pointer none, .string ⟨#[]⟩] := ⟨fun parts => by kernel_rfl⟩
instance : TyT Try.prog 69 4 true := ⟨fun w => Try.isAgg69 w, fun w => Try.sizeOf69 w⟩
instance : MkI Try.prog 69 := ⟨fun v w => by kernel_rfl⟩
instance : ZvT Try.prog 69 (.agg #[.pointer none, .pointer none, .pointer none, .string ⟨#[]⟩]) := ⟨fun w => Try.zeroValue69 w⟩
instance : FdT Try.prog 69 0 0 17 := ⟨fun a w => by kernel_rfl, fun cs w => by kernel_rfl⟩
instance : FdT Try.prog 69 1 1 17 := ⟨fun a w => by kernel_rfl, fun cs w => by kernel_rfl⟩
instance : FdT Try.prog 69 2 2 17 := ⟨fun a w => by kernel_rfl, fun cs w => by kernel_rfl⟩
instance : FdT Try.prog 69 3 3 9 := ⟨fun a w => by kernel_rfl, fun cs w => by kernel_rfl⟩
instance : BldT Try.prog 69 [(0, 1), (1, 1), (2, 1), (3, 1)] [.pointer none, .pointer none, .pointer none, .string ⟨#[]⟩] := ⟨fun parts => by kernel_rfl⟩
instance : TyT Try.prog 70 0 true := ⟨fun w => Try.isAgg70 w, fun w => Try.sizeOf70 w⟩
instance : MkI Try.prog 70 := ⟨fun v w => by kernel_rfl⟩
instance : ZvT Try.prog 70 (.agg #[]) := ⟨fun w => Try.zeroValue70 w⟩
instance : ArT Try.prog 70 0 16 1 := ⟨Try.underlying70, fun w => Try.sizeOf16 w⟩
instance : TyT Try.prog 71 0 true := ⟨fun w => Try.isAgg71 w, fun w => Try.sizeOf71 w⟩
instance : MkI Try.prog 71 := ⟨fun v w => by kernel_rfl⟩
instance : ZvT Try.prog 71 (.agg #[]) := ⟨fun w => Try.zeroValue71 w⟩
instance : BldT Try.prog 71 [(0, 0)] [] := ⟨fun parts => by kernel_rfl⟩
instance : TyT Try.prog 72 0 true := ⟨fun w => Try.isAgg72 w, fun w => Try.sizeOf72 w⟩
instance : MkI Try.prog 72 := ⟨fun v w => by kernel_rfl⟩
instance : ZvT Try.prog 72 (.agg #[]) := ⟨fun w => Try.zeroValue72 w⟩
instance : BldT Try.prog 72 [(0, 0)] [] := ⟨fun parts => by kernel_rfl⟩
instance : TyT Try.prog 74 1 false := ⟨fun w => Try.isAgg74 w, fun w => Try.sizeOf74 w⟩
instance : MkI Try.prog 74 := ⟨fun v w => by kernel_rfl⟩
instance : IntT Try.prog 74 .u32 := ⟨Try.underlying74⟩
instance : ZvT Try.prog 74 (.int .u32 0) := ⟨fun w => Try.zeroValue74 w⟩
instance : TyT Try.prog 75 1 false := ⟨fun w => Try.isAgg75 w, fun w => Try.sizeOf75 w⟩
instance : MkI Try.prog 75 := ⟨fun v w => by kernel_rfl⟩
instance : IntT Try.prog 75 .u8 := ⟨Try.underlying75⟩
instance : ZvT Try.prog 75 (.int .u8 0) := ⟨fun w => Try.zeroValue75 w⟩
instance : TyT Try.prog 76 1 false := ⟨fun w => Try.isAgg76 w, fun w => Try.sizeOf76 w⟩
instance : MkI Try.prog 76 := ⟨fun v w => by kernel_rfl⟩
instance : IntT Try.prog 76 .u8 := ⟨Try.underlying76⟩
instance : ZvT Try.prog 76 (.int .u8 0) := ⟨fun w => Try.zeroValue76 w⟩
instance : TyT Try.prog 78 1 false := ⟨fun w => Try.isAgg78 w, fun w => Try.sizeOf78 w⟩
instance : MkI Try.prog 78 := ⟨fun v w => by kernel_rfl⟩
instance : ZvT Try.prog 78 (.pointer none) := ⟨fun w => Try.zeroValue78 w⟩
instance : TyT Try.prog 79 1 false := ⟨fun w => Try.isAgg79 w, fun w => Try.sizeOf79 w⟩
instance : MkI Try.prog 79 := ⟨fun v w => by kernel_rfl⟩
instance : IntT Try.prog 79 .i32 := ⟨Try.underlying79⟩
instance : ZvT Try.prog 79 (.int .i32 0) := ⟨fun w => Try.zeroValue79 w⟩
instance : TyT Try.prog 80 1 false := ⟨fun w => Try.isAgg80 w, fun w => Try.sizeOf80 w⟩
instance : MkI Try.prog 80 := ⟨fun v w => by kernel_rfl⟩
instance : IntT Try.prog 80 .i32 := ⟨Try.underlying80⟩
instance : ZvT Try.prog 80 (.int .i32 0) := ⟨fun w => Try.zeroValue80 w⟩
instance : TyT Try.prog 81 11 true := ⟨fun w => Try.isAgg81 w, fun w => Try.sizeOf81 w⟩
instance : MkI Try.prog 81 := ⟨fun v w => by kernel_rfl⟩
instance : ZvT Try.prog 81 (.agg #[.int .u64 0, .int .u64 0, .int .u32 0, .int .u8 0, .int .u8 0, .int .u8 0, .int .u8 0, .nilFunc, .pointer none, .int .i32 0, .int .i32 0]) := ⟨fun w => Try.zeroValue81 w⟩
instance : FdT Try.prog 81 0 0 12 := ⟨fun a w => by kernel_rfl, fun cs w => by kernel_rfl⟩
instance : FdT Try.prog 81 1 1 12 := ⟨fun a w => by kernel_rfl, fun cs w => by kernel_rfl⟩
instance : FdT Try.prog 81 2 2 74 := ⟨fun a w => by kernel_rfl, fun cs w => by kernel_rfl⟩
instance : FdT Try.prog 81 3 3 75 := ⟨fun a w => by kernel_rfl, fun cs w => by kernel_rfl⟩
instance : FdT Try.prog 81 4 4 5 := ⟨fun a w => by kernel_rfl, fun cs w => by kernel_rfl⟩
instance : FdT Try.prog 81 5 5 5 := ⟨fun a w => by kernel_rfl, fun cs w => by kernel_rfl⟩
instance : FdT Try.prog 81 6 6 76 := ⟨fun a w => by kernel_rfl, fun cs w => by kernel_rfl⟩
instance : FdT Try.prog 81 8 8 78 := ⟨fun a w => by kernel_rfl, fun cs w => by kernel_rfl⟩
instance : FdT Try.prog 81 9 9 79 := ⟨fun a w => by kernel_rfl, fun cs w => by kernel_rfl⟩
instance : FdT Try.prog 81 10 10 80 := ⟨fun a w => by kernel_rfl, fun cs w => by kernel_rfl⟩
instance : TyT Try.prog 82 11 true := ⟨fun w => Try.isAgg82 w, fun w => Try.sizeOf82 w⟩
instance : MkI Try.prog 82 := ⟨fun v w => by kernel_rfl⟩
instance : ZvT Try.prog 82 (.agg #[.int .u64 0, .int .u64 0, .int .u32 0, .int .u8 0, .int .u8 0, .int .u8 0, .int .u8 0, .nilFunc, .pointer none, .int .i32 0, .int .i32 0]) := ⟨fun w => Try.zeroValue82 w⟩
instance : FdT Try.prog 82 0 0 12 := ⟨fun a w => by kernel_rfl, fun cs w => by kernel_rfl⟩
instance : FdT Try.prog 82 1 1 12 := ⟨fun a w => by kernel_rfl, fun cs w => by kernel_rfl⟩
instance : FdT Try.prog 82 2 2 74 := ⟨fun a w => by kernel_rfl, fun cs w => by kernel_rfl⟩
instance : FdT Try.prog 82 3 3 75 := ⟨fun a w => by kernel_rfl, fun cs w => by kernel_rfl⟩
instance : FdT Try.prog 82 4 4 5 := ⟨fun a w => by kernel_rfl, fun cs w => by kernel_rfl⟩
instance : FdT Try.prog 82 5 5 5 := ⟨fun a w => by kernel_rfl, fun cs w => by kernel_rfl⟩
instance : FdT Try.prog 82 6 6 76 := ⟨fun a w => by kernel_rfl, fun cs w => by kernel_rfl⟩
instance : FdT Try.prog 82 8 8 78 := ⟨fun a w => by kernel_rfl, fun cs w => by kernel_rfl⟩
instance : FdT Try.prog 82 9 9 79 := ⟨fun a w => by kernel_rfl, fun cs w => by kernel_rfl⟩
instance : FdT Try.prog 82 10 10 80 := ⟨fun a w => by kernel_rfl, fun cs w => by kernel_rfl⟩
instance : TyT Try.prog 83 1 false := ⟨fun w => Try.isAgg83 w, fun w => Try.sizeOf83 w⟩
instance : MkI Try.prog 83 := ⟨fun v w => by kernel_rfl⟩
instance : ZvT Try.prog 83 (.pointer none) := ⟨fun w => Try.zeroValue83 w⟩
/- Functions with a body. -/
instance : CalT Try.prog 2 := ⟨fun args w => Try.call2 args w⟩
instance : CalT Try.prog 3 := ⟨fun args w => Try.call3 args w⟩
instance : CalT Try.prog 4 := ⟨fun args w => Try.call4 args w⟩
instance : CalT Try.prog 5 := ⟨fun args w => Try.call5 args w⟩
instance : CalT Try.prog 6 := ⟨fun args w => Try.call6 args w⟩
instance : CalT Try.prog 7 := ⟨fun args w => Try.call7 args w⟩
instance : CalT Try.prog 8 := ⟨fun args w => Try.call8 args w⟩
instance : CalT Try.prog 9 := ⟨fun args w => Try.call9 args w⟩
instance : CalT Try.prog 10 := ⟨fun args w => Try.call10 args w⟩
instance : CalT Try.prog 11 := ⟨fun args w => Try.call11 args w⟩
instance : CalT Try.prog 12 := ⟨fun args w => Try.call12 args w⟩
instance : CalT Try.prog 13 := ⟨fun args w => Try.call13 args w⟩
instance : CalT Try.prog 14 := ⟨fun args w => Try.call14 args w⟩
instance : CalT Try.prog 15 := ⟨fun args w => Try.call15 args w⟩
instance : CalT Try.prog 16 := ⟨fun args w => Try.call16 args w⟩
instance : CalT Try.prog 17 := ⟨fun args w => Try.call17 args w⟩
instance : CalT Try.prog 18 := ⟨fun args w => Try.call18 args w⟩
instance : CalT Try.prog 19 := ⟨fun args w => Try.call19 args w⟩
instance : CalT Try.prog 20 := ⟨fun args w => Try.call20 args w⟩
instance : CalT Try.prog 21 := ⟨fun args w => Try.call21 args w⟩
instance : CalT Try.prog 22 := ⟨fun args w => Try.call22 args w⟩
instance : CalT Try.prog 23 := ⟨fun args w => Try.call23 args w⟩
instance : CalT Try.prog 24 := ⟨fun args w => Try.call24 args w⟩
instance : CalT Try.prog 25 := ⟨fun args w => Try.call25 args w⟩
instance : CalT Try.prog 26 := ⟨fun args w => Try.call26 args w⟩
instance : CalT Try.prog 27 := ⟨fun args w => Try.call27 args w⟩
instance : CalT Try.prog 28 := ⟨fun args w => Try.call28 args w⟩
instance : CalT Try.prog 29 := ⟨fun args w => Try.call29 args w⟩
instance : CalT Try.prog 30 := ⟨fun args w => Try.call30 args w⟩
instance : CalT Try.prog 31 := ⟨fun args w => Try.call31 args w⟩
end Go.Proofs.Ytlmhhnodhgmmdaa
