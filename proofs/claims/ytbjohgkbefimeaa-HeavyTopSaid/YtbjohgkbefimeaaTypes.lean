/- The seat's types and functions, as instances. Printed by wip/tools/types.py. -/
import Derived.Test.YtbjohgkbefimeaaEngB
import Derived.Test.YtbjohgkbefimeaaProg
import Derived.KernelRfl
namespace Go.Proofs.Ytbjohgkbefimeaa
open Go.Port
instance : TyT Try.prog 2 1 false := ⟨fun w => Try.isAgg2 w, fun w => Try.sizeOf2 w⟩
instance : MkI Try.prog 2 := ⟨fun v w => by kernel_rfl⟩
instance : IntT Try.prog 2 .i64 := ⟨Try.underlying2⟩
instance : ZvT Try.prog 2 (.int .i64 0) := ⟨fun w => Try.zeroValue2 w⟩
instance : TyT Try.prog 3 1 false := ⟨fun w => Try.isAgg3 w, fun w => Try.sizeOf3 w⟩
instance : MkI Try.prog 3 := ⟨fun v w => by kernel_rfl⟩
instance : IntT Try.prog 3 .i64 := ⟨Try.underlying3⟩
instance : ZvT Try.prog 3 (.int .i64 0) := ⟨fun w => Try.zeroValue3 w⟩
instance : TyT Try.prog 4 1 false := ⟨fun w => Try.isAgg4 w, fun w => Try.sizeOf4 w⟩
instance : MkI Try.prog 4 := ⟨fun v w => by kernel_rfl⟩
instance : ZvT Try.prog 4 (.bool false) := ⟨fun w => Try.zeroValue4 w⟩
instance : TyT Try.prog 5 1 false := ⟨fun w => Try.isAgg5 w, fun w => Try.sizeOf5 w⟩
instance : MkI Try.prog 5 := ⟨fun v w => by kernel_rfl⟩
instance : IntT Try.prog 5 .u8 := ⟨Try.underlying5⟩
instance : ZvT Try.prog 5 (.int .u8 0) := ⟨fun w => Try.zeroValue5 w⟩
instance : TyT Try.prog 6 1 false := ⟨fun w => Try.isAgg6 w, fun w => Try.sizeOf6 w⟩
instance : MkI Try.prog 6 := ⟨fun v w => by kernel_rfl⟩
instance : IntT Try.prog 6 .u8 := ⟨Try.underlying6⟩
instance : ZvT Try.prog 6 (.int .u8 0) := ⟨fun w => Try.zeroValue6 w⟩
instance : TyT Try.prog 7 4 true := ⟨fun w => Try.isAgg7 w, fun w => Try.sizeOf7 w⟩
instance : MkI Try.prog 7 := ⟨fun v w => by kernel_rfl⟩
instance : ZvT Try.prog 7 (.agg #[.int .i64 0, .int .i64 0, .bool false, .int .u8 0]) := ⟨fun w => Try.zeroValue7 w⟩
instance : FdT Try.prog 7 0 0 2 := ⟨fun a w => by kernel_rfl, fun cs w => by kernel_rfl⟩
instance : FdT Try.prog 7 1 1 3 := ⟨fun a w => by kernel_rfl, fun cs w => by kernel_rfl⟩
instance : FdT Try.prog 7 2 2 4 := ⟨fun a w => by kernel_rfl, fun cs w => by kernel_rfl⟩
instance : FdT Try.prog 7 3 3 6 := ⟨fun a w => by kernel_rfl, fun cs w => by kernel_rfl⟩
instance : BldT Try.prog 7 [(0, 1), (1, 1), (2, 1), (3, 1)] [.int .i64 0, .int .i64 0, .bool false, .int .u8 0] := ⟨fun parts => by kernel_rfl⟩
instance : TyT Try.prog 8 4 true := ⟨fun w => Try.isAgg8 w, fun w => Try.sizeOf8 w⟩
instance : MkI Try.prog 8 := ⟨fun v w => by kernel_rfl⟩
instance : ZvT Try.prog 8 (.agg #[.int .i64 0, .int .i64 0, .bool false, .int .u8 0]) := ⟨fun w => Try.zeroValue8 w⟩
instance : FdT Try.prog 8 0 0 2 := ⟨fun a w => by kernel_rfl, fun cs w => by kernel_rfl⟩
instance : FdT Try.prog 8 1 1 3 := ⟨fun a w => by kernel_rfl, fun cs w => by kernel_rfl⟩
instance : FdT Try.prog 8 2 2 4 := ⟨fun a w => by kernel_rfl, fun cs w => by kernel_rfl⟩
instance : FdT Try.prog 8 3 3 6 := ⟨fun a w => by kernel_rfl, fun cs w => by kernel_rfl⟩
instance : BldT Try.prog 8 [(0, 1), (1, 1), (2, 1), (3, 1)] [.int .i64 0, .int .i64 0, .bool false, .int .u8 0] := ⟨fun parts => by kernel_rfl⟩
instance : TyT Try.prog 9 1 false := ⟨fun w => Try.isAgg9 w, fun w => Try.sizeOf9 w⟩
instance : MkI Try.prog 9 := ⟨fun v w => by kernel_rfl⟩
instance : StrT Try.prog 9 := ⟨Try.underlying9⟩
instance : ZvT Try.prog 9 (.string ⟨#[]⟩) := ⟨fun w => Try.zeroValue9 w⟩
instance : TyT Try.prog 10 1 false := ⟨fun w => Try.isAgg10 w, fun w => Try.sizeOf10 w⟩
instance : MkI Try.prog 10 := ⟨fun v w => by kernel_rfl⟩
instance : StrT Try.prog 10 := ⟨Try.underlying10⟩
instance : ZvT Try.prog 10 (.string ⟨#[]⟩) := ⟨fun w => Try.zeroValue10 w⟩
instance : TyT Try.prog 11 1 false := ⟨fun w => Try.isAgg11 w, fun w => Try.sizeOf11 w⟩
instance : MkI Try.prog 11 := ⟨fun v w => by kernel_rfl⟩
instance : StrT Try.prog 11 := ⟨Try.underlying11⟩
instance : ZvT Try.prog 11 (.string ⟨#[]⟩) := ⟨fun w => Try.zeroValue11 w⟩
instance : TyT Try.prog 12 1 false := ⟨fun w => Try.isAgg12 w, fun w => Try.sizeOf12 w⟩
instance : MkI Try.prog 12 := ⟨fun v w => by kernel_rfl⟩
instance : IntT Try.prog 12 .u64 := ⟨Try.underlying12⟩
instance : ZvT Try.prog 12 (.int .u64 0) := ⟨fun w => Try.zeroValue12 w⟩
instance : TyT Try.prog 13 2 true := ⟨fun w => Try.isAgg13 w, fun w => Try.sizeOf13 w⟩
instance : MkI Try.prog 13 := ⟨fun v w => by kernel_rfl⟩
instance : ZvT Try.prog 13 (.agg #[.string ⟨#[]⟩, .int .u64 0]) := ⟨fun w => Try.zeroValue13 w⟩
instance : FdT Try.prog 13 0 0 9 := ⟨fun a w => by kernel_rfl, fun cs w => by kernel_rfl⟩
instance : FdT Try.prog 13 1 1 12 := ⟨fun a w => by kernel_rfl, fun cs w => by kernel_rfl⟩
instance : BldT Try.prog 13 [(0, 1), (1, 1)] [.string ⟨#[]⟩, .int .u64 0] := ⟨fun parts => by kernel_rfl⟩
instance : TyT Try.prog 14 2 true := ⟨fun w => Try.isAgg14 w, fun w => Try.sizeOf14 w⟩
instance : MkI Try.prog 14 := ⟨fun v w => by kernel_rfl⟩
instance : ZvT Try.prog 14 (.agg #[.string ⟨#[]⟩, .int .u64 0]) := ⟨fun w => Try.zeroValue14 w⟩
instance : FdT Try.prog 14 0 0 9 := ⟨fun a w => by kernel_rfl, fun cs w => by kernel_rfl⟩
instance : FdT Try.prog 14 1 1 12 := ⟨fun a w => by kernel_rfl, fun cs w => by kernel_rfl⟩
instance : BldT Try.prog 14 [(0, 1), (1, 1)] [.string ⟨#[]⟩, .int .u64 0] := ⟨fun parts => by kernel_rfl⟩
instance : TyT Try.prog 15 1 false := ⟨fun w => Try.isAgg15 w, fun w => Try.sizeOf15 w⟩
instance : MkI Try.prog 15 := ⟨fun v w => by kernel_rfl⟩
instance : ZvT Try.prog 15 (.pointer none) := ⟨fun w => Try.zeroValue15 w⟩
instance : TyT Try.prog 16 1 false := ⟨fun w => Try.isAgg16 w, fun w => Try.sizeOf16 w⟩
instance : MkI Try.prog 16 := ⟨fun v w => by kernel_rfl⟩
instance : ZvT Try.prog 16 (.pointer none) := ⟨fun w => Try.zeroValue16 w⟩
instance : TyT Try.prog 17 1 false := ⟨fun w => Try.isAgg17 w, fun w => Try.sizeOf17 w⟩
instance : MkI Try.prog 17 := ⟨fun v w => by kernel_rfl⟩
instance : ZvT Try.prog 17 (.pointer none) := ⟨fun w => Try.zeroValue17 w⟩
instance : TyT Try.prog 18 1 true := ⟨fun w => Try.isAgg18 w, fun w => Try.sizeOf18 w⟩
instance : MkI Try.prog 18 := ⟨fun v w => by kernel_rfl⟩
instance : ZvT Try.prog 18 (.agg #[.pointer none]) := ⟨fun w => Try.zeroValue18 w⟩
instance : FdT Try.prog 18 0 0 17 := ⟨fun a w => by kernel_rfl, fun cs w => by kernel_rfl⟩
instance : BldT Try.prog 18 [(0, 1)] [.pointer none] := ⟨fun parts => by kernel_rfl⟩
instance : TyT Try.prog 19 1 true := ⟨fun w => Try.isAgg19 w, fun w => Try.sizeOf19 w⟩
instance : MkI Try.prog 19 := ⟨fun v w => by kernel_rfl⟩
instance : ZvT Try.prog 19 (.agg #[.pointer none]) := ⟨fun w => Try.zeroValue19 w⟩
instance : FdT Try.prog 19 0 0 17 := ⟨fun a w => by kernel_rfl, fun cs w => by kernel_rfl⟩
instance : BldT Try.prog 19 [(0, 1)] [.pointer none] := ⟨fun parts => by kernel_rfl⟩
instance : TyT Try.prog 20 1 false := ⟨fun w => Try.isAgg20 w, fun w => Try.sizeOf20 w⟩
instance : IfT Try.prog 20 := ⟨⟨_, Try.underlying20⟩⟩
instance : ZvT Try.prog 20 (.nilIface) := ⟨fun w => Try.zeroValue20 w⟩
instance : TyT Try.prog 21 1 false := ⟨fun w => Try.isAgg21 w, fun w => Try.sizeOf21 w⟩
instance : MkI Try.prog 21 := ⟨fun v w => by kernel_rfl⟩
instance : IntT Try.prog 21 .i32 := ⟨Try.underlying21⟩
instance : ZvT Try.prog 21 (.int .i32 0) := ⟨fun w => Try.zeroValue21 w⟩
instance : TyT Try.prog 22 1 false := ⟨fun w => Try.isAgg22 w, fun w => Try.sizeOf22 w⟩
instance : MkI Try.prog 22 := ⟨fun v w => by kernel_rfl⟩
instance : ZvT Try.prog 22 (.slice none 0 0) := ⟨fun w => Try.zeroValue22 w⟩
instance : SlT Try.prog 22 32 2 16 (.agg #[.int .i64 0, .int .i64 0]) := ⟨by kernel_rfl, by kernel_rfl, rfl, by decide, by decide⟩
instance : TyT Try.prog 23 1 false := ⟨fun w => Try.isAgg23 w, fun w => Try.sizeOf23 w⟩
instance : MkI Try.prog 23 := ⟨fun v w => by kernel_rfl⟩
instance : ZvT Try.prog 23 (.pointer none) := ⟨fun w => Try.zeroValue23 w⟩
instance : TyT Try.prog 24 1 false := ⟨fun w => Try.isAgg24 w, fun w => Try.sizeOf24 w⟩
instance : IfT Try.prog 24 := ⟨⟨_, Try.underlying24⟩⟩
instance : ZvT Try.prog 24 (.nilIface) := ⟨fun w => Try.zeroValue24 w⟩
instance : TyT Try.prog 25 1 false := ⟨fun w => Try.isAgg25 w, fun w => Try.sizeOf25 w⟩
instance : IfT Try.prog 25 := ⟨⟨_, Try.underlying25⟩⟩
instance : ZvT Try.prog 25 (.nilIface) := ⟨fun w => Try.zeroValue25 w⟩
instance : TyT Try.prog 29 3 true := ⟨fun w => Try.isAgg29 w, fun w => Try.sizeOf29 w⟩
instance : MkI Try.prog 29 := ⟨fun v w => by kernel_rfl⟩
instance : ZvT Try.prog 29 (.agg #[.int .i64 0, .int .i64 0, .int .i64 0]) := ⟨fun w => Try.zeroValue29 w⟩
instance : FdT Try.prog 29 0 0 3 := ⟨fun a w => by kernel_rfl, fun cs w => by kernel_rfl⟩
instance : FdT Try.prog 29 1 1 3 := ⟨fun a w => by kernel_rfl, fun cs w => by kernel_rfl⟩
instance : FdT Try.prog 29 2 2 3 := ⟨fun a w => by kernel_rfl, fun cs w => by kernel_rfl⟩
instance : BldT Try.prog 29 [(0, 1), (1, 1), (2, 1)] [.int .i64 0, .int .i64 0, .int .i64 0] := ⟨fun parts => by kernel_rfl⟩
instance : TyT Try.prog 30 3 true := ⟨fun w => Try.isAgg30 w, fun w => Try.sizeOf30 w⟩
instance : MkI Try.prog 30 := ⟨fun v w => by kernel_rfl⟩
instance : ZvT Try.prog 30 (.agg #[.int .i64 0, .int .i64 0, .int .i64 0]) := ⟨fun w => Try.zeroValue30 w⟩
instance : FdT Try.prog 30 0 0 3 := ⟨fun a w => by kernel_rfl, fun cs w => by kernel_rfl⟩
instance : FdT Try.prog 30 1 1 3 := ⟨fun a w => by kernel_rfl, fun cs w => by kernel_rfl⟩
instance : FdT Try.prog 30 2 2 3 := ⟨fun a w => by kernel_rfl, fun cs w => by kernel_rfl⟩
instance : BldT Try.prog 30 [(0, 1), (1, 1), (2, 1)] [.int .i64 0, .int .i64 0, .int .i64 0] := ⟨fun parts => by kernel_rfl⟩
instance : TyT Try.prog 32 2 true := ⟨fun w => Try.isAgg32 w, fun w => Try.sizeOf32 w⟩
instance : MkI Try.prog 32 := ⟨fun v w => by kernel_rfl⟩
instance : ZvT Try.prog 32 (.agg #[.int .i64 0, .int .i64 0]) := ⟨fun w => Try.zeroValue32 w⟩
instance : ArT Try.prog 32 2 3 1 := ⟨Try.underlying32, fun w => Try.sizeOf3 w⟩
instance : TyT Try.prog 36 1 false := ⟨fun w => Try.isAgg36 w, fun w => Try.sizeOf36 w⟩
instance : MkI Try.prog 36 := ⟨fun v w => by kernel_rfl⟩
instance : ZvT Try.prog 36 (.slice none 0 0) := ⟨fun w => Try.zeroValue36 w⟩
instance : SlT Try.prog 36 30 3 24 (.agg #[.int .i64 0, .int .i64 0, .int .i64 0]) := ⟨by kernel_rfl, by kernel_rfl, rfl, by decide, by decide⟩
instance : TyT Try.prog 41 1 false := ⟨fun w => Try.isAgg41 w, fun w => Try.sizeOf41 w⟩
instance : MkI Try.prog 41 := ⟨fun v w => by kernel_rfl⟩
instance : IntT Try.prog 41 .i64 := ⟨Try.underlying41⟩
instance : ZvT Try.prog 41 (.int .i64 0) := ⟨fun w => Try.zeroValue41 w⟩
instance : TyT Try.prog 42 1 false := ⟨fun w => Try.isAgg42 w, fun w => Try.sizeOf42 w⟩
instance : MkI Try.prog 42 := ⟨fun v w => by kernel_rfl⟩
instance : ZvT Try.prog 42 (.map none) := ⟨fun w => Try.zeroValue42 w⟩
instance : TyT Try.prog 43 4 true := ⟨fun w => Try.isAgg43 w, fun w => Try.sizeOf43 w⟩
instance : MkI Try.prog 43 := ⟨fun v w => by kernel_rfl⟩
instance : ZvT Try.prog 43 (.agg #[.int .i64 0, .int .i64 0, .int .i64 0, .map none]) := ⟨fun w => Try.zeroValue43 w⟩
instance : FdT Try.prog 43 0 0 3 := ⟨fun a w => by kernel_rfl, fun cs w => by kernel_rfl⟩
instance : FdT Try.prog 43 1 1 3 := ⟨fun a w => by kernel_rfl, fun cs w => by kernel_rfl⟩
instance : FdT Try.prog 43 2 2 3 := ⟨fun a w => by kernel_rfl, fun cs w => by kernel_rfl⟩
instance : FdT Try.prog 43 3 3 42 := ⟨fun a w => by kernel_rfl, fun cs w => by kernel_rfl⟩
instance : BldT Try.prog 43 [(0, 1), (1, 1), (2, 1), (3, 1)] [.int .i64 0, .int .i64 0, .int .i64 0, .map none] := ⟨fun parts => by kernel_rfl⟩
instance : TyT Try.prog 44 4 true := ⟨fun w => Try.isAgg44 w, fun w => Try.sizeOf44 w⟩
instance : MkI Try.prog 44 := ⟨fun v w => by kernel_rfl⟩
instance : ZvT Try.prog 44 (.agg #[.int .i64 0, .int .i64 0, .int .i64 0, .map none]) := ⟨fun w => Try.zeroValue44 w⟩
instance : FdT Try.prog 44 0 0 3 := ⟨fun a w => by kernel_rfl, fun cs w => by kernel_rfl⟩
instance : FdT Try.prog 44 1 1 3 := ⟨fun a w => by kernel_rfl, fun cs w => by kernel_rfl⟩
instance : FdT Try.prog 44 2 2 3 := ⟨fun a w => by kernel_rfl, fun cs w => by kernel_rfl⟩
instance : FdT Try.prog 44 3 3 42 := ⟨fun a w => by kernel_rfl, fun cs w => by kernel_rfl⟩
instance : BldT Try.prog 44 [(0, 1), (1, 1), (2, 1), (3, 1)] [.int .i64 0, .int .i64 0, .int .i64 0, .map none] := ⟨fun parts => by kernel_rfl⟩
instance : TyT Try.prog 47 1 false := ⟨fun w => Try.isAgg47 w, fun w => Try.sizeOf47 w⟩
instance : MkI Try.prog 47 := ⟨fun v w => by kernel_rfl⟩
instance : ZvT Try.prog 47 (.slice none 0 0) := ⟨fun w => Try.zeroValue47 w⟩
instance : SlT Try.prog 47 3 1 8 (.int .i64 0) := ⟨by kernel_rfl, by kernel_rfl, rfl, by decide, by decide⟩
instance : TyT Try.prog 65 1 false := ⟨fun w => Try.isAgg65 w, fun w => Try.sizeOf65 w⟩
instance : MkI Try.prog 65 := ⟨fun v w => by kernel_rfl⟩
instance : IntT Try.prog 65 .u64 := ⟨Try.underlying65⟩
instance : ZvT Try.prog 65 (.int .u64 0) := ⟨fun w => Try.zeroValue65 w⟩
instance : TyT Try.prog 68 1 false := ⟨fun w => Try.isAgg68 w, fun w => Try.sizeOf68 w⟩
instance : MkI Try.prog 68 := ⟨fun v w => by kernel_rfl⟩
instance : IntT Try.prog 68 .i64 := ⟨Try.underlying68⟩
instance : ZvT Try.prog 68 (.int .i64 0) := ⟨fun w => Try.zeroValue68 w⟩
instance : TyT Try.prog 75 1 false := ⟨fun w => Try.isAgg75 w, fun w => Try.sizeOf75 w⟩
instance : MkI Try.prog 75 := ⟨fun v w => by kernel_rfl⟩
instance : IntT Try.prog 75 .u32 := ⟨Try.underlying75⟩
instance : ZvT Try.prog 75 (.int .u32 0) := ⟨fun w => Try.zeroValue75 w⟩
instance : TyT Try.prog 77 1 false := ⟨fun w => Try.isAgg77 w, fun w => Try.sizeOf77 w⟩
instance : MkI Try.prog 77 := ⟨fun v w => by kernel_rfl⟩
instance : IntT Try.prog 77 .u64 := ⟨Try.underlying77⟩
instance : ZvT Try.prog 77 (.int .u64 0) := ⟨fun w => Try.zeroValue77 w⟩
instance : TyT Try.prog 83 1 false := ⟨fun w => Try.isAgg83 w, fun w => Try.sizeOf83 w⟩
instance : MkI Try.prog 83 := ⟨fun v w => by kernel_rfl⟩
instance : IntT Try.prog 83 .u64 := ⟨Try.underlying83⟩
instance : ZvT Try.prog 83 (.int .u64 0) := ⟨fun w => Try.zeroValue83 w⟩
instance : TyT Try.prog 87 1 false := ⟨fun w => Try.isAgg87 w, fun w => Try.sizeOf87 w⟩
instance : MkI Try.prog 87 := ⟨fun v w => by kernel_rfl⟩
instance : ZvT Try.prog 87 (.pointer none) := ⟨fun w => Try.zeroValue87 w⟩
instance : TyT Try.prog 91 1 false := ⟨fun w => Try.isAgg91 w, fun w => Try.sizeOf91 w⟩
instance : MkI Try.prog 91 := ⟨fun v w => by kernel_rfl⟩
instance : ZvT Try.prog 91 (.pointer none) := ⟨fun w => Try.zeroValue91 w⟩
instance : TyT Try.prog 96 4 true := ⟨fun w => Try.isAgg96 w, fun w => Try.sizeOf96 w⟩
instance : MkI Try.prog 96 := ⟨fun v w => by kernel_rfl⟩
instance : ZvT Try.prog 96 (.agg #[.pointer none, .pointer none, .pointer none, .string ⟨#[]⟩]) := ⟨fun w => Try.zeroValue96 w⟩
instance : FdT Try.prog 96 0 0 17 := ⟨fun a w => by kernel_rfl, fun cs w => by kernel_rfl⟩
instance : FdT Try.prog 96 1 1 17 := ⟨fun a w => by kernel_rfl, fun cs w => by kernel_rfl⟩
instance : FdT Try.prog 96 2 2 17 := ⟨fun a w => by kernel_rfl, fun cs w => by kernel_rfl⟩
instance : FdT Try.prog 96 3 3 9 := ⟨fun a w => by kernel_rfl, fun cs w => by kernel_rfl⟩
instance : BldT Try.prog 96 [(0, 1), (1, 1), (2, 1), (3, 1)] [.pointer none, .pointer none, .pointer none, .string ⟨#[]⟩] := ⟨fun parts => by kernel_rfl⟩
instance : TyT Try.prog 97 4 true := ⟨fun w => Try.isAgg97 w, fun w => Try.sizeOf97 w⟩
instance : MkI Try.prog 97 := ⟨fun v w => by kernel_rfl⟩
instance : ZvT Try.prog 97 (.agg #[.pointer none, .pointer none, .pointer none, .string ⟨#[]⟩]) := ⟨fun w => Try.zeroValue97 w⟩
instance : FdT Try.prog 97 0 0 17 := ⟨fun a w => by kernel_rfl, fun cs w => by kernel_rfl⟩
instance : FdT Try.prog 97 1 1 17 := ⟨fun a w => by kernel_rfl, fun cs w => by kernel_rfl⟩
instance : FdT Try.prog 97 2 2 17 := ⟨fun a w => by kernel_rfl, fun cs w => by kernel_rfl⟩
instance : FdT Try.prog 97 3 3 9 := ⟨fun a w => by kernel_rfl, fun cs w => by kernel_rfl⟩
instance : BldT Try.prog 97 [(0, 1), (1, 1), (2, 1), (3, 1)] [.pointer none, .pointer none, .pointer none, .string ⟨#[]⟩] := ⟨fun parts => by kernel_rfl⟩
instance : TyT Try.prog 98 0 true := ⟨fun w => Try.isAgg98 w, fun w => Try.sizeOf98 w⟩
instance : MkI Try.prog 98 := ⟨fun v w => by kernel_rfl⟩
instance : ZvT Try.prog 98 (.agg #[]) := ⟨fun w => Try.zeroValue98 w⟩
instance : ArT Try.prog 98 0 16 1 := ⟨Try.underlying98, fun w => Try.sizeOf16 w⟩
instance : TyT Try.prog 99 0 true := ⟨fun w => Try.isAgg99 w, fun w => Try.sizeOf99 w⟩
instance : MkI Try.prog 99 := ⟨fun v w => by kernel_rfl⟩
instance : ZvT Try.prog 99 (.agg #[]) := ⟨fun w => Try.zeroValue99 w⟩
instance : BldT Try.prog 99 [(0, 0)] [] := ⟨fun parts => by kernel_rfl⟩
instance : TyT Try.prog 100 0 true := ⟨fun w => Try.isAgg100 w, fun w => Try.sizeOf100 w⟩
instance : MkI Try.prog 100 := ⟨fun v w => by kernel_rfl⟩
instance : ZvT Try.prog 100 (.agg #[]) := ⟨fun w => Try.zeroValue100 w⟩
instance : BldT Try.prog 100 [(0, 0)] [] := ⟨fun parts => by kernel_rfl⟩
instance : TyT Try.prog 101 1 false := ⟨fun w => Try.isAgg101 w, fun w => Try.sizeOf101 w⟩
instance : MkI Try.prog 101 := ⟨fun v w => by kernel_rfl⟩
instance : IntT Try.prog 101 .u8 := ⟨Try.underlying101⟩
instance : ZvT Try.prog 101 (.int .u8 0) := ⟨fun w => Try.zeroValue101 w⟩
instance : TyT Try.prog 102 1 false := ⟨fun w => Try.isAgg102 w, fun w => Try.sizeOf102 w⟩
instance : MkI Try.prog 102 := ⟨fun v w => by kernel_rfl⟩
instance : IntT Try.prog 102 .u8 := ⟨Try.underlying102⟩
instance : ZvT Try.prog 102 (.int .u8 0) := ⟨fun w => Try.zeroValue102 w⟩
instance : TyT Try.prog 104 1 false := ⟨fun w => Try.isAgg104 w, fun w => Try.sizeOf104 w⟩
instance : MkI Try.prog 104 := ⟨fun v w => by kernel_rfl⟩
instance : ZvT Try.prog 104 (.pointer none) := ⟨fun w => Try.zeroValue104 w⟩
instance : TyT Try.prog 105 1 false := ⟨fun w => Try.isAgg105 w, fun w => Try.sizeOf105 w⟩
instance : MkI Try.prog 105 := ⟨fun v w => by kernel_rfl⟩
instance : IntT Try.prog 105 .i32 := ⟨Try.underlying105⟩
instance : ZvT Try.prog 105 (.int .i32 0) := ⟨fun w => Try.zeroValue105 w⟩
instance : TyT Try.prog 106 1 false := ⟨fun w => Try.isAgg106 w, fun w => Try.sizeOf106 w⟩
instance : MkI Try.prog 106 := ⟨fun v w => by kernel_rfl⟩
instance : IntT Try.prog 106 .i32 := ⟨Try.underlying106⟩
instance : ZvT Try.prog 106 (.int .i32 0) := ⟨fun w => Try.zeroValue106 w⟩
instance : TyT Try.prog 107 11 true := ⟨fun w => Try.isAgg107 w, fun w => Try.sizeOf107 w⟩
instance : MkI Try.prog 107 := ⟨fun v w => by kernel_rfl⟩
instance : ZvT Try.prog 107 (.agg #[.int .u64 0, .int .u64 0, .int .u32 0, .int .u8 0, .int .u8 0, .int .u8 0, .int .u8 0, .nilFunc, .pointer none, .int .i32 0, .int .i32 0]) := ⟨fun w => Try.zeroValue107 w⟩
instance : FdT Try.prog 107 0 0 12 := ⟨fun a w => by kernel_rfl, fun cs w => by kernel_rfl⟩
instance : FdT Try.prog 107 1 1 12 := ⟨fun a w => by kernel_rfl, fun cs w => by kernel_rfl⟩
instance : FdT Try.prog 107 2 2 75 := ⟨fun a w => by kernel_rfl, fun cs w => by kernel_rfl⟩
instance : FdT Try.prog 107 3 3 101 := ⟨fun a w => by kernel_rfl, fun cs w => by kernel_rfl⟩
instance : FdT Try.prog 107 4 4 5 := ⟨fun a w => by kernel_rfl, fun cs w => by kernel_rfl⟩
instance : FdT Try.prog 107 5 5 5 := ⟨fun a w => by kernel_rfl, fun cs w => by kernel_rfl⟩
instance : FdT Try.prog 107 6 6 102 := ⟨fun a w => by kernel_rfl, fun cs w => by kernel_rfl⟩
instance : FdT Try.prog 107 8 8 104 := ⟨fun a w => by kernel_rfl, fun cs w => by kernel_rfl⟩
instance : FdT Try.prog 107 9 9 105 := ⟨fun a w => by kernel_rfl, fun cs w => by kernel_rfl⟩
instance : FdT Try.prog 107 10 10 106 := ⟨fun a w => by kernel_rfl, fun cs w => by kernel_rfl⟩
instance : TyT Try.prog 108 11 true := ⟨fun w => Try.isAgg108 w, fun w => Try.sizeOf108 w⟩
instance : MkI Try.prog 108 := ⟨fun v w => by kernel_rfl⟩
instance : ZvT Try.prog 108 (.agg #[.int .u64 0, .int .u64 0, .int .u32 0, .int .u8 0, .int .u8 0, .int .u8 0, .int .u8 0, .nilFunc, .pointer none, .int .i32 0, .int .i32 0]) := ⟨fun w => Try.zeroValue108 w⟩
instance : FdT Try.prog 108 0 0 12 := ⟨fun a w => by kernel_rfl, fun cs w => by kernel_rfl⟩
instance : FdT Try.prog 108 1 1 12 := ⟨fun a w => by kernel_rfl, fun cs w => by kernel_rfl⟩
instance : FdT Try.prog 108 2 2 75 := ⟨fun a w => by kernel_rfl, fun cs w => by kernel_rfl⟩
instance : FdT Try.prog 108 3 3 101 := ⟨fun a w => by kernel_rfl, fun cs w => by kernel_rfl⟩
instance : FdT Try.prog 108 4 4 5 := ⟨fun a w => by kernel_rfl, fun cs w => by kernel_rfl⟩
instance : FdT Try.prog 108 5 5 5 := ⟨fun a w => by kernel_rfl, fun cs w => by kernel_rfl⟩
instance : FdT Try.prog 108 6 6 102 := ⟨fun a w => by kernel_rfl, fun cs w => by kernel_rfl⟩
instance : FdT Try.prog 108 8 8 104 := ⟨fun a w => by kernel_rfl, fun cs w => by kernel_rfl⟩
instance : FdT Try.prog 108 9 9 105 := ⟨fun a w => by kernel_rfl, fun cs w => by kernel_rfl⟩
instance : FdT Try.prog 108 10 10 106 := ⟨fun a w => by kernel_rfl, fun cs w => by kernel_rfl⟩
instance : TyT Try.prog 109 1 false := ⟨fun w => Try.isAgg109 w, fun w => Try.sizeOf109 w⟩
instance : MkI Try.prog 109 := ⟨fun v w => by kernel_rfl⟩
instance : ZvT Try.prog 109 (.pointer none) := ⟨fun w => Try.zeroValue109 w⟩
/- Functions with a body. -/
instance : CalT Try.prog 2 := ⟨fun args w => Try.call2 args w⟩
instance : CalT Try.prog 3 := ⟨fun args w => Try.call3 args w⟩
instance : CalT Try.prog 4 := ⟨fun args w => Try.call4 args w⟩
instance : CalT Try.prog 5 := ⟨fun args w => Try.call5 args w⟩
instance : CalT Try.prog 6 := ⟨fun args w => Try.call6 args w⟩
instance : CalT Try.prog 7 := ⟨fun args w => Try.call7 args w⟩
instance : CalT Try.prog 8 := ⟨fun args w => Try.call8 args w⟩
instance : CalT Try.prog 9 := ⟨fun args w => Try.call9 args w⟩
instance : CalT Try.prog 10 := ⟨fun args w => Try.call10 args w⟩
instance : CalT Try.prog 11 := ⟨fun args w => Try.call11 args w⟩
instance : CalT Try.prog 12 := ⟨fun args w => Try.call12 args w⟩
instance : CalT Try.prog 13 := ⟨fun args w => Try.call13 args w⟩
instance : CalT Try.prog 14 := ⟨fun args w => Try.call14 args w⟩
instance : CalT Try.prog 15 := ⟨fun args w => Try.call15 args w⟩
instance : CalT Try.prog 16 := ⟨fun args w => Try.call16 args w⟩
instance : CalT Try.prog 17 := ⟨fun args w => Try.call17 args w⟩
instance : CalT Try.prog 18 := ⟨fun args w => Try.call18 args w⟩
instance : CalT Try.prog 19 := ⟨fun args w => Try.call19 args w⟩
instance : CalT Try.prog 20 := ⟨fun args w => Try.call20 args w⟩
instance : CalT Try.prog 21 := ⟨fun args w => Try.call21 args w⟩
instance : CalT Try.prog 22 := ⟨fun args w => Try.call22 args w⟩
instance : CalT Try.prog 23 := ⟨fun args w => Try.call23 args w⟩
instance : CalT Try.prog 24 := ⟨fun args w => Try.call24 args w⟩
instance : CalT Try.prog 25 := ⟨fun args w => Try.call25 args w⟩
instance : CalT Try.prog 27 := ⟨fun args w => Try.call27 args w⟩
instance : CalT Try.prog 28 := ⟨fun args w => Try.call28 args w⟩
instance : CalT Try.prog 29 := ⟨fun args w => Try.call29 args w⟩
instance : CalT Try.prog 30 := ⟨fun args w => Try.call30 args w⟩
instance : CalT Try.prog 31 := ⟨fun args w => Try.call31 args w⟩
instance : CalT Try.prog 32 := ⟨fun args w => Try.call32 args w⟩
instance : CalT Try.prog 33 := ⟨fun args w => Try.call33 args w⟩
instance : CalT Try.prog 34 := ⟨fun args w => Try.call34 args w⟩
instance : CalT Try.prog 35 := ⟨fun args w => Try.call35 args w⟩
instance : CalT Try.prog 36 := ⟨fun args w => Try.call36 args w⟩
instance : CalT Try.prog 37 := ⟨fun args w => Try.call37 args w⟩
instance : CalT Try.prog 38 := ⟨fun args w => Try.call38 args w⟩
instance : CalT Try.prog 39 := ⟨fun args w => Try.call39 args w⟩
instance : CalT Try.prog 40 := ⟨fun args w => Try.call40 args w⟩
instance : CalT Try.prog 41 := ⟨fun args w => Try.call41 args w⟩
instance : CalT Try.prog 42 := ⟨fun args w => Try.call42 args w⟩
instance : CalT Try.prog 43 := ⟨fun args w => Try.call43 args w⟩
instance : CalT Try.prog 44 := ⟨fun args w => Try.call44 args w⟩
instance : CalT Try.prog 45 := ⟨fun args w => Try.call45 args w⟩
instance : CalT Try.prog 46 := ⟨fun args w => Try.call46 args w⟩
instance : CalT Try.prog 47 := ⟨fun args w => Try.call47 args w⟩
instance : CalT Try.prog 48 := ⟨fun args w => Try.call48 args w⟩
instance : CalT Try.prog 49 := ⟨fun args w => Try.call49 args w⟩
instance : CalT Try.prog 50 := ⟨fun args w => Try.call50 args w⟩
instance : CalT Try.prog 51 := ⟨fun args w => Try.call51 args w⟩
instance : CalT Try.prog 52 := ⟨fun args w => Try.call52 args w⟩
instance : CalT Try.prog 53 := ⟨fun args w => Try.call53 args w⟩
instance : CalT Try.prog 54 := ⟨fun args w => Try.call54 args w⟩
instance : CalT Try.prog 55 := ⟨fun args w => Try.call55 args w⟩
instance : CalT Try.prog 56 := ⟨fun args w => Try.call56 args w⟩
instance : CalT Try.prog 57 := ⟨fun args w => Try.call57 args w⟩
instance : CalT Try.prog 58 := ⟨fun args w => Try.call58 args w⟩
instance : CalT Try.prog 59 := ⟨fun args w => Try.call59 args w⟩
instance : CalT Try.prog 60 := ⟨fun args w => Try.call60 args w⟩
end Go.Proofs.Ytbjohgkbefimeaa
