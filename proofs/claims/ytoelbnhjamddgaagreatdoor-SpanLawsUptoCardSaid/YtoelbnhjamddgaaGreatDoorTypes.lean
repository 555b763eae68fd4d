/- The seat's types and functions, as instances. Printed by wip/tools/types.py. -/
import Derived.Test.YtoelbnhjamddgaaGreatDoorEngB
import Derived.Test.YtoelbnhjamddgaaGreatDoorProg
import Derived.KernelRfl
namespace Go.Proofs.YtoelbnhjamddgaaGreatDoor
open Go.Port
instance : TyT Tryz.prog 2 1 false := ⟨fun w => Tryz.isAgg2 w, fun w => Tryz.sizeOf2 w⟩
instance : MkI Tryz.prog 2 := ⟨fun v w => by kernel_rfl⟩
instance : IntT Tryz.prog 2 .i64 := ⟨Tryz.underlying2⟩
instance : ZvT Tryz.prog 2 (.int .i64 0) := ⟨fun w => Tryz.zeroValue2 w⟩
instance : TyT Tryz.prog 3 1 false := ⟨fun w => Tryz.isAgg3 w, fun w => Tryz.sizeOf3 w⟩
instance : MkI Tryz.prog 3 := ⟨fun v w => by kernel_rfl⟩
instance : IntT Tryz.prog 3 .i64 := ⟨Tryz.underlying3⟩
instance : ZvT Tryz.prog 3 (.int .i64 0) := ⟨fun w => Tryz.zeroValue3 w⟩
instance : TyT Tryz.prog 4 1 false := ⟨fun w => Tryz.isAgg4 w, fun w => Tryz.sizeOf4 w⟩
instance : MkI Tryz.prog 4 := ⟨fun v w => by kernel_rfl⟩
instance : ZvT Tryz.prog 4 (.bool false) := ⟨fun w => Tryz.zeroValue4 w⟩
instance : TyT Tryz.prog 5 1 false := ⟨fun w => Tryz.isAgg5 w, fun w => Tryz.sizeOf5 w⟩
instance : MkI Tryz.prog 5 := ⟨fun v w => by kernel_rfl⟩
instance : IntT Tryz.prog 5 .u8 := ⟨Tryz.underlying5⟩
instance : ZvT Tryz.prog 5 (.int .u8 0) := ⟨fun w => Tryz.zeroValue5 w⟩
instance : TyT Tryz.prog 6 1 false := ⟨fun w => Tryz.isAgg6 w, fun w => Tryz.sizeOf6 w⟩
instance : MkI Tryz.prog 6 := ⟨fun v w => by kernel_rfl⟩
instance : IntT Tryz.prog 6 .u8 := ⟨Tryz.underlying6⟩
instance : ZvT Tryz.prog 6 (.int .u8 0) := ⟨fun w => Tryz.zeroValue6 w⟩
instance : TyT Tryz.prog 7 4 true := ⟨fun w => Tryz.isAgg7 w, fun w => Tryz.sizeOf7 w⟩
instance : MkI Tryz.prog 7 := ⟨fun v w => by kernel_rfl⟩
instance : ZvT Tryz.prog 7 (.agg #[.int .i64 0, .int .i64 0, .bool false, .int .u8 0]) := ⟨fun w => Tryz.zeroValue7 w⟩
instance : FdT Tryz.prog 7 0 0 2 := ⟨fun a w => by kernel_rfl, fun cs w => by kernel_rfl⟩
instance : FdT Tryz.prog 7 1 1 3 := ⟨fun a w => by kernel_rfl, fun cs w => by kernel_rfl⟩
instance : FdT Tryz.prog 7 2 2 4 := ⟨fun a w => by kernel_rfl, fun cs w => by kernel_rfl⟩
instance : FdT Tryz.prog 7 3 3 6 := ⟨fun a w => by kernel_rfl, fun cs w => by kernel_rfl⟩
instance : BldT Tryz.prog 7 [(0, 1), (1, 1), (2, 1), (3, 1)] [.int .i64 0, .int .i64 0, .bool false, .int .u8 0] := ⟨fun parts => by kernel_rfl⟩
instance : TyT Tryz.prog 8 4 true := ⟨fun w => Tryz.isAgg8 w, fun w => Tryz.sizeOf8 w⟩
instance : MkI Tryz.prog 8 := ⟨fun v w => by kernel_rfl⟩
instance : ZvT Tryz.prog 8 (.agg #[.int .i64 0, .int .i64 0, .bool false, .int .u8 0]) := ⟨fun w => Tryz.zeroValue8 w⟩
instance : FdT Tryz.prog 8 0 0 2 := ⟨fun a w => by kernel_rfl, fun cs w => by kernel_rfl⟩
instance : FdT Tryz.prog 8 1 1 3 := ⟨fun a w => by kernel_rfl, fun cs w => by kernel_rfl⟩
instance : FdT Tryz.prog 8 2 2 4 := ⟨fun a w => by kernel_rfl, fun cs w => by kernel_rfl⟩
instance : FdT Tryz.prog 8 3 3 6 := ⟨fun a w => by kernel_rfl, fun cs w => by kernel_rfl⟩
instance : BldT Tryz.prog 8 [(0, 1), (1, 1), (2, 1), (3, 1)] [.int .i64 0, .int .i64 0, .bool false, .int .u8 0] := ⟨fun parts => by kernel_rfl⟩
instance : TyT Tryz.prog 9 1 false := ⟨fun w => Tryz.isAgg9 w, fun w => Tryz.sizeOf9 w⟩
instance : MkI Tryz.prog 9 := ⟨fun v w => by kernel_rfl⟩
instance : StrT Tryz.prog 9 := ⟨Tryz.underlying9⟩
instance : ZvT Tryz.prog 9 (.string ⟨#[]⟩) := ⟨fun w => Tryz.zeroValue9 w⟩
instance : TyT Tryz.prog 10 1 false := ⟨fun w => Tryz.isAgg10 w, fun w => Tryz.sizeOf10 w⟩
instance : MkI Tryz.prog 10 := ⟨fun v w => by kernel_rfl⟩
instance : StrT Tryz.prog 10 := ⟨Tryz.underlying10⟩
instance : ZvT Tryz.prog 10 (.string ⟨#[]⟩) := ⟨fun w => Tryz.zeroValue10 w⟩
instance : TyT Tryz.prog 11 1 false := ⟨fun w => Tryz.isAgg11 w, fun w => Tryz.sizeOf11 w⟩
instance : MkI Tryz.prog 11 := ⟨fun v w => by kernel_rfl⟩
instance : StrT Tryz.prog 11 := ⟨Tryz.underlying11⟩
instance : ZvT Tryz.prog 11 (.string ⟨#[]⟩) := ⟨fun w => Tryz.zeroValue11 w⟩
instance : TyT Tryz.prog 12 1 false := ⟨fun w => Tryz.isAgg12 w, fun w => Tryz.sizeOf12 w⟩
instance : MkI Tryz.prog 12 := ⟨fun v w => by kernel_rfl⟩
instance : IntT Tryz.prog 12 .u64 := ⟨Tryz.underlying12⟩
instance : ZvT Tryz.prog 12 (.int .u64 0) := ⟨fun w => Tryz.zeroValue12 w⟩
instance : TyT Tryz.prog 13 2 true := ⟨fun w => Tryz.isAgg13 w, fun w => Tryz.sizeOf13 w⟩
instance : MkI Tryz.prog 13 := ⟨fun v w => by kernel_rfl⟩
instance : ZvT Tryz.prog 13 (.agg #[.string ⟨#[]⟩, .int .u64 0]) := ⟨fun w => Tryz.zeroValue13 w⟩
instance : FdT Tryz.prog 13 0 0 9 := ⟨fun a w => by kernel_rfl, fun cs w => by kernel_rfl⟩
instance : FdT Tryz.prog 13 1 1 12 := ⟨fun a w => by kernel_rfl, fun cs w => by kernel_rfl⟩
instance : BldT Tryz.prog 13 [(0, 1), (1, 1)] [.string ⟨#[]⟩, .int .u64 0] := ⟨fun parts => by kernel_rfl⟩
instance : TyT Tryz.prog 14 2 true := ⟨fun w => Tryz.isAgg14 w, fun w => Tryz.sizeOf14 w⟩
instance : MkI Tryz.prog 14 := ⟨fun v w => by kernel_rfl⟩
instance : ZvT Tryz.prog 14 (.agg #[.string ⟨#[]⟩, .int .u64 0]) := ⟨fun w => Tryz.zeroValue14 w⟩
instance : FdT Tryz.prog 14 0 0 9 := ⟨fun a w => by kernel_rfl, fun cs w => by kernel_rfl⟩
instance : FdT Tryz.prog 14 1 1 12 := ⟨fun a w => by kernel_rfl, fun cs w => by kernel_rfl⟩
instance : BldT Tryz.prog 14 [(0, 1), (1, 1)] [.string ⟨#[]⟩, .int .u64 0] := ⟨fun parts => by kernel_rfl⟩
instance : TyT Tryz.prog 15 1 false := ⟨fun w => Tryz.isAgg15 w, fun w => Tryz.sizeOf15 w⟩
instance : MkI Tryz.prog 15 := ⟨fun v w => by kernel_rfl⟩
instance : ZvT Tryz.prog 15 (.pointer none) := ⟨fun w => Tryz.zeroValue15 w⟩
instance : TyT Tryz.prog 16 1 false := ⟨fun w => Tryz.isAgg16 w, fun w => Tryz.sizeOf16 w⟩
instance : MkI Tryz.prog 16 := ⟨fun v w => by kernel_rfl⟩
instance : ZvT Tryz.prog 16 (.pointer none) := ⟨fun w => Tryz.zeroValue16 w⟩
instance : TyT Tryz.prog 17 1 false := ⟨fun w => Tryz.isAgg17 w, fun w => Tryz.sizeOf17 w⟩
instance : MkI Tryz.prog 17 := ⟨fun v w => by kernel_rfl⟩
instance : ZvT Tryz.prog 17 (.pointer none) := ⟨fun w => Tryz.zeroValue17 w⟩
instance : TyT Tryz.prog 18 1 true := ⟨fun w => Tryz.isAgg18 w, fun w => Tryz.sizeOf18 w⟩
instance : MkI Tryz.prog 18 := ⟨fun v w => by kernel_rfl⟩
instance : ZvT Tryz.prog 18 (.agg #[.pointer none]) := ⟨fun w => Tryz.zeroValue18 w⟩
instance : FdT Tryz.prog 18 0 0 17 := ⟨fun a w => by kernel_rfl, fun cs w => by kernel_rfl⟩
instance : BldT Tryz.prog 18 [(0, 1)] [.pointer none] := ⟨fun parts => by kernel_rfl⟩
instance : TyT Tryz.prog 19 1 true := ⟨fun w => Tryz.isAgg19 w, fun w => Tryz.sizeOf19 w⟩
instance : MkI Tryz.prog 19 := ⟨fun v w => by kernel_rfl⟩
instance : ZvT Tryz.prog 19 (.agg #[.pointer none]) := ⟨fun w => Tryz.zeroValue19 w⟩
instance : FdT Tryz.prog 19 0 0 17 := ⟨fun a w => by kernel_rfl, fun cs w => by kernel_rfl⟩
instance : BldT Tryz.prog 19 [(0, 1)] [.pointer none] := ⟨fun parts => by kernel_rfl⟩
instance : TyT Tryz.prog 20 1 false := ⟨fun w => Tryz.isAgg20 w, fun w => Tryz.sizeOf20 w⟩
instance : IfT Tryz.prog 20 := ⟨⟨_, Tryz.underlying20⟩⟩
instance : ZvT Tryz.prog 20 (.nilIface) := ⟨fun w => Tryz.zeroValue20 w⟩
instance : TyT Tryz.prog 21 1 false := ⟨fun w => Tryz.isAgg21 w, fun w => Tryz.sizeOf21 w⟩
instance : MkI Tryz.prog 21 := ⟨fun v w => by kernel_rfl⟩
instance : IntT Tryz.prog 21 .i32 := ⟨Tryz.underlying21⟩
instance : ZvT Tryz.prog 21 (.int .i32 0) := ⟨fun w => Tryz.zeroValue21 w⟩
instance : TyT Tryz.prog 22 2 true := ⟨fun w => Tryz.isAgg22 w, fun w => Tryz.sizeOf22 w⟩
instance : MkI Tryz.prog 22 := ⟨fun v w => by kernel_rfl⟩
instance : ZvT Tryz.prog 22 (.agg #[.int .i64 0, .int .i64 0]) := ⟨fun w => Tryz.zeroValue22 w⟩
instance : FdT Tryz.prog 22 0 0 3 := ⟨fun a w => by kernel_rfl, fun cs w => by kernel_rfl⟩
instance : FdT Tryz.prog 22 1 1 3 := ⟨fun a w => by kernel_rfl, fun cs w => by kernel_rfl⟩
instance : BldT Tryz.prog 22 [(0, 1), (1, 1)] [.int .i64 0, .int .i64 0] := ⟨fun parts => by kernel_rfl⟩
instance : TyT Tryz.prog 23 2 true := ⟨fun w => Tryz.isAgg23 w, fun w => Tryz.sizeOf23 w⟩
instance : MkI Tryz.prog 23 := ⟨fun v w => by kernel_rfl⟩
instance : ZvT Tryz.prog 23 (.agg #[.int .i64 0, .int .i64 0]) := ⟨fun w => Tryz.zeroValue23 w⟩
instance : FdT Tryz.prog 23 0 0 3 := ⟨fun a w => by kernel_rfl, fun cs w => by kernel_rfl⟩
instance : FdT Tryz.prog 23 1 1 3 := ⟨fun a w => by kernel_rfl, fun cs w => by kernel_rfl⟩
instance : BldT Tryz.prog 23 [(0, 1), (1, 1)] [.int .i64 0, .int .i64 0] := ⟨fun parts => by kernel_rfl⟩
instance : TyT Tryz.prog 26 1 false := ⟨fun w => Tryz.isAgg26 w, fun w => Tryz.sizeOf26 w⟩
instance : IfT Tryz.prog 26 := ⟨⟨_, Tryz.underlying26⟩⟩
instance : ZvT Tryz.prog 26 (.nilIface) := ⟨fun w => Tryz.zeroValue26 w⟩
instance : TyT Tryz.prog 27 1 false := ⟨fun w => Tryz.isAgg27 w, fun w => Tryz.sizeOf27 w⟩
instance : IfT Tryz.prog 27 := ⟨⟨_, Tryz.underlying27⟩⟩
instance : ZvT Tryz.prog 27 (.nilIface) := ⟨fun w => Tryz.zeroValue27 w⟩
instance : TyT Tryz.prog 43 1 false := ⟨fun w => Tryz.isAgg43 w, fun w => Tryz.sizeOf43 w⟩
instance : MkI Tryz.prog 43 := ⟨fun v w => by kernel_rfl⟩
instance : ZvT Tryz.prog 43 (.slice none 0 0) := ⟨fun w => Tryz.zeroValue43 w⟩
instance : SlT Tryz.prog 43 55 2 16 (.agg #[.int .i64 0, .int .i64 0]) := ⟨by kernel_rfl, by kernel_rfl, rfl, by decide, by decide⟩
instance : TyT Tryz.prog 55 2 true := ⟨fun w => Tryz.isAgg55 w, fun w => Tryz.sizeOf55 w⟩
instance : MkI Tryz.prog 55 := ⟨fun v w => by kernel_rfl⟩
instance : ZvT Tryz.prog 55 (.agg #[.int .i64 0, .int .i64 0]) := ⟨fun w => Tryz.zeroValue55 w⟩
instance : ArT Tryz.prog 55 2 3 1 := ⟨Tryz.underlying55, fun w => Tryz.sizeOf3 w⟩
instance : TyT Tryz.prog 60 1 false := ⟨fun w => Tryz.isAgg60 w, fun w => Tryz.sizeOf60 w⟩
instance : MkI Tryz.prog 60 := ⟨fun v w => by kernel_rfl⟩
instance : IntT Tryz.prog 60 .i64 := ⟨Tryz.underlying60⟩
instance : ZvT Tryz.prog 60 (.int .i64 0) := ⟨fun w => Tryz.zeroValue60 w⟩
instance : TyT Tryz.prog 61 1 false := ⟨fun w => Tryz.isAgg61 w, fun w => Tryz.sizeOf61 w⟩
instance : MkI Tryz.prog 61 := ⟨fun v w => by kernel_rfl⟩
instance : ZvT Tryz.prog 61 (.slice none 0 0) := ⟨fun w => Tryz.zeroValue61 w⟩
instance : SlT Tryz.prog 61 9 1 16 (.string ⟨#[]⟩) := ⟨by kernel_rfl, by kernel_rfl, rfl, by decide, by decide⟩
instance : TyT Tryz.prog 67 1 false := ⟨fun w => Tryz.isAgg67 w, fun w => Tryz.sizeOf67 w⟩
instance : MkI Tryz.prog 67 := ⟨fun v w => by kernel_rfl⟩
instance : IntT Tryz.prog 67 .u64 := ⟨Tryz.underlying67⟩
instance : ZvT Tryz.prog 67 (.int .u64 0) := ⟨fun w => Tryz.zeroValue67 w⟩
instance : TyT Tryz.prog 77 1 false := ⟨fun w => Tryz.isAgg77 w, fun w => Tryz.sizeOf77 w⟩
instance : MkI Tryz.prog 77 := ⟨fun v w => by kernel_rfl⟩
instance : ZvT Tryz.prog 77 (.pointer none) := ⟨fun w => Tryz.zeroValue77 w⟩
instance : TyT Tryz.prog 78 1 false := ⟨fun w => Tryz.isAgg78 w, fun w => Tryz.sizeOf78 w⟩
instance : MkI Tryz.prog 78 := ⟨fun v w => by kernel_rfl⟩
instance : ZvT Tryz.prog 78 (.slice none 0 0) := ⟨fun w => Tryz.zeroValue78 w⟩
instance : SlT Tryz.prog 78 5 1 1 (.int .u8 0) := ⟨by kernel_rfl, by kernel_rfl, rfl, by decide, by decide⟩
instance : TyT Tryz.prog 79 2 true := ⟨fun w => Tryz.isAgg79 w, fun w => Tryz.sizeOf79 w⟩
instance : MkI Tryz.prog 79 := ⟨fun v w => by kernel_rfl⟩
instance : ZvT Tryz.prog 79 (.agg #[.pointer none, .slice none 0 0]) := ⟨fun w => Tryz.zeroValue79 w⟩
instance : FdT Tryz.prog 79 0 0 77 := ⟨fun a w => by kernel_rfl, fun cs w => by kernel_rfl⟩
instance : FdT Tryz.prog 79 1 1 78 := ⟨fun a w => by kernel_rfl, fun cs w => by kernel_rfl⟩
instance : BldT Tryz.prog 79 [(0, 1), (1, 1)] [.pointer none, .slice none 0 0] := ⟨fun parts => by kernel_rfl⟩
instance : TyT Tryz.prog 80 2 true := ⟨fun w => Tryz.isAgg80 w, fun w => Tryz.sizeOf80 w⟩
instance : MkI Tryz.prog 80 := ⟨fun v w => by kernel_rfl⟩
instance : ZvT Tryz.prog 80 (.agg #[.pointer none, .slice none 0 0]) := ⟨fun w => Tryz.zeroValue80 w⟩
instance : FdT Tryz.prog 80 0 0 77 := ⟨fun a w => by kernel_rfl, fun cs w => by kernel_rfl⟩
instance : FdT Tryz.prog 80 1 1 78 := ⟨fun a w => by kernel_rfl, fun cs w => by kernel_rfl⟩
instance : BldT Tryz.prog 80 [(0, 1), (1, 1)] [.pointer none, .slice none 0 0] := ⟨fun parts => by kernel_rfl⟩
instance : TyT Tryz.prog 84 1 false := ⟨fun w => Tryz.isAgg84 w, fun w => Tryz.sizeOf84 w⟩
instance : MkI Tryz.prog 84 := ⟨fun v w => by kernel_rfl⟩
instance : ZvT Tryz.prog 84 (.pointer none) := ⟨fun w => Tryz.zeroValue84 w⟩
instance : TyT Tryz.prog 90 1 false := ⟨fun w => Tryz.isAgg90 w, fun w => Tryz.sizeOf90 w⟩
instance : MkI Tryz.prog 90 := ⟨fun v w => by kernel_rfl⟩
instance : ZvT Tryz.prog 90 (.slice none 0 0) := ⟨fun w => Tryz.zeroValue90 w⟩
instance : SlT Tryz.prog 90 43 1 24 (.slice none 0 0) := ⟨by kernel_rfl, by kernel_rfl, rfl, by decide, by decide⟩
instance : TyT Tryz.prog 94 1 false := ⟨fun w => Tryz.isAgg94 w, fun w => Tryz.sizeOf94 w⟩
instance : MkI Tryz.prog 94 := ⟨fun v w => by kernel_rfl⟩
instance : ZvT Tryz.prog 94 (.pointer none) := ⟨fun w => Tryz.zeroValue94 w⟩
instance : TyT Tryz.prog 95 1 false := ⟨fun w => Tryz.isAgg95 w, fun w => Tryz.sizeOf95 w⟩
instance : MkI Tryz.prog 95 := ⟨fun v w => by kernel_rfl⟩
instance : ZvT Tryz.prog 95 (.pointer none) := ⟨fun w => Tryz.zeroValue95 w⟩
instance : TyT Tryz.prog 96 1 false := ⟨fun w => Tryz.isAgg96 w, fun w => Tryz.sizeOf96 w⟩
instance : MkI Tryz.prog 96 := ⟨fun v w => by kernel_rfl⟩
instance : IntT Tryz.prog 96 .u64 := ⟨Tryz.underlying96⟩
instance : ZvT Tryz.prog 96 (.int .u64 0) := ⟨fun w => Tryz.zeroValue96 w⟩
instance : TyT Tryz.prog 97 3 true := ⟨fun w => Tryz.isAgg97 w, fun w => Tryz.sizeOf97 w⟩
instance : MkI Tryz.prog 97 := ⟨fun v w => by kernel_rfl⟩
instance : ZvT Tryz.prog 97 (.agg #[.pointer none, .pointer none, .int .u64 0]) := ⟨fun w => Tryz.zeroValue97 w⟩
instance : FdT Tryz.prog 97 0 0 17 := ⟨fun a w => by kernel_rfl, fun cs w => by kernel_rfl⟩
instance : FdT Tryz.prog 97 1 1 95 := ⟨fun a w => by kernel_rfl, fun cs w => by kernel_rfl⟩
instance : FdT Tryz.prog 97 2 2 96 := ⟨fun a w => by kernel_rfl, fun cs w => by kernel_rfl⟩
instance : BldT Tryz.prog 97 [(0, 1), (1, 1), (2, 1)] [.pointer none, .pointer none, .int .u64 0] := ⟨fun parts => by kernel_rfl⟩
instance : TyT Tryz.prog 98 3 true := ⟨fun w => Tryz.isAgg98 w, fun w => Tryz.sizeOf98 w⟩
instance : MkI Tryz.prog 98 := ⟨fun v w => by kernel_rfl⟩
instance : ZvT Tryz.prog 98 (.agg #[.pointer none, .pointer none, .int .u64 0]) := ⟨fun w => Tryz.zeroValue98 w⟩
instance : FdT Tryz.prog 98 0 0 17 := ⟨fun a w => by kernel_rfl, fun cs w => by kernel_rfl⟩
instance : FdT Tryz.prog 98 1 1 95 := ⟨fun a w => by kernel_rfl, fun cs w => by kernel_rfl⟩
instance : FdT Tryz.prog 98 2 2 96 := ⟨fun a w => by kernel_rfl, fun cs w => by kernel_rfl⟩
instance : BldT Tryz.prog 98 [(0, 1), (1, 1), (2, 1)] [.pointer none, .pointer none, .int .u64 0] := ⟨fun parts => by kernel_rfl⟩
instance : TyT Tryz.prog 100 1 false := ⟨fun w => Tryz.isAgg100 w, fun w => Tryz.sizeOf100 w⟩
instance : IfT Tryz.prog 100 := ⟨⟨_, Tryz.underlying100⟩⟩
instance : ZvT Tryz.prog 100 (.nilIface) := ⟨fun w => Tryz.zeroValue100 w⟩
instance : TyT Tryz.prog 101 1 false := ⟨fun w => Tryz.isAgg101 w, fun w => Tryz.sizeOf101 w⟩
instance : IfT Tryz.prog 101 := ⟨⟨_, Tryz.underlying101⟩⟩
instance : ZvT Tryz.prog 101 (.nilIface) := ⟨fun w => Tryz.zeroValue101 w⟩
instance : TyT Tryz.prog 103 1 false := ⟨fun w => Tryz.isAgg103 w, fun w => Tryz.sizeOf103 w⟩
instance : MkI Tryz.prog 103 := ⟨fun v w => by kernel_rfl⟩
instance : IntT Tryz.prog 103 .u8 := ⟨Tryz.underlying103⟩
instance : ZvT Tryz.prog 103 (.int .u8 0) := ⟨fun w => Tryz.zeroValue103 w⟩
instance : TyT Tryz.prog 110 1 false := ⟨fun w => Tryz.isAgg110 w, fun w => Tryz.sizeOf110 w⟩
instance : MkI Tryz.prog 110 := ⟨fun v w => by kernel_rfl⟩
instance : IntT Tryz.prog 110 .i64 := ⟨Tryz.underlying110⟩
instance : ZvT Tryz.prog 110 (.int .i64 0) := ⟨fun w => Tryz.zeroValue110 w⟩
instance : TyT Tryz.prog 113 1 false := ⟨fun w => Tryz.isAgg113 w, fun w => Tryz.sizeOf113 w⟩
instance : MkI Tryz.prog 113 := ⟨fun v w => by kernel_rfl⟩
instance : ZvT Tryz.prog 113 (.pointer none) := ⟨fun w => Tryz.zeroValue113 w⟩
instance : TyT Tryz.prog 118 24 true := ⟨fun w => Tryz.isAgg118 w, fun w => Tryz.sizeOf118 w⟩
instance : MkI Tryz.prog 118 := ⟨fun v w => by kernel_rfl⟩
instance : ZvT Tryz.prog 118 (.agg #[.int .u8 0, .int .u8 0, .int .u8 0, .int .u8 0, .int .u8 0, .int .u8 0, .int .u8 0, .int .u8 0, .int .u8 0, .int .u8 0, .int .u8 0, .int .u8 0, .int .u8 0, .int .u8 0, .int .u8 0, .int .u8 0, .int .u8 0, .int .u8 0, .int .u8 0, .int .u8 0, .int .u8 0, .int .u8 0, .int .u8 0, .int .u8 0]) := ⟨fun w => Tryz.zeroValue118 w⟩
instance : ArT Tryz.prog 118 24 5 1 := ⟨Tryz.underlying118, fun w => Tryz.sizeOf5 w⟩
instance : TyT Tryz.prog 119 1 false := ⟨fun w => Tryz.isAgg119 w, fun w => Tryz.sizeOf119 w⟩
instance : MkI Tryz.prog 119 := ⟨fun v w => by kernel_rfl⟩
instance : IntT Tryz.prog 119 .u64 := ⟨Tryz.underlying119⟩
instance : ZvT Tryz.prog 119 (.int .u64 0) := ⟨fun w => Tryz.zeroValue119 w⟩
instance : TyT Tryz.prog 126 1 true := ⟨fun w => Tryz.isAgg126 w, fun w => Tryz.sizeOf126 w⟩
instance : MkI Tryz.prog 126 := ⟨fun v w => by kernel_rfl⟩
instance : ZvT Tryz.prog 126 (.agg #[.pointer none]) := ⟨fun w => Tryz.zeroValue126 w⟩
instance : FdT Tryz.prog 126 0 0 17 := ⟨fun a w => by kernel_rfl, fun cs w => by kernel_rfl⟩
instance : BldT Tryz.prog 126 [(0, 1)] [.pointer none] := ⟨fun parts => by kernel_rfl⟩
instance : TyT Tryz.prog 127 1 true := ⟨fun w => Tryz.isAgg127 w, fun w => Tryz.sizeOf127 w⟩
instance : MkI Tryz.prog 127 := ⟨fun v w => by kernel_rfl⟩
instance : ZvT Tryz.prog 127 (.agg #[.pointer none]) := ⟨fun w => Tryz.zeroValue127 w⟩
instance : FdT Tryz.prog 127 0 0 17 := ⟨fun a w => by kernel_rfl, fun cs w => by kernel_rfl⟩
instance : BldT Tryz.prog 127 [(0, 1)] [.pointer none] := ⟨fun parts => by kernel_rfl⟩
instance : TyT Tryz.prog 128 1 false := ⟨fun w => Tryz.isAgg128 w, fun w => Tryz.sizeOf128 w⟩
instance : MkI Tryz.prog 128 := ⟨fun v w => by kernel_rfl⟩
instance : ZvT Tryz.prog 128 (.pointer none) := ⟨fun w => Tryz.zeroValue128 w⟩
instance : TyT Tryz.prog 132 1 false := ⟨fun w => Tryz.isAgg132 w, fun w => Tryz.sizeOf132 w⟩
instance : IfT Tryz.prog 132 := ⟨⟨_, Tryz.underlying132⟩⟩
instance : ZvT Tryz.prog 132 (.nilIface) := ⟨fun w => Tryz.zeroValue132 w⟩
instance : TyT Tryz.prog 135 1 false := ⟨fun w => Tryz.isAgg135 w, fun w => Tryz.sizeOf135 w⟩
instance : IfT Tryz.prog 135 := ⟨⟨_, Tryz.underlying135⟩⟩
instance : ZvT Tryz.prog 135 (.nilIface) := ⟨fun w => Tryz.zeroValue135 w⟩
instance : TyT Tryz.prog 137 1 false := ⟨fun w => Tryz.isAgg137 w, fun w => Tryz.sizeOf137 w⟩
instance : IfT Tryz.prog 137 := ⟨⟨_, Tryz.underlying137⟩⟩
instance : ZvT Tryz.prog 137 (.nilIface) := ⟨fun w => Tryz.zeroValue137 w⟩
instance : TyT Tryz.prog 138 1 false := ⟨fun w => Tryz.isAgg138 w, fun w => Tryz.sizeOf138 w⟩
instance : MkI Tryz.prog 138 := ⟨fun v w => by kernel_rfl⟩
instance : ZvT Tryz.prog 138 (.slice none 0 0) := ⟨fun w => Tryz.zeroValue138 w⟩
instance : SlT Tryz.prog 138 27 1 16 (.nilIface) := ⟨by kernel_rfl, by kernel_rfl, rfl, by decide, by decide⟩
instance : TyT Tryz.prog 146 3 true := ⟨fun w => Tryz.isAgg146 w, fun w => Tryz.sizeOf146 w⟩
instance : MkI Tryz.prog 146 := ⟨fun v w => by kernel_rfl⟩
instance : ZvT Tryz.prog 146 (.agg #[.string ⟨#[]⟩, .string ⟨#[]⟩, .nilIface]) := ⟨fun w => Tryz.zeroValue146 w⟩
instance : FdT Tryz.prog 146 0 0 9 := ⟨fun a w => by kernel_rfl, fun cs w => by kernel_rfl⟩
instance : FdT Tryz.prog 146 1 1 9 := ⟨fun a w => by kernel_rfl, fun cs w => by kernel_rfl⟩
instance : FdT Tryz.prog 146 2 2 27 := ⟨fun a w => by kernel_rfl, fun cs w => by kernel_rfl⟩
instance : BldT Tryz.prog 146 [(0, 1), (1, 1), (2, 1)] [.string ⟨#[]⟩, .string ⟨#[]⟩, .nilIface] := ⟨fun parts => by kernel_rfl⟩
instance : TyT Tryz.prog 147 3 true := ⟨fun w => Tryz.isAgg147 w, fun w => Tryz.sizeOf147 w⟩
instance : MkI Tryz.prog 147 := ⟨fun v w => by kernel_rfl⟩
instance : ZvT Tryz.prog 147 (.agg #[.string ⟨#[]⟩, .string ⟨#[]⟩, .nilIface]) := ⟨fun w => Tryz.zeroValue147 w⟩
instance : FdT Tryz.prog 147 0 0 9 := ⟨fun a w => by kernel_rfl, fun cs w => by kernel_rfl⟩
instance : FdT Tryz.prog 147 1 1 9 := ⟨fun a w => by kernel_rfl, fun cs w => by kernel_rfl⟩
instance : FdT Tryz.prog 147 2 2 27 := ⟨fun a w => by kernel_rfl, fun cs w => by kernel_rfl⟩
instance : BldT Tryz.prog 147 [(0, 1), (1, 1), (2, 1)] [.string ⟨#[]⟩, .string ⟨#[]⟩, .nilIface] := ⟨fun parts => by kernel_rfl⟩
instance : TyT Tryz.prog 150 1 false := ⟨fun w => Tryz.isAgg150 w, fun w => Tryz.sizeOf150 w⟩
instance : MkI Tryz.prog 150 := ⟨fun v w => by kernel_rfl⟩
instance : IntT Tryz.prog 150 .i64 := ⟨Tryz.underlying150⟩
instance : ZvT Tryz.prog 150 (.int .i64 0) := ⟨fun w => Tryz.zeroValue150 w⟩
instance : TyT Tryz.prog 158 1 false := ⟨fun w => Tryz.isAgg158 w, fun w => Tryz.sizeOf158 w⟩
instance : MkI Tryz.prog 158 := ⟨fun v w => by kernel_rfl⟩
instance : IntT Tryz.prog 158 .u32 := ⟨Tryz.underlying158⟩
instance : ZvT Tryz.prog 158 (.int .u32 0) := ⟨fun w => Tryz.zeroValue158 w⟩
instance : TyT Tryz.prog 160 20 true := ⟨fun w => Tryz.isAgg160 w, fun w => Tryz.sizeOf160 w⟩
instance : MkI Tryz.prog 160 := ⟨fun v w => by kernel_rfl⟩
instance : ZvT Tryz.prog 160 (.agg #[.int .u64 0, .int .u64 0, .int .u64 0, .int .u64 0, .int .u64 0, .int .u64 0, .int .u64 0, .int .u64 0, .int .u64 0, .int .u64 0, .int .u64 0, .int .u64 0, .int .u64 0, .int .u64 0, .int .u64 0, .int .u64 0, .int .u64 0, .int .u64 0, .int .u64 0, .int .u64 0]) := ⟨fun w => Tryz.zeroValue160 w⟩
instance : ArT Tryz.prog 160 20 119 1 := ⟨Tryz.underlying160, fun w => Tryz.sizeOf119 w⟩
instance : TyT Tryz.prog 161 65 true := ⟨fun w => Tryz.isAgg161 w, fun w => Tryz.sizeOf161 w⟩
instance : MkI Tryz.prog 161 := ⟨fun v w => by kernel_rfl⟩
instance : ArT Tryz.prog 161 65 5 1 := ⟨Tryz.underlying161, fun w => Tryz.sizeOf5 w⟩
instance : TyT Tryz.prog 164 1 false := ⟨fun w => Tryz.isAgg164 w, fun w => Tryz.sizeOf164 w⟩
instance : MkI Tryz.prog 164 := ⟨fun v w => by kernel_rfl⟩
instance : ZvT Tryz.prog 164 (.pointer none) := ⟨fun w => Tryz.zeroValue164 w⟩
instance : TyT Tryz.prog 165 1 true := ⟨fun w => Tryz.isAgg165 w, fun w => Tryz.sizeOf165 w⟩
instance : MkI Tryz.prog 165 := ⟨fun v w => by kernel_rfl⟩
instance : ZvT Tryz.prog 165 (.agg #[.string ⟨#[]⟩]) := ⟨fun w => Tryz.zeroValue165 w⟩
instance : FdT Tryz.prog 165 0 0 9 := ⟨fun a w => by kernel_rfl, fun cs w => by kernel_rfl⟩
instance : BldT Tryz.prog 165 [(0, 1)] [.string ⟨#[]⟩] := ⟨fun parts => by kernel_rfl⟩
instance : TyT Tryz.prog 166 1 true := ⟨fun w => Tryz.isAgg166 w, fun w => Tryz.sizeOf166 w⟩
instance : MkI Tryz.prog 166 := ⟨fun v w => by kernel_rfl⟩
instance : ZvT Tryz.prog 166 (.agg #[.string ⟨#[]⟩]) := ⟨fun w => Tryz.zeroValue166 w⟩
instance : FdT Tryz.prog 166 0 0 9 := ⟨fun a w => by kernel_rfl, fun cs w => by kernel_rfl⟩
instance : BldT Tryz.prog 166 [(0, 1)] [.string ⟨#[]⟩] := ⟨fun parts => by kernel_rfl⟩
instance : TyT Tryz.prog 169 1 false := ⟨fun w => Tryz.isAgg169 w, fun w => Tryz.sizeOf169 w⟩
instance : MkI Tryz.prog 169 := ⟨fun v w => by kernel_rfl⟩
instance : IntT Tryz.prog 169 .u64 := ⟨Tryz.underlying169⟩
instance : ZvT Tryz.prog 169 (.int .u64 0) := ⟨fun w => Tryz.zeroValue169 w⟩
instance : TyT Tryz.prog 173 1 false := ⟨fun w => Tryz.isAgg173 w, fun w => Tryz.sizeOf173 w⟩
instance : MkI Tryz.prog 173 := ⟨fun v w => by kernel_rfl⟩
instance : ZvT Tryz.prog 173 (.pointer none) := ⟨fun w => Tryz.zeroValue173 w⟩
instance : TyT Tryz.prog 175 256 true := ⟨fun w => Tryz.isAgg175 w, fun w => Tryz.sizeOf175 w⟩
instance : MkI Tryz.prog 175 := ⟨fun v w => by kernel_rfl⟩
instance : ArT Tryz.prog 175 256 5 1 := ⟨Tryz.underlying175, fun w => Tryz.sizeOf5 w⟩
instance : TyT Tryz.prog 176 2 true := ⟨fun w => Tryz.isAgg176 w, fun w => Tryz.sizeOf176 w⟩
instance : MkI Tryz.prog 176 := ⟨fun v w => by kernel_rfl⟩
instance : ZvT Tryz.prog 176 (.agg #[.int .u8 0, .int .u8 0]) := ⟨fun w => Tryz.zeroValue176 w⟩
instance : FdT Tryz.prog 176 0 0 5 := ⟨fun a w => by kernel_rfl, fun cs w => by kernel_rfl⟩
instance : FdT Tryz.prog 176 1 1 5 := ⟨fun a w => by kernel_rfl, fun cs w => by kernel_rfl⟩
instance : BldT Tryz.prog 176 [(0, 1), (1, 1)] [.int .u8 0, .int .u8 0] := ⟨fun parts => by kernel_rfl⟩
instance : TyT Tryz.prog 177 2 true := ⟨fun w => Tryz.isAgg177 w, fun w => Tryz.sizeOf177 w⟩
instance : MkI Tryz.prog 177 := ⟨fun v w => by kernel_rfl⟩
instance : ZvT Tryz.prog 177 (.agg #[.int .u8 0, .int .u8 0]) := ⟨fun w => Tryz.zeroValue177 w⟩
instance : FdT Tryz.prog 177 0 0 5 := ⟨fun a w => by kernel_rfl, fun cs w => by kernel_rfl⟩
instance : FdT Tryz.prog 177 1 1 5 := ⟨fun a w => by kernel_rfl, fun cs w => by kernel_rfl⟩
instance : BldT Tryz.prog 177 [(0, 1), (1, 1)] [.int .u8 0, .int .u8 0] := ⟨fun parts => by kernel_rfl⟩
instance : TyT Tryz.prog 178 32 true := ⟨fun w => Tryz.isAgg178 w, fun w => Tryz.sizeOf178 w⟩
instance : MkI Tryz.prog 178 := ⟨fun v w => by kernel_rfl⟩
instance : ZvT Tryz.prog 178 (.agg #[.int .u8 0, .int .u8 0, .int .u8 0, .int .u8 0, .int .u8 0, .int .u8 0, .int .u8 0, .int .u8 0, .int .u8 0, .int .u8 0, .int .u8 0, .int .u8 0, .int .u8 0, .int .u8 0, .int .u8 0, .int .u8 0, .int .u8 0, .int .u8 0, .int .u8 0, .int .u8 0, .int .u8 0, .int .u8 0, .int .u8 0, .int .u8 0, .int .u8 0, .int .u8 0, .int .u8 0, .int .u8 0, .int .u8 0, .int .u8 0, .int .u8 0, .int .u8 0]) := ⟨fun w => Tryz.zeroValue178 w⟩
instance : ArT Tryz.prog 178 16 177 2 := ⟨Tryz.underlying178, fun w => Tryz.sizeOf177 w⟩
instance : TyT Tryz.prog 179 1 false := ⟨fun w => Tryz.isAgg179 w, fun w => Tryz.sizeOf179 w⟩
instance : MkI Tryz.prog 179 := ⟨fun v w => by kernel_rfl⟩
instance : ZvT Tryz.prog 179 (.pointer none) := ⟨fun w => Tryz.zeroValue179 w⟩
instance : TyT Tryz.prog 182 32 true := ⟨fun w => Tryz.isAgg182 w, fun w => Tryz.sizeOf182 w⟩
instance : MkI Tryz.prog 182 := ⟨fun v w => by kernel_rfl⟩
instance : ZvT Tryz.prog 182 (.agg #[.int .u8 0, .int .u8 0, .int .u8 0, .int .u8 0, .int .u8 0, .int .u8 0, .int .u8 0, .int .u8 0, .int .u8 0, .int .u8 0, .int .u8 0, .int .u8 0, .int .u8 0, .int .u8 0, .int .u8 0, .int .u8 0, .int .u8 0, .int .u8 0, .int .u8 0, .int .u8 0, .int .u8 0, .int .u8 0, .int .u8 0, .int .u8 0, .int .u8 0, .int .u8 0, .int .u8 0, .int .u8 0, .int .u8 0, .int .u8 0, .int .u8 0, .int .u8 0]) := ⟨fun w => Tryz.zeroValue182 w⟩
instance : ArT Tryz.prog 182 32 5 1 := ⟨Tryz.underlying182, fun w => Tryz.sizeOf5 w⟩
instance : TyT Tryz.prog 183 64 true := ⟨fun w => Tryz.isAgg183 w, fun w => Tryz.sizeOf183 w⟩
instance : MkI Tryz.prog 183 := ⟨fun v w => by kernel_rfl⟩
instance : ZvT Tryz.prog 183 (.agg #[.int .u8 0, .int .u8 0, .int .u8 0, .int .u8 0, .int .u8 0, .int .u8 0, .int .u8 0, .int .u8 0, .int .u8 0, .int .u8 0, .int .u8 0, .int .u8 0, .int .u8 0, .int .u8 0, .int .u8 0, .int .u8 0, .int .u8 0, .int .u8 0, .int .u8 0, .int .u8 0, .int .u8 0, .int .u8 0, .int .u8 0, .int .u8 0, .int .u8 0, .int .u8 0, .int .u8 0, .int .u8 0, .int .u8 0, .int .u8 0, .int .u8 0, .int .u8 0, .int .u8 0, .int .u8 0, .int .u8 0, .int .u8 0, .int .u8 0, .int .u8 0, .int .u8 0, .int .u8 0, .int .u8 0, .int .u8 0, .int .u8 0, .int .u8 0, .int .u8 0, .int .u8 0, .int .u8 0, .int .u8 0, .int .u8 0, .int .u8 0, .int .u8 0, .int .u8 0, .int .u8 0, .int .u8 0, .int .u8 0, .int .u8 0, .int .u8 0, .int .u8 0, .int .u8 0, .int .u8 0, .int .u8 0, .int .u8 0, .int .u8 0, .int .u8 0]) := ⟨fun w => Tryz.zeroValue183 w⟩
instance : ArT Tryz.prog 183 64 5 1 := ⟨Tryz.underlying183, fun w => Tryz.sizeOf5 w⟩
instance : TyT Tryz.prog 184 4 true := ⟨fun w => Tryz.isAgg184 w, fun w => Tryz.sizeOf184 w⟩
instance : MkI Tryz.prog 184 := ⟨fun v w => by kernel_rfl⟩
instance : ZvT Tryz.prog 184 (.agg #[.pointer none, .pointer none, .pointer none, .string ⟨#[]⟩]) := ⟨fun w => Tryz.zeroValue184 w⟩
instance : FdT Tryz.prog 184 0 0 17 := ⟨fun a w => by kernel_rfl, fun cs w => by kernel_rfl⟩
instance : FdT Tryz.prog 184 1 1 17 := ⟨fun a w => by kernel_rfl, fun cs w => by kernel_rfl⟩
instance : FdT Tryz.prog 184 2 2 17 := ⟨fun a w => by kernel_rfl, fun cs w => by kernel_rfl⟩
instance : FdT Tryz.prog 184 3 3 9 := ⟨fun a w => by kernel_rfl, fun cs w => by kernel_rfl⟩
instance : BldT Tryz.prog 184 [(0, 1), (1, 1), (2, 1), (3, 1)] [.pointer none, .pointer none, .pointer none, .string ⟨#[]⟩] := ⟨fun parts => by kernel_rfl⟩
instance : TyT Tryz.prog 185 4 true := ⟨fun w => Tryz.isAgg185 w, fun w => Tryz.sizeOf185 w⟩
instance : MkI Tryz.prog 185 := ⟨fun v w => by kernel_rfl⟩
instance : ZvT Tryz.prog 185 (.agg #[.pointer none, .pointer none, .pointer none, .string ⟨#[]⟩]) := ⟨fun w => Tryz.zeroValue185 w⟩
instance : FdT Tryz.prog 185 0 0 17 := ⟨fun a w => by kernel_rfl, fun cs w => by kernel_rfl⟩
instance : FdT Tryz.prog 185 1 1 17 := ⟨fun a w => by kernel_rfl, fun cs w => by kernel_rfl⟩
instance : FdT Tryz.prog 185 2 2 17 := ⟨fun a w => by kernel_rfl, fun cs w => by kernel_rfl⟩
instance : FdT Tryz.prog 185 3 3 9 := ⟨fun a w => by kernel_rfl, fun cs w => by kernel_rfl⟩
instance : BldT Tryz.prog 185 [(0, 1), (1, 1), (2, 1), (3, 1)] [.pointer none, .pointer none, .pointer none, .string ⟨#[]⟩] := ⟨fun parts => by kernel_rfl⟩
instance : TyT Tryz.prog 186 0 true := ⟨fun w => Tryz.isAgg186 w, fun w => Tryz.sizeOf186 w⟩
instance : MkI Tryz.prog 186 := ⟨fun v w => by kernel_rfl⟩
instance : ZvT Tryz.prog 186 (.agg #[]) := ⟨fun w => Tryz.zeroValue186 w⟩
instance : ArT Tryz.prog 186 0 16 1 := ⟨Tryz.underlying186, fun w => Tryz.sizeOf16 w⟩
instance : TyT Tryz.prog 187 0 true := ⟨fun w => Tryz.isAgg187 w, fun w => Tryz.sizeOf187 w⟩
instance : MkI Tryz.prog 187 := ⟨fun v w => by kernel_rfl⟩
instance : ZvT Tryz.prog 187 (.agg #[]) := ⟨fun w => Tryz.zeroValue187 w⟩
instance : BldT Tryz.prog 187 [(0, 0)] [] := ⟨fun parts => by kernel_rfl⟩
instance : TyT Tryz.prog 188 0 true := ⟨fun w => Tryz.isAgg188 w, fun w => Tryz.sizeOf188 w⟩
instance : MkI Tryz.prog 188 := ⟨fun v w => by kernel_rfl⟩
instance : ZvT Tryz.prog 188 (.agg #[]) := ⟨fun w => Tryz.zeroValue188 w⟩
instance : BldT Tryz.prog 188 [(0, 0)] [] := ⟨fun parts => by kernel_rfl⟩
instance : TyT Tryz.prog 191 1 false := ⟨fun w => Tryz.isAgg191 w, fun w => Tryz.sizeOf191 w⟩
instance : MkI Tryz.prog 191 := ⟨fun v w => by kernel_rfl⟩
instance : IntT Tryz.prog 191 .u8 := ⟨Tryz.underlying191⟩
instance : ZvT Tryz.prog 191 (.int .u8 0) := ⟨fun w => Tryz.zeroValue191 w⟩
instance : TyT Tryz.prog 193 1 false := ⟨fun w => Tryz.isAgg193 w, fun w => Tryz.sizeOf193 w⟩
instance : MkI Tryz.prog 193 := ⟨fun v w => by kernel_rfl⟩
instance : IntT Tryz.prog 193 .i32 := ⟨Tryz.underlying193⟩
instance : ZvT Tryz.prog 193 (.int .i32 0) := ⟨fun w => Tryz.zeroValue193 w⟩
instance : TyT Tryz.prog 194 1 false := ⟨fun w => Tryz.isAgg194 w, fun w => Tryz.sizeOf194 w⟩
instance : MkI Tryz.prog 194 := ⟨fun v w => by kernel_rfl⟩
instance : IntT Tryz.prog 194 .i32 := ⟨Tryz.underlying194⟩
instance : ZvT Tryz.prog 194 (.int .i32 0) := ⟨fun w => Tryz.zeroValue194 w⟩
instance : TyT Tryz.prog 195 11 true := ⟨fun w => Tryz.isAgg195 w, fun w => Tryz.sizeOf195 w⟩
instance : MkI Tryz.prog 195 := ⟨fun v w => by kernel_rfl⟩
instance : ZvT Tryz.prog 195 (.agg #[.int .u64 0, .int .u64 0, .int .u32 0, .int .u8 0, .int .u8 0, .int .u8 0, .int .u8 0, .nilFunc, .pointer none, .int .i32 0, .int .i32 0]) := ⟨fun w => Tryz.zeroValue195 w⟩
instance : FdT Tryz.prog 195 0 0 12 := ⟨fun a w => by kernel_rfl, fun cs w => by kernel_rfl⟩
instance : FdT Tryz.prog 195 1 1 12 := ⟨fun a w => by kernel_rfl, fun cs w => by kernel_rfl⟩
instance : FdT Tryz.prog 195 2 2 158 := ⟨fun a w => by kernel_rfl, fun cs w => by kernel_rfl⟩
instance : FdT Tryz.prog 195 3 3 191 := ⟨fun a w => by kernel_rfl, fun cs w => by kernel_rfl⟩
instance : FdT Tryz.prog 195 4 4 5 := ⟨fun a w => by kernel_rfl, fun cs w => by kernel_rfl⟩
instance : FdT Tryz.prog 195 5 5 5 := ⟨fun a w => by kernel_rfl, fun cs w => by kernel_rfl⟩
instance : FdT Tryz.prog 195 6 6 103 := ⟨fun a w => by kernel_rfl, fun cs w => by kernel_rfl⟩
instance : FdT Tryz.prog 195 8 8 94 := ⟨fun a w => by kernel_rfl, fun cs w => by kernel_rfl⟩
instance : FdT Tryz.prog 195 9 9 193 := ⟨fun a w => by kernel_rfl, fun cs w => by kernel_rfl⟩
instance : FdT Tryz.prog 195 10 10 194 := ⟨fun a w => by kernel_rfl, fun cs w => by kernel_rfl⟩
instance : TyT Tryz.prog 196 11 true := ⟨fun w => Tryz.isAgg196 w, fun w => Tryz.sizeOf196 w⟩
instance : MkI Tryz.prog 196 := ⟨fun v w => by kernel_rfl⟩
instance : ZvT Tryz.prog 196 (.agg #[.int .u64 0, .int .u64 0, .int .u32 0, .int .u8 0, .int .u8 0, .int .u8 0, .int .u8 0, .nilFunc, .pointer none, .int .i32 0, .int .i32 0]) := ⟨fun w => Tryz.zeroValue196 w⟩
instance : FdT Tryz.prog 196 0 0 12 := ⟨fun a w => by kernel_rfl, fun cs w => by kernel_rfl⟩
instance : FdT Tryz.prog 196 1 1 12 := ⟨fun a w => by kernel_rfl, fun cs w => by kernel_rfl⟩
instance : FdT Tryz.prog 196 2 2 158 := ⟨fun a w => by kernel_rfl, fun cs w => by kernel_rfl⟩
instance : FdT Tryz.prog 196 3 3 191 := ⟨fun a w => by kernel_rfl, fun cs w => by kernel_rfl⟩
instance : FdT Tryz.prog 196 4 4 5 := ⟨fun a w => by kernel_rfl, fun cs w => by kernel_rfl⟩
instance : FdT Tryz.prog 196 5 5 5 := ⟨fun a w => by kernel_rfl, fun cs w => by kernel_rfl⟩
instance : FdT Tryz.prog 196 6 6 103 := ⟨fun a w => by kernel_rfl, fun cs w => by kernel_rfl⟩
instance : FdT Tryz.prog 196 8 8 94 := ⟨fun a w => by kernel_rfl, fun cs w => by kernel_rfl⟩
instance : FdT Tryz.prog 196 9 9 193 := ⟨fun a w => by kernel_rfl, fun cs w => by kernel_rfl⟩
instance : FdT Tryz.prog 196 10 10 194 := ⟨fun a w => by kernel_rfl, fun cs w => by kernel_rfl⟩
instance : TyT Tryz.prog 199 2 true := ⟨fun w => Tryz.isAgg199 w, fun w => Tryz.sizeOf199 w⟩
instance : MkI Tryz.prog 199 := ⟨fun v w => by kernel_rfl⟩
instance : ZvT Tryz.prog 199 (.agg #[.string ⟨#[]⟩, .int .u8 0]) := ⟨fun w => Tryz.zeroValue199 w⟩
instance : FdT Tryz.prog 199 0 0 9 := ⟨fun a w => by kernel_rfl, fun cs w => by kernel_rfl⟩
instance : FdT Tryz.prog 199 1 1 103 := ⟨fun a w => by kernel_rfl, fun cs w => by kernel_rfl⟩
instance : BldT Tryz.prog 199 [(0, 1), (1, 1)] [.string ⟨#[]⟩, .int .u8 0] := ⟨fun parts => by kernel_rfl⟩
instance : TyT Tryz.prog 200 2 true := ⟨fun w => Tryz.isAgg200 w, fun w => Tryz.sizeOf200 w⟩
instance : MkI Tryz.prog 200 := ⟨fun v w => by kernel_rfl⟩
instance : ZvT Tryz.prog 200 (.agg #[.string ⟨#[]⟩, .int .u8 0]) := ⟨fun w => Tryz.zeroValue200 w⟩
instance : FdT Tryz.prog 200 0 0 9 := ⟨fun a w => by kernel_rfl, fun cs w => by kernel_rfl⟩
instance : FdT Tryz.prog 200 1 1 103 := ⟨fun a w => by kernel_rfl, fun cs w => by kernel_rfl⟩
instance : BldT Tryz.prog 200 [(0, 1), (1, 1)] [.string ⟨#[]⟩, .int .u8 0] := ⟨fun parts => by kernel_rfl⟩
instance : TyT Tryz.prog 201 1 false := ⟨fun w => Tryz.isAgg201 w, fun w => Tryz.sizeOf201 w⟩
instance : MkI Tryz.prog 201 := ⟨fun v w => by kernel_rfl⟩
instance : ZvT Tryz.prog 201 (.pointer none) := ⟨fun w => Tryz.zeroValue201 w⟩
instance : TyT Tryz.prog 203 1 false := ⟨fun w => Tryz.isAgg203 w, fun w => Tryz.sizeOf203 w⟩
instance : MkI Tryz.prog 203 := ⟨fun v w => by kernel_rfl⟩
instance : IntT Tryz.prog 203 .u16 := ⟨Tryz.underlying203⟩
instance : ZvT Tryz.prog 203 (.int .u16 0) := ⟨fun w => Tryz.zeroValue203 w⟩
instance : TyT Tryz.prog 204 5 true := ⟨fun w => Tryz.isAgg204 w, fun w => Tryz.sizeOf204 w⟩
instance : MkI Tryz.prog 204 := ⟨fun v w => by kernel_rfl⟩
instance : ZvT Tryz.prog 204 (.agg #[.int .i32 0, .int .u16 0, .int .u16 0, .int .u32 0, .int .u32 0]) := ⟨fun w => Tryz.zeroValue204 w⟩
instance : FdT Tryz.prog 204 0 0 193 := ⟨fun a w => by kernel_rfl, fun cs w => by kernel_rfl⟩
instance : FdT Tryz.prog 204 1 1 203 := ⟨fun a w => by kernel_rfl, fun cs w => by kernel_rfl⟩
instance : FdT Tryz.prog 204 2 2 203 := ⟨fun a w => by kernel_rfl, fun cs w => by kernel_rfl⟩
instance : FdT Tryz.prog 204 3 3 158 := ⟨fun a w => by kernel_rfl, fun cs w => by kernel_rfl⟩
instance : FdT Tryz.prog 204 4 4 158 := ⟨fun a w => by kernel_rfl, fun cs w => by kernel_rfl⟩
instance : BldT Tryz.prog 204 [(0, 1), (1, 1), (2, 1), (3, 1), (4, 1)] [.int .i32 0, .int .u16 0, .int .u16 0, .int .u32 0, .int .u32 0] := ⟨fun parts => by kernel_rfl⟩
instance : TyT Tryz.prog 205 5 true := ⟨fun w => Tryz.isAgg205 w, fun w => Tryz.sizeOf205 w⟩
instance : MkI Tryz.prog 205 := ⟨fun v w => by kernel_rfl⟩
instance : ZvT Tryz.prog 205 (.agg #[.int .i32 0, .int .u16 0, .int .u16 0, .int .u32 0, .int .u32 0]) := ⟨fun w => Tryz.zeroValue205 w⟩
instance : FdT Tryz.prog 205 0 0 193 := ⟨fun a w => by kernel_rfl, fun cs w => by kernel_rfl⟩
instance : FdT Tryz.prog 205 1 1 203 := ⟨fun a w => by kernel_rfl, fun cs w => by kernel_rfl⟩
instance : FdT Tryz.prog 205 2 2 203 := ⟨fun a w => by kernel_rfl, fun cs w => by kernel_rfl⟩
instance : FdT Tryz.prog 205 3 3 158 := ⟨fun a w => by kernel_rfl, fun cs w => by kernel_rfl⟩
instance : FdT Tryz.prog 205 4 4 158 := ⟨fun a w => by kernel_rfl, fun cs w => by kernel_rfl⟩
instance : BldT Tryz.prog 205 [(0, 1), (1, 1), (2, 1), (3, 1), (4, 1)] [.int .i32 0, .int .u16 0, .int .u16 0, .int .u32 0, .int .u32 0] := ⟨fun parts => by kernel_rfl⟩
instance : TyT Tryz.prog 206 1 false := ⟨fun w => Tryz.isAgg206 w, fun w => Tryz.sizeOf206 w⟩
instance : MkI Tryz.prog 206 := ⟨fun v w => by kernel_rfl⟩
instance : ZvT Tryz.prog 206 (.slice none 0 0) := ⟨fun w => Tryz.zeroValue206 w⟩
instance : SlT Tryz.prog 206 209 4 16 (.agg #[.int .i32 0, .int .i32 0, .int .i32 0, .int .i32 0]) := ⟨by kernel_rfl, by kernel_rfl, rfl, by decide, by decide⟩
instance : TyT Tryz.prog 207 1 false := ⟨fun w => Tryz.isAgg207 w, fun w => Tryz.sizeOf207 w⟩
instance : MkI Tryz.prog 207 := ⟨fun v w => by kernel_rfl⟩
instance : IntT Tryz.prog 207 .i32 := ⟨Tryz.underlying207⟩
instance : ZvT Tryz.prog 207 (.int .i32 0) := ⟨fun w => Tryz.zeroValue207 w⟩
instance : TyT Tryz.prog 208 4 true := ⟨fun w => Tryz.isAgg208 w, fun w => Tryz.sizeOf208 w⟩
instance : MkI Tryz.prog 208 := ⟨fun v w => by kernel_rfl⟩
instance : ZvT Tryz.prog 208 (.agg #[.int .i32 0, .int .i32 0, .int .i32 0, .int .i32 0]) := ⟨fun w => Tryz.zeroValue208 w⟩
instance : FdT Tryz.prog 208 0 0 193 := ⟨fun a w => by kernel_rfl, fun cs w => by kernel_rfl⟩
instance : FdT Tryz.prog 208 1 1 194 := ⟨fun a w => by kernel_rfl, fun cs w => by kernel_rfl⟩
instance : FdT Tryz.prog 208 2 2 207 := ⟨fun a w => by kernel_rfl, fun cs w => by kernel_rfl⟩
instance : FdT Tryz.prog 208 3 3 207 := ⟨fun a w => by kernel_rfl, fun cs w => by kernel_rfl⟩
instance : BldT Tryz.prog 208 [(0, 1), (1, 1), (2, 1), (3, 1)] [.int .i32 0, .int .i32 0, .int .i32 0, .int .i32 0] := ⟨fun parts => by kernel_rfl⟩
instance : TyT Tryz.prog 209 4 true := ⟨fun w => Tryz.isAgg209 w, fun w => Tryz.sizeOf209 w⟩
instance : MkI Tryz.prog 209 := ⟨fun v w => by kernel_rfl⟩
instance : ZvT Tryz.prog 209 (.agg #[.int .i32 0, .int .i32 0, .int .i32 0, .int .i32 0]) := ⟨fun w => Tryz.zeroValue209 w⟩
instance : FdT Tryz.prog 209 0 0 193 := ⟨fun a w => by kernel_rfl, fun cs w => by kernel_rfl⟩
instance : FdT Tryz.prog 209 1 1 194 := ⟨fun a w => by kernel_rfl, fun cs w => by kernel_rfl⟩
instance : FdT Tryz.prog 209 2 2 207 := ⟨fun a w => by kernel_rfl, fun cs w => by kernel_rfl⟩
instance : FdT Tryz.prog 209 3 3 207 := ⟨fun a w => by kernel_rfl, fun cs w => by kernel_rfl⟩
instance : BldT Tryz.prog 209 [(0, 1), (1, 1), (2, 1), (3, 1)] [.int .i32 0, .int .i32 0, .int .i32 0, .int .i32 0] := ⟨fun parts => by kernel_rfl⟩
instance : TyT Tryz.prog 210 1 false := ⟨fun w => Tryz.isAgg210 w, fun w => Tryz.sizeOf210 w⟩
instance : MkI Tryz.prog 210 := ⟨fun v w => by kernel_rfl⟩
instance : ZvT Tryz.prog 210 (.pointer none) := ⟨fun w => Tryz.zeroValue210 w⟩
/- Functions with a body. -/
instance : CalT Tryz.prog 2 := ⟨fun args w => Tryz.call2 args w⟩
instance : CalT Tryz.prog 3 := ⟨fun args w => Tryz.call3 args w⟩
instance : CalT Tryz.prog 4 := ⟨fun args w => Tryz.call4 args w⟩
instance : CalT Tryz.prog 5 := ⟨fun args w => Tryz.call5 args w⟩
instance : CalT Tryz.prog 6 := ⟨fun args w => Tryz.call6 args w⟩
instance : CalT Tryz.prog 7 := ⟨fun args w => Tryz.call7 args w⟩
instance : CalT Tryz.prog 8 := ⟨fun args w => Tryz.call8 args w⟩
instance : CalT Tryz.prog 9 := ⟨fun args w => Tryz.call9 args w⟩
instance : CalT Tryz.prog 10 := ⟨fun args w => Tryz.call10 args w⟩
instance : CalT Tryz.prog 11 := ⟨fun args w => Tryz.call11 args w⟩
instance : CalT Tryz.prog 12 := ⟨fun args w => Tryz.call12 args w⟩
instance : CalT Tryz.prog 13 := ⟨fun args w => Tryz.call13 args w⟩
instance : CalT Tryz.prog 14 := ⟨fun args w => Tryz.call14 args w⟩
instance : CalT Tryz.prog 15 := ⟨fun args w => Tryz.call15 args w⟩
instance : CalT Tryz.prog 16 := ⟨fun args w => Tryz.call16 args w⟩
instance : CalT Tryz.prog 17 := ⟨fun args w => Tryz.call17 args w⟩
instance : CalT Tryz.prog 18 := ⟨fun args w => Tryz.call18 args w⟩
instance : CalT Tryz.prog 19 := ⟨fun args w => Tryz.call19 args w⟩
instance : CalT Tryz.prog 20 := ⟨fun args w => Tryz.call20 args w⟩
instance : CalT Tryz.prog 21 := ⟨fun args w => Tryz.call21 args w⟩
instance : CalT Tryz.prog 22 := ⟨fun args w => Tryz.call22 args w⟩
instance : CalT Tryz.prog 23 := ⟨fun args w => Tryz.call23 args w⟩
instance : CalT Tryz.prog 24 := ⟨fun args w => Tryz.call24 args w⟩
instance : CalT Tryz.prog 25 := ⟨fun args w => Tryz.call25 args w⟩
instance : CalT Tryz.prog 26 := ⟨fun args w => Tryz.call26 args w⟩
instance : CalT Tryz.prog 27 := ⟨fun args w => Tryz.call27 args w⟩
instance : CalT Tryz.prog 28 := ⟨fun args w => Tryz.call28 args w⟩
instance : CalT Tryz.prog 29 := ⟨fun args w => Tryz.call29 args w⟩
instance : CalT Tryz.prog 30 := ⟨fun args w => Tryz.call30 args w⟩
instance : CalT Tryz.prog 31 := ⟨fun args w => Tryz.call31 args w⟩
instance : CalT Tryz.prog 32 := ⟨fun args w => Tryz.call32 args w⟩
instance : CalT Tryz.prog 33 := ⟨fun args w => Tryz.call33 args w⟩
instance : CalT Tryz.prog 34 := ⟨fun args w => Tryz.call34 args w⟩
instance : CalT Tryz.prog 35 := ⟨fun args w => Tryz.call35 args w⟩
instance : CalT Tryz.prog 36 := ⟨fun args w => Tryz.call36 args w⟩
instance : CalT Tryz.prog 37 := ⟨fun args w => Tryz.call37 args w⟩
instance : CalT Tryz.prog 38 := ⟨fun args w => Tryz.call38 args w⟩
instance : CalT Tryz.prog 39 := ⟨fun args w => Tryz.call39 args w⟩
instance : CalT Tryz.prog 40 := ⟨fun args w => Tryz.call40 args w⟩
instance : CalT Tryz.prog 41 := ⟨fun args w => Tryz.call41 args w⟩
instance : CalT Tryz.prog 42 := ⟨fun args w => Tryz.call42 args w⟩
instance : CalT Tryz.prog 43 := ⟨fun args w => Tryz.call43 args w⟩
instance : CalT Tryz.prog 44 := ⟨fun args w => Tryz.call44 args w⟩
instance : CalT Tryz.prog 45 := ⟨fun args w => Tryz.call45 args w⟩
instance : CalT Tryz.prog 46 := ⟨fun args w => Tryz.call46 args w⟩
instance : CalT Tryz.prog 47 := ⟨fun args w => Tryz.call47 args w⟩
instance : CalT Tryz.prog 48 := ⟨fun args w => Tryz.call48 args w⟩
instance : CalT Tryz.prog 49 := ⟨fun args w => Tryz.call49 args w⟩
instance : CalT Tryz.prog 50 := ⟨fun args w => Tryz.call50 args w⟩
instance : CalT Tryz.prog 51 := ⟨fun args w => Tryz.call51 args w⟩
instance : CalT Tryz.prog 52 := ⟨fun args w => Tryz.call52 args w⟩
instance : CalT Tryz.prog 53 := ⟨fun args w => Tryz.call53 args w⟩
instance : CalT Tryz.prog 54 := ⟨fun args w => Tryz.call54 args w⟩
instance : CalT Tryz.prog 55 := ⟨fun args w => Tryz.call55 args w⟩
instance : CalT Tryz.prog 56 := ⟨fun args w => Tryz.call56 args w⟩
instance : CalT Tryz.prog 57 := ⟨fun args w => Tryz.call57 args w⟩
instance : CalT Tryz.prog 58 := ⟨fun args w => Tryz.call58 args w⟩
instance : CalT Tryz.prog 59 := ⟨fun args w => Tryz.call59 args w⟩
instance : CalT Tryz.prog 60 := ⟨fun args w => Tryz.call60 args w⟩
instance : CalT Tryz.prog 61 := ⟨fun args w => Tryz.call61 args w⟩
instance : CalT Tryz.prog 62 := ⟨fun args w => Tryz.call62 args w⟩
instance : CalT Tryz.prog 63 := ⟨fun args w => Tryz.call63 args w⟩
instance : CalT Tryz.prog 64 := ⟨fun args w => Tryz.call64 args w⟩
instance : CalT Tryz.prog 65 := ⟨fun args w => Tryz.call65 args w⟩
instance : CalT Tryz.prog 66 := ⟨fun args w => Tryz.call66 args w⟩
instance : CalT Tryz.prog 67 := ⟨fun args w => Tryz.call67 args w⟩
instance : CalT Tryz.prog 68 := ⟨fun args w => Tryz.call68 args w⟩
instance : CalT Tryz.prog 69 := ⟨fun args w => Tryz.call69 args w⟩
instance : CalT Tryz.prog 70 := ⟨fun args w => Tryz.call70 args w⟩
instance : CalT Tryz.prog 71 := ⟨fun args w => Tryz.call71 args w⟩
instance : CalT Tryz.prog 72 := ⟨fun args w => Tryz.call72 args w⟩
instance : CalT Tryz.prog 73 := ⟨fun args w => Tryz.call73 args w⟩
instance : CalT Tryz.prog 74 := ⟨fun args w => Tryz.call74 args w⟩
instance : CalT Tryz.prog 78 := ⟨fun args w => Tryz.call78 args w⟩
instance : CalT Tryz.prog 79 := ⟨fun args w => Tryz.call79 args w⟩
instance : CalT Tryz.prog 80 := ⟨fun args w => Tryz.call80 args w⟩
instance : CalT Tryz.prog 81 := ⟨fun args w => Tryz.call81 args w⟩
instance : CalT Tryz.prog 82 := ⟨fun args w => Tryz.call82 args w⟩
instance : CalT Tryz.prog 83 := ⟨fun args w => Tryz.call83 args w⟩
instance : CalT Tryz.prog 84 := ⟨fun args w => Tryz.call84 args w⟩
instance : CalT Tryz.prog 85 := ⟨fun args w => Tryz.call85 args w⟩
instance : CalT Tryz.prog 86 := ⟨fun args w => Tryz.call86 args w⟩
instance : CalT Tryz.prog 87 := ⟨fun args w => Tryz.call87 args w⟩
instance : CalT Tryz.prog 88 := ⟨fun args w => Tryz.call88 args w⟩
instance : CalT Tryz.prog 89 := ⟨fun args w => Tryz.call89 args w⟩
instance : CalT Tryz.prog 90 := ⟨fun args w => Tryz.call90 args w⟩
instance : CalT Tryz.prog 91 := ⟨fun args w => Tryz.call91 args w⟩
instance : CalT Tryz.prog 92 := ⟨fun args w => Tryz.call92 args w⟩
instance : CalT Tryz.prog 93 := ⟨fun args w => Tryz.call93 args w⟩
instance : CalT Tryz.prog 94 := ⟨fun args w => Tryz.call94 args w⟩
instance : CalT Tryz.prog 100 := ⟨fun args w => Tryz.call100 args w⟩
instance : CalT Tryz.prog 101 := ⟨fun args w => Tryz.call101 args w⟩
instance : CalT Tryz.prog 103 := ⟨fun args w => Tryz.call103 args w⟩
instance : CalT Tryz.prog 104 := ⟨fun args w => Tryz.call104 args w⟩
instance : CalT Tryz.prog 105 := ⟨fun args w => Tryz.call105 args w⟩
instance : CalT Tryz.prog 106 := ⟨fun args w => Tryz.call106 args w⟩
instance : CalT Tryz.prog 108 := ⟨fun args w => Tryz.call108 args w⟩
instance : CalT Tryz.prog 109 := ⟨fun args w => Tryz.call109 args w⟩
instance : CalT Tryz.prog 110 := ⟨fun args w => Tryz.call110 args w⟩
instance : CalT Tryz.prog 111 := ⟨fun args w => Tryz.call111 args w⟩
instance : CalT Tryz.prog 112 := ⟨fun args w => Tryz.call112 args w⟩
instance : CalT Tryz.prog 113 := ⟨fun args w => Tryz.call113 args w⟩
instance : CalT Tryz.prog 114 := ⟨fun args w => Tryz.call114 args w⟩
instance : CalT Tryz.prog 115 := ⟨fun args w => Tryz.call115 args w⟩
instance : CalT Tryz.prog 116 := ⟨fun args w => Tryz.call116 args w⟩
instance : CalT Tryz.prog 117 := ⟨fun args w => Tryz.call117 args w⟩
instance : CalT Tryz.prog 118 := ⟨fun args w => Tryz.call118 args w⟩
instance : CalT Tryz.prog 119 := ⟨fun args w => Tryz.call119 args w⟩
instance : CalT Tryz.prog 120 := ⟨fun args w => Tryz.call120 args w⟩
instance : CalT Tryz.prog 121 := ⟨fun args w => Tryz.call121 args w⟩
instance : CalT Tryz.prog 122 := ⟨fun args w => Tryz.call122 args w⟩
instance : CalT Tryz.prog 123 := ⟨fun args w => Tryz.call123 args w⟩
instance : CalT Tryz.prog 124 := ⟨fun args w => Tryz.call124 args w⟩
instance : CalT Tryz.prog 125 := ⟨fun args w => Tryz.call125 args w⟩
instance : CalT Tryz.prog 126 := ⟨fun args w => Tryz.call126 args w⟩
instance : CalT Tryz.prog 128 := ⟨fun args w => Tryz.call128 args w⟩
instance : CalT Tryz.prog 129 := ⟨fun args w => Tryz.call129 args w⟩
instance : CalT Tryz.prog 130 := ⟨fun args w => Tryz.call130 args w⟩
instance : CalT Tryz.prog 131 := ⟨fun args w => Tryz.call131 args w⟩
instance : CalT Tryz.prog 132 := ⟨fun args w => Tryz.call132 args w⟩
instance : CalT Tryz.prog 133 := ⟨fun args w => Tryz.call133 args w⟩
instance : CalT Tryz.prog 134 := ⟨fun args w => Tryz.call134 args w⟩
instance : CalT Tryz.prog 135 := ⟨fun args w => Tryz.call135 args w⟩
instance : CalT Tryz.prog 136 := ⟨fun args w => Tryz.call136 args w⟩
instance : CalT Tryz.prog 161 := ⟨fun args w => Tryz.call161 args w⟩
instance : CalT Tryz.prog 185 := ⟨fun args w => Tryz.call185 args w⟩
end Go.Proofs.YtoelbnhjamddgaaGreatDoor
