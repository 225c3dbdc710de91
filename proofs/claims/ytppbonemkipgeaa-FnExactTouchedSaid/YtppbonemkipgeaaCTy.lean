/- Facts on the types of the translation, each closed. Written by wip/tools/gen.py. -/
import Derived.Test.YtppbonemkipgeaaChecked
import Derived.Test.YtppbonemkipgeaaAbsCode
import Derived.KernelRfl
namespace Go.Proofs.Ytppbonemkipgeaa.Ty
open Go.Proofs.Try Go.Abs Go.Proofs
@[go_sem] theorem t_3 : prog.cellsOf 3 = 1 /\ tl prog 3 = some (false, 1) /\ te prog 3 = none /\ tz prog 3 = some [.int .i64 0] /\ tflat prog 3 = true /\ tbool prog 3 = false /\ tkind prog 3 = some .i64 := by and_intros <;> kernel_rfl
@[go_sem] theorem t_4 : prog.cellsOf 4 = 1 /\ tl prog 4 = some (false, 1) /\ te prog 4 = none /\ tz prog 4 = some [.bool false] /\ tflat prog 4 = true /\ tbool prog 4 = true := by and_intros <;> kernel_rfl
@[go_sem] theorem t_22 : prog.cellsOf 22 = 1 /\ tl prog 22 = some (false, 1) /\ te prog 22 = some (67, 3, 24) /\ tz prog 22 = some [.sl 3 []] /\ tflat prog 22 = false /\ tbool prog 22 = false := by and_intros <;> kernel_rfl
@[go_sem] theorem t_24 : prog.cellsOf 24 = 1 /\ tl prog 24 = some (false, 1) /\ te prog 24 = some (3, 1, 8) /\ tz prog 24 = some [.sl 1 []] /\ tflat prog 24 = false /\ tbool prog 24 = false := by and_intros <;> kernel_rfl
@[go_sem] theorem t_26 : prog.cellsOf 26 = 1 /\ tl prog 26 = some (false, 1) /\ te prog 26 = some (56, 3, 24) /\ tz prog 26 = some [.sl 3 []] /\ tflat prog 26 = false /\ tbool prog 26 = false := by and_intros <;> kernel_rfl
@[go_sem] theorem t_55 : prog.cellsOf 55 = 3 /\ tl prog 55 = some (true, 3) /\ te prog 55 = none /\ tp prog 55 = some [(0, 1), (1, 1), (2, 1)] /\ tf prog 55 0 = some (0, false, 1) /\ tf prog 55 1 = some (1, false, 1) /\ tf prog 55 2 = some (2, false, 1) /\ tz prog 55 = some [.int .i64 0, .bool false, .int .i64 0] /\ tflat prog 55 = true /\ tbool prog 55 = false := by and_intros <;> kernel_rfl
@[go_sem] theorem t_56 : prog.cellsOf 56 = 3 /\ tl prog 56 = some (true, 3) /\ te prog 56 = none /\ tp prog 56 = some [(0, 1), (1, 1), (2, 1)] /\ tf prog 56 0 = some (0, false, 1) /\ tf prog 56 1 = some (1, false, 1) /\ tf prog 56 2 = some (2, false, 1) /\ teq prog 56 = some [0, 1, 0] /\ tz prog 56 = some [.int .i64 0, .bool false, .int .i64 0] /\ tflat prog 56 = true /\ tbool prog 56 = false := by and_intros <;> kernel_rfl
@[go_sem] theorem tc_67 : prog.cellsOf 67 = 3 := by kernel_rfl
@[go_sem] theorem t_67 : tl prog 67 = some (true, 3) /\ te prog 67 = none /\ tp prog 67 = some [(0, 1), (1, 1), (2, 1)] /\ tf prog 67 0 = some (0, false, 1) /\ tf prog 67 1 = some (1, false, 1) /\ tf prog 67 2 = some (2, false, 1) /\ teq prog 67 = some [0, 1, 0] /\ tz prog 67 = some [.int .i64 0, .bool false, .int .i64 0] /\ tflat prog 67 = true /\ tbool prog 67 = false := by and_intros <;> kernel_rfl
@[go_sem] theorem t_100 : prog.cellsOf 100 = 1 /\ tl prog 100 = some (false, 1) /\ te prog 100 = none /\ tz prog 100 = some [.int .u64 0] /\ tflat prog 100 = true /\ tbool prog 100 = false /\ tkind prog 100 = some .u64 := by and_intros <;> kernel_rfl
theorem e7 : enters prog 7 = true := by kernel_rfl
theorem e8 : enters prog 8 = true := by kernel_rfl
theorem e9 : enters prog 9 = true := by kernel_rfl
theorem e10 : enters prog 10 = true := by kernel_rfl
theorem e11 : enters prog 11 = true := by kernel_rfl
theorem e12 : enters prog 12 = true := by kernel_rfl
theorem e13 : enters prog 13 = true := by kernel_rfl
theorem e14 : enters prog 14 = true := by kernel_rfl
theorem e15 : enters prog 15 = true := by kernel_rfl
theorem e35 : enters prog 35 = true := by kernel_rfl
theorem e39 : enters prog 39 = true := by kernel_rfl
theorem e40 : enters prog 40 = true := by kernel_rfl
theorem e41 : enters prog 41 = true := by kernel_rfl
theorem e42 : enters prog 42 = true := by kernel_rfl
theorem e43 : enters prog 43 = true := by kernel_rfl
theorem e44 : enters prog 44 = true := by kernel_rfl
theorem e54 : enters prog 54 = true := by kernel_rfl
theorem e55 : enters prog 55 = true := by kernel_rfl
theorem mixed : prog.follows .mixedOrders = true := by kernel_rfl
end Go.Proofs.Ytppbonemkipgeaa.Ty
