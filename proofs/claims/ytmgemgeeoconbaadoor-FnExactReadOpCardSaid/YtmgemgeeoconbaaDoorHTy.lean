/- Facts on the types of the translation, each closed. Written by wip/tools/gen.py. -/
import Derived.Test.YtmgemgeeoconbaaDoorChecked
import Derived.Test.YtmgemgeeoconbaaDoorAbsCode
import Derived.KernelRfl
namespace Go.Proofs.YtmgemgeeoconbaaDoor.Ty
open Go.Proofs.Tryd Go.Abs Go.Proofs
@[go_sem] theorem t_3 : prog.cellsOf 3 = 1 /\ tl prog 3 = some (false, 1) /\ te prog 3 = none /\ tz prog 3 = some [.int .i64 0] /\ tflat prog 3 = true /\ tbool prog 3 = false /\ tkind prog 3 = some .i64 := by and_intros <;> kernel_rfl
@[go_sem] theorem t_4 : prog.cellsOf 4 = 1 /\ tl prog 4 = some (false, 1) /\ te prog 4 = none /\ tz prog 4 = some [.bool false] /\ tflat prog 4 = true /\ tbool prog 4 = true := by and_intros <;> kernel_rfl
@[go_sem] theorem t_5 : prog.cellsOf 5 = 1 /\ tl prog 5 = some (false, 1) /\ te prog 5 = none /\ tz prog 5 = some [.int .u8 0] /\ tflat prog 5 = true /\ tbool prog 5 = false /\ tkind prog 5 = some .u8 := by and_intros <;> kernel_rfl
@[go_sem] theorem t_9 : prog.cellsOf 9 = 1 /\ tl prog 9 = some (false, 1) /\ te prog 9 = none /\ tz prog 9 = some [.str .empty] /\ tflat prog 9 = true /\ tbool prog 9 = false /\ tstr prog 9 = true := by and_intros <;> kernel_rfl
@[go_sem] theorem t_22 : prog.cellsOf 22 = 3 /\ tl prog 22 = some (true, 3) /\ te prog 22 = none /\ tp prog 22 = some [(0, 1), (1, 1), (2, 1)] /\ tf prog 22 0 = some (0, false, 1) /\ tf prog 22 1 = some (1, false, 1) /\ tf prog 22 2 = some (2, false, 1) /\ tz prog 22 = some [.int .i64 0, .int .i64 0, .int .i64 0] /\ tflat prog 22 = true /\ tbool prog 22 = false := by and_intros <;> kernel_rfl
@[go_sem] theorem t_23 : prog.cellsOf 23 = 3 /\ tl prog 23 = some (true, 3) /\ te prog 23 = none /\ tp prog 23 = some [(0, 1), (1, 1), (2, 1)] /\ tf prog 23 0 = some (0, false, 1) /\ tf prog 23 1 = some (1, false, 1) /\ tf prog 23 2 = some (2, false, 1) /\ teq prog 23 = some [0, 0, 0] /\ tz prog 23 = some [.int .i64 0, .int .i64 0, .int .i64 0] /\ tflat prog 23 = true /\ tbool prog 23 = false := by and_intros <;> kernel_rfl
@[go_sem] theorem t_25 : prog.cellsOf 25 = 3 /\ tl prog 25 = some (true, 3) /\ te prog 25 = none /\ tp prog 25 = some [(0, 1), (1, 1), (2, 1)] /\ tf prog 25 0 = some (0, false, 1) /\ tf prog 25 1 = some (1, false, 1) /\ tf prog 25 2 = some (2, false, 1) /\ teq prog 25 = some [0, 0, 0] /\ tz prog 25 = some [.int .i64 0, .int .i64 0, .int .i64 0] /\ tflat prog 25 = true /\ tbool prog 25 = false := by and_intros <;> kernel_rfl
@[go_sem] theorem t_28 : prog.cellsOf 28 = 4 /\ tl prog 28 = some (true, 4) /\ te prog 28 = none /\ tp prog 28 = some [(0, 1), (1, 1), (2, 1), (3, 1)] /\ tf prog 28 0 = some (0, false, 1) /\ tf prog 28 1 = some (1, false, 1) /\ tf prog 28 2 = some (2, false, 1) /\ tf prog 28 3 = some (3, false, 1) /\ tz prog 28 = some [.int .i64 0, .int .i64 0, .int .i64 0, .int .i64 0] /\ tflat prog 28 = true /\ tbool prog 28 = false := by and_intros <;> kernel_rfl
@[go_sem] theorem t_29 : prog.cellsOf 29 = 4 /\ tl prog 29 = some (true, 4) /\ te prog 29 = none /\ tp prog 29 = some [(0, 1), (1, 1), (2, 1), (3, 1)] /\ tf prog 29 0 = some (0, false, 1) /\ tf prog 29 1 = some (1, false, 1) /\ tf prog 29 2 = some (2, false, 1) /\ tf prog 29 3 = some (3, false, 1) /\ teq prog 29 = some [0, 0, 0, 0] /\ tz prog 29 = some [.int .i64 0, .int .i64 0, .int .i64 0, .int .i64 0] /\ tflat prog 29 = true /\ tbool prog 29 = false := by and_intros <;> kernel_rfl
@[go_sem] theorem t_31 : prog.cellsOf 31 = 4 /\ tl prog 31 = some (true, 4) /\ te prog 31 = none /\ tp prog 31 = some [(0, 1), (1, 1), (2, 1), (3, 1)] /\ tf prog 31 0 = some (0, false, 1) /\ tf prog 31 1 = some (1, false, 1) /\ tf prog 31 2 = some (2, false, 1) /\ tf prog 31 3 = some (3, false, 1) /\ teq prog 31 = some [0, 0, 0, 0] /\ tz prog 31 = some [.int .i64 0, .int .i64 0, .int .i64 0, .int .i64 0] /\ tflat prog 31 = true /\ tbool prog 31 = false := by and_intros <;> kernel_rfl
@[go_sem] theorem t_34 : prog.cellsOf 34 = 1 /\ tl prog 34 = some (false, 1) /\ te prog 34 = some (23, 3, 24) /\ tz prog 34 = some [.sl 3 []] /\ tflat prog 34 = false /\ tbool prog 34 = false := by and_intros <;> kernel_rfl
@[go_sem] theorem t_35 : prog.cellsOf 35 = 2 /\ tl prog 35 = some (true, 2) /\ te prog 35 = none /\ tp prog 35 = some [(0, 1), (1, 1)] /\ tf prog 35 0 = some (0, false, 1) /\ tf prog 35 1 = some (1, false, 1) /\ tz prog 35 = some [.bool false, .sl 3 []] /\ tflat prog 35 = false /\ tbool prog 35 = false := by and_intros <;> kernel_rfl
@[go_sem] theorem t_36 : prog.cellsOf 36 = 2 /\ tl prog 36 = some (true, 2) /\ te prog 36 = none /\ tp prog 36 = some [(0, 1), (1, 1)] /\ tf prog 36 0 = some (0, false, 1) /\ tf prog 36 1 = some (1, false, 1) /\ tz prog 36 = some [.bool false, .sl 3 []] /\ tflat prog 36 = false /\ tbool prog 36 = false := by and_intros <;> kernel_rfl
@[go_sem] theorem t_39 : prog.cellsOf 39 = 1 /\ tl prog 39 = some (false, 1) /\ te prog 39 = some (25, 3, 24) /\ tz prog 39 = some [.sl 3 []] /\ tflat prog 39 = false /\ tbool prog 39 = false := by and_intros <;> kernel_rfl
@[go_sem] theorem t_40 : prog.cellsOf 40 = 2 /\ tl prog 40 = some (true, 2) /\ te prog 40 = none /\ tp prog 40 = some [(0, 1), (1, 1)] /\ tf prog 40 0 = some (0, false, 1) /\ tf prog 40 1 = some (1, false, 1) /\ tz prog 40 = some [.bool false, .sl 3 []] /\ tflat prog 40 = false /\ tbool prog 40 = false := by and_intros <;> kernel_rfl
@[go_sem] theorem t_41 : prog.cellsOf 41 = 2 /\ tl prog 41 = some (true, 2) /\ te prog 41 = none /\ tp prog 41 = some [(0, 1), (1, 1)] /\ tf prog 41 0 = some (0, false, 1) /\ tf prog 41 1 = some (1, false, 1) /\ tz prog 41 = some [.bool false, .sl 3 []] /\ tflat prog 41 = false /\ tbool prog 41 = false := by and_intros <;> kernel_rfl
@[go_sem] theorem t_56 : prog.cellsOf 56 = 1 /\ tl prog 56 = some (false, 1) /\ te prog 56 = some (9, 1, 16) /\ tz prog 56 = some [.sl 1 []] /\ tflat prog 56 = false /\ tbool prog 56 = false := by and_intros <;> kernel_rfl
@[go_sem] theorem t_70 : prog.cellsOf 70 = 3 /\ tl prog 70 = some (true, 3) /\ te prog 70 = none /\ ta prog 70 = some (3, 3, 1) /\ tp prog 70 = some [(0, 1), (1, 1), (2, 1)] /\ tz prog 70 = some [.int .i64 0, .int .i64 0, .int .i64 0] /\ tflat prog 70 = true /\ tbool prog 70 = false := by and_intros <;> kernel_rfl
@[go_sem] theorem t_76 : prog.cellsOf 76 = 1 /\ tl prog 76 = some (false, 1) /\ te prog 76 = some (5, 1, 1) /\ tz prog 76 = some [.sl 1 []] /\ tflat prog 76 = false /\ tbool prog 76 = false := by and_intros <;> kernel_rfl
@[go_sem] theorem t_77 : prog.cellsOf 77 = 1 /\ tl prog 77 = some (false, 1) /\ te prog 77 = some (3, 1, 8) /\ tz prog 77 = some [.sl 1 []] /\ tflat prog 77 = false /\ tbool prog 77 = false := by and_intros <;> kernel_rfl
@[go_sem] theorem t_78 : prog.cellsOf 78 = 7 /\ tl prog 78 = some (true, 7) /\ te prog 78 = none /\ ta prog 78 = some (7, 9, 1) /\ tp prog 78 = some [(0, 1), (1, 1), (2, 1), (3, 1), (4, 1), (5, 1), (6, 1)] /\ tz prog 78 = some [.str .empty, .str .empty, .str .empty, .str .empty, .str .empty, .str .empty, .str .empty] /\ tflat prog 78 = true /\ tbool prog 78 = false := by and_intros <;> kernel_rfl
@[go_sem] theorem t_116 : prog.cellsOf 116 = 1 /\ tl prog 116 = some (false, 1) /\ te prog 116 = none /\ tz prog 116 = some [.int .u64 0] /\ tflat prog 116 = true /\ tbool prog 116 = false /\ tkind prog 116 = some .u64 := by and_intros <;> kernel_rfl
@[go_sem] theorem t_135 : prog.cellsOf 135 = 20 /\ tl prog 135 = some (true, 20) /\ te prog 135 = none /\ ta prog 135 = some (20, 116, 1) /\ tp prog 135 = some [(0, 1), (1, 1), (2, 1), (3, 1), (4, 1), (5, 1), (6, 1), (7, 1), (8, 1), (9, 1), (10, 1), (11, 1), (12, 1), (13, 1), (14, 1), (15, 1), (16, 1), (17, 1), (18, 1), (19, 1)] /\ tz prog 135 = some [.int .u64 0, .int .u64 0, .int .u64 0, .int .u64 0, .int .u64 0, .int .u64 0, .int .u64 0, .int .u64 0, .int .u64 0, .int .u64 0, .int .u64 0, .int .u64 0, .int .u64 0, .int .u64 0, .int .u64 0, .int .u64 0, .int .u64 0, .int .u64 0, .int .u64 0, .int .u64 0] /\ tflat prog 135 = true /\ tbool prog 135 = false := by and_intros <;> kernel_rfl
theorem e2 : enters prog 2 = true := by kernel_rfl
theorem e4 : enters prog 4 = true := by kernel_rfl
theorem e5 : enters prog 5 = true := by kernel_rfl
theorem e12 : enters prog 12 = true := by kernel_rfl
theorem e14 : enters prog 14 = true := by kernel_rfl
theorem e23 : enters prog 23 = true := by kernel_rfl
theorem e24 : enters prog 24 = true := by kernel_rfl
theorem e25 : enters prog 25 = true := by kernel_rfl
theorem e31 : enters prog 31 = true := by kernel_rfl
theorem e33 : enters prog 33 = true := by kernel_rfl
theorem e34 : enters prog 34 = true := by kernel_rfl
theorem e35 : enters prog 35 = true := by kernel_rfl
theorem e36 : enters prog 36 = true := by kernel_rfl
theorem e37 : enters prog 37 = true := by kernel_rfl
theorem e38 : enters prog 38 = true := by kernel_rfl
theorem e45 : enters prog 45 = true := by kernel_rfl
theorem e46 : enters prog 46 = true := by kernel_rfl
theorem e47 : enters prog 47 = true := by kernel_rfl
theorem e48 : enters prog 48 = true := by kernel_rfl
theorem e53 : enters prog 53 = true := by kernel_rfl
theorem e54 : enters prog 54 = true := by kernel_rfl
theorem e55 : enters prog 55 = true := by kernel_rfl
theorem e61 : enters prog 61 = true := by kernel_rfl
theorem e63 : enters prog 63 = true := by kernel_rfl
theorem e64 : enters prog 64 = true := by kernel_rfl
theorem mixed : prog.follows .mixedOrders = true := by kernel_rfl
end Go.Proofs.YtmgemgeeoconbaaDoor.Ty
