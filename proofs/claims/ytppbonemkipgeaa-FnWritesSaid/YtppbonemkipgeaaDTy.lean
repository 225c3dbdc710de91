/- Facts on the types of the translation, each closed. Written by wip/tools/gen.py. -/
import Derived.Test.YtppbonemkipgeaaChecked
import Derived.Test.YtppbonemkipgeaaAbsCode
import Derived.KernelRfl
namespace Go.Proofs.Ytppbonemkipgeaa.Ty
open Go.Proofs.Try Go.Abs Go.Proofs
@[go_sem] theorem t_2 : prog.cellsOf 2 = 1 /\ tl prog 2 = some (false, 1) /\ te prog 2 = none /\ tz prog 2 = some [.int .i64 0] /\ tflat prog 2 = true /\ tbool prog 2 = false /\ tkind prog 2 = some .i64 := by and_intros <;> kernel_rfl
@[go_sem] theorem t_3 : prog.cellsOf 3 = 1 /\ tl prog 3 = some (false, 1) /\ te prog 3 = none /\ tz prog 3 = some [.int .i64 0] /\ tflat prog 3 = true /\ tbool prog 3 = false /\ tkind prog 3 = some .i64 := by and_intros <;> kernel_rfl
@[go_sem] theorem t_4 : prog.cellsOf 4 = 1 /\ tl prog 4 = some (false, 1) /\ te prog 4 = none /\ tz prog 4 = some [.bool false] /\ tflat prog 4 = true /\ tbool prog 4 = true := by and_intros <;> kernel_rfl
@[go_sem] theorem tc_5 : prog.cellsOf 5 = 1 := by kernel_rfl
@[go_sem] theorem t_5 : tl prog 5 = some (false, 1) /\ te prog 5 = none /\ tz prog 5 = some [.int .u8 0] /\ tflat prog 5 = true /\ tbool prog 5 = false /\ tkind prog 5 = some .u8 := by and_intros <;> kernel_rfl
@[go_sem] theorem t_24 : prog.cellsOf 24 = 1 /\ tl prog 24 = some (false, 1) /\ te prog 24 = some (3, 1, 8) /\ tz prog 24 = some [.sl 1 []] /\ tflat prog 24 = false /\ tbool prog 24 = false := by and_intros <;> kernel_rfl
@[go_sem] theorem te_26 : te prog 26 = some (56, 3, 24) := by kernel_rfl
@[go_sem] theorem t_26 : prog.cellsOf 26 = 1 /\ tl prog 26 = some (false, 1) /\ tz prog 26 = some [.sl 3 []] /\ tflat prog 26 = false /\ tbool prog 26 = false := by and_intros <;> kernel_rfl
@[go_sem] theorem t_33 : prog.cellsOf 33 = 1 /\ tl prog 33 = some (false, 1) /\ te prog 33 = some (5, 1, 1) /\ tz prog 33 = some [.sl 1 []] /\ tflat prog 33 = false /\ tbool prog 33 = false := by and_intros <;> kernel_rfl
@[go_sem] theorem te_35 : te prog 35 = some (77, 2, 16) := by kernel_rfl
@[go_sem] theorem t_35 : prog.cellsOf 35 = 1 /\ tl prog 35 = some (false, 1) /\ tz prog 35 = some [.sl 2 []] /\ tflat prog 35 = false /\ tbool prog 35 = false := by and_intros <;> kernel_rfl
@[go_sem] theorem t_43 : prog.cellsOf 43 = 1 /\ tl prog 43 = some (false, 1) /\ te prog 43 = some (84, 3, 24) /\ tz prog 43 = some [.sl 3 []] /\ tflat prog 43 = false /\ tbool prog 43 = false := by and_intros <;> kernel_rfl
@[go_sem] theorem t_55 : prog.cellsOf 55 = 3 /\ tl prog 55 = some (true, 3) /\ te prog 55 = none /\ tp prog 55 = some [(0, 1), (1, 1), (2, 1)] /\ tf prog 55 0 = some (0, false, 1) /\ tf prog 55 1 = some (1, false, 1) /\ tf prog 55 2 = some (2, false, 1) /\ tz prog 55 = some [.int .i64 0, .bool false, .int .i64 0] /\ tflat prog 55 = true /\ tbool prog 55 = false := by and_intros <;> kernel_rfl
@[go_sem] theorem t_56 : prog.cellsOf 56 = 3 /\ tl prog 56 = some (true, 3) /\ te prog 56 = none /\ tp prog 56 = some [(0, 1), (1, 1), (2, 1)] /\ tf prog 56 0 = some (0, false, 1) /\ tf prog 56 1 = some (1, false, 1) /\ tf prog 56 2 = some (2, false, 1) /\ teq prog 56 = some [0, 1, 0] /\ tz prog 56 = some [.int .i64 0, .bool false, .int .i64 0] /\ tflat prog 56 = true /\ tbool prog 56 = false := by and_intros <;> kernel_rfl
@[go_sem] theorem t_61 : prog.cellsOf 61 = 1 /\ tl prog 61 = some (false, 1) /\ te prog 61 = some (95, 2, 16) /\ tz prog 61 = some [.sl 2 []] /\ tflat prog 61 = false /\ tbool prog 61 = false := by and_intros <;> kernel_rfl
@[go_sem] theorem t_71 : prog.cellsOf 71 = 1 /\ tl prog 71 = some (false, 1) /\ te prog 71 = none /\ tbool prog 71 = false := by and_intros <;> kernel_rfl
@[go_sem] theorem t_76 : prog.cellsOf 76 = 2 /\ tl prog 76 = some (true, 2) /\ te prog 76 = none /\ tp prog 76 = some [(0, 1), (1, 1)] /\ tf prog 76 0 = some (0, false, 1) /\ tf prog 76 1 = some (1, false, 1) /\ tz prog 76 = some [.int .i64 0, .int .i64 0] /\ tflat prog 76 = true /\ tbool prog 76 = false := by and_intros <;> kernel_rfl
@[go_sem] theorem t_77 : prog.cellsOf 77 = 2 /\ tl prog 77 = some (true, 2) /\ te prog 77 = none /\ tp prog 77 = some [(0, 1), (1, 1)] /\ tf prog 77 0 = some (0, false, 1) /\ tf prog 77 1 = some (1, false, 1) /\ teq prog 77 = some [0, 0] /\ tz prog 77 = some [.int .i64 0, .int .i64 0] /\ tflat prog 77 = true /\ tbool prog 77 = false := by and_intros <;> kernel_rfl
@[go_sem] theorem t_83 : prog.cellsOf 83 = 3 /\ tl prog 83 = some (true, 3) /\ te prog 83 = none /\ tp prog 83 = some [(0, 1), (1, 1), (2, 1)] /\ tf prog 83 0 = some (0, false, 1) /\ tf prog 83 1 = some (1, false, 1) /\ tf prog 83 2 = some (2, false, 1) /\ tz prog 83 = some [.int .i64 0, .int .i64 0, .int .i64 0] /\ tflat prog 83 = true /\ tbool prog 83 = false := by and_intros <;> kernel_rfl
@[go_sem] theorem t_84 : prog.cellsOf 84 = 3 /\ tl prog 84 = some (true, 3) /\ te prog 84 = none /\ tp prog 84 = some [(0, 1), (1, 1), (2, 1)] /\ tf prog 84 0 = some (0, false, 1) /\ tf prog 84 1 = some (1, false, 1) /\ tf prog 84 2 = some (2, false, 1) /\ teq prog 84 = some [0, 0, 0] /\ tz prog 84 = some [.int .i64 0, .int .i64 0, .int .i64 0] /\ tflat prog 84 = true /\ tbool prog 84 = false := by and_intros <;> kernel_rfl
@[go_sem] theorem t_94 : prog.cellsOf 94 = 2 /\ tl prog 94 = some (true, 2) /\ te prog 94 = none /\ tp prog 94 = some [(0, 1), (1, 1)] /\ tf prog 94 0 = some (0, false, 1) /\ tf prog 94 1 = some (1, false, 1) /\ tz prog 94 = some [.int .i64 0, .int .i64 0] /\ tflat prog 94 = true /\ tbool prog 94 = false := by and_intros <;> kernel_rfl
@[go_sem] theorem t_95 : prog.cellsOf 95 = 2 /\ tl prog 95 = some (true, 2) /\ te prog 95 = none /\ tp prog 95 = some [(0, 1), (1, 1)] /\ tf prog 95 0 = some (0, false, 1) /\ tf prog 95 1 = some (1, false, 1) /\ teq prog 95 = some [0, 0] /\ tz prog 95 = some [.int .i64 0, .int .i64 0] /\ tflat prog 95 = true /\ tbool prog 95 = false := by and_intros <;> kernel_rfl
@[go_sem] theorem t_100 : prog.cellsOf 100 = 1 /\ tl prog 100 = some (false, 1) /\ te prog 100 = none /\ tz prog 100 = some [.int .u64 0] /\ tflat prog 100 = true /\ tbool prog 100 = false /\ tkind prog 100 = some .u64 := by and_intros <;> kernel_rfl
@[go_sem] theorem t_101 : prog.cellsOf 101 = 3 /\ tl prog 101 = some (true, 3) /\ te prog 101 = none /\ tp prog 101 = some [(0, 1), (1, 1), (2, 1)] /\ tf prog 101 0 = some (0, false, 1) /\ tf prog 101 1 = some (1, false, 1) /\ tf prog 101 2 = some (2, false, 1) /\ tz prog 101 = some [.sl 1 [], .int .i64 0, .int .i64 0] /\ tflat prog 101 = false /\ tbool prog 101 = false := by and_intros <;> kernel_rfl
@[go_sem] theorem t_102 : prog.cellsOf 102 = 3 /\ tl prog 102 = some (true, 3) /\ te prog 102 = none /\ tp prog 102 = some [(0, 1), (1, 1), (2, 1)] /\ tf prog 102 0 = some (0, false, 1) /\ tf prog 102 1 = some (1, false, 1) /\ tf prog 102 2 = some (2, false, 1) /\ tz prog 102 = some [.sl 1 [], .int .i64 0, .int .i64 0] /\ tflat prog 102 = false /\ tbool prog 102 = false := by and_intros <;> kernel_rfl
theorem e10 : enters prog 10 = true := by kernel_rfl
theorem e16 : enters prog 16 = true := by kernel_rfl
theorem e18 : enters prog 18 = true := by kernel_rfl
theorem e19 : enters prog 19 = true := by kernel_rfl
theorem e22 : enters prog 22 = true := by kernel_rfl
theorem e24 : enters prog 24 = true := by kernel_rfl
theorem e27 : enters prog 27 = true := by kernel_rfl
theorem e29 : enters prog 29 = true := by kernel_rfl
theorem e30 : enters prog 30 = true := by kernel_rfl
theorem e31 : enters prog 31 = true := by kernel_rfl
theorem e32 : enters prog 32 = true := by kernel_rfl
theorem e33 : enters prog 33 = true := by kernel_rfl
theorem e34 : enters prog 34 = true := by kernel_rfl
theorem e35 : enters prog 35 = true := by kernel_rfl
theorem e36 : enters prog 36 = true := by kernel_rfl
theorem e37 : enters prog 37 = true := by kernel_rfl
theorem e38 : enters prog 38 = true := by kernel_rfl
theorem e42 : enters prog 42 = true := by kernel_rfl
theorem e43 : enters prog 43 = true := by kernel_rfl
theorem e45 : enters prog 45 = true := by kernel_rfl
theorem e46 : enters prog 46 = true := by kernel_rfl
theorem e47 : enters prog 47 = true := by kernel_rfl
theorem e48 : enters prog 48 = true := by kernel_rfl
theorem e49 : enters prog 49 = true := by kernel_rfl
theorem e50 : enters prog 50 = true := by kernel_rfl
theorem e51 : enters prog 51 = true := by kernel_rfl
theorem e52 : enters prog 52 = true := by kernel_rfl
theorem e53 : enters prog 53 = true := by kernel_rfl
theorem e54 : enters prog 54 = true := by kernel_rfl
theorem e55 : enters prog 55 = true := by kernel_rfl
theorem e56 : enters prog 56 = true := by kernel_rfl
theorem e59 : enters prog 59 = true := by kernel_rfl
theorem e60 : enters prog 60 = true := by kernel_rfl
theorem e61 : enters prog 61 = true := by kernel_rfl
theorem e62 : enters prog 62 = true := by kernel_rfl
theorem e63 : enters prog 63 = true := by kernel_rfl
theorem e64 : enters prog 64 = true := by kernel_rfl
theorem e65 : enters prog 65 = true := by kernel_rfl
theorem e66 : enters prog 66 = true := by kernel_rfl
theorem e67 : enters prog 67 = true := by kernel_rfl
theorem e68 : enters prog 68 = true := by kernel_rfl
theorem e71 : enters prog 71 = true := by kernel_rfl
theorem e72 : enters prog 72 = true := by kernel_rfl
theorem e73 : enters prog 73 = true := by kernel_rfl
theorem e76 : enters prog 76 = true := by kernel_rfl
theorem o74 : isOverlaps prog 74 := ⟨f74, 35, 4, _, func74, by kernel_rfl, by kernel_rfl, by kernel_rfl, by kernel_rfl, te_35⟩
theorem o81 : isOverlaps prog 81 := ⟨f81, 26, 4, _, func81, by kernel_rfl, by kernel_rfl, by kernel_rfl, by kernel_rfl, te_26⟩
theorem mixed : prog.follows .mixedOrders = true := by kernel_rfl
end Go.Proofs.Ytppbonemkipgeaa.Ty
