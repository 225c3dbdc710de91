/- Facts on the types of the translation, each closed. Written by wip/tools/gen.py. -/
import Derived.Test.YtldpopbnlmoamaaGreatChecked
import Derived.Test.YtldpopbnlmoamaaGreatAbsCode
import Derived.KernelRfl
namespace Go.Proofs.YtldpopbnlmoamaaGreat.Ty
open Go.Proofs.Tryz Go.Abs Go.Proofs
@[go_sem] theorem tc_3 : prog.cellsOf 3 = 1 := by kernel_rfl
@[go_sem] theorem t_3 : tl prog 3 = some (false, 1) /\ te prog 3 = none /\ tz prog 3 = some [.int .i64 0] /\ tflat prog 3 = true /\ tbool prog 3 = false /\ tkind prog 3 = some .i64 := by and_intros <;> kernel_rfl
@[go_sem] theorem t_4 : prog.cellsOf 4 = 1 /\ tl prog 4 = some (false, 1) /\ te prog 4 = none /\ tz prog 4 = some [.bool false] /\ tflat prog 4 = true /\ tbool prog 4 = true := by and_intros <;> kernel_rfl
@[go_sem] theorem t_22 : prog.cellsOf 22 = 1 /\ tl prog 22 = some (false, 1) /\ te prog 22 = some (3, 1, 8) /\ tz prog 22 = some [.sl 1 []] /\ tflat prog 22 = false /\ tbool prog 22 = false := by and_intros <;> kernel_rfl
@[go_sem] theorem t_23 : prog.cellsOf 23 = 2 /\ tl prog 23 = some (true, 2) /\ te prog 23 = none /\ tp prog 23 = some [(0, 1), (1, 1)] /\ tf prog 23 0 = some (0, false, 1) /\ tf prog 23 1 = some (1, false, 1) /\ tz prog 23 = some [.sl 1 [], .sl 1 []] /\ tflat prog 23 = false /\ tbool prog 23 = false := by and_intros <;> kernel_rfl
@[go_sem] theorem t_24 : prog.cellsOf 24 = 2 /\ tl prog 24 = some (true, 2) /\ te prog 24 = none /\ tp prog 24 = some [(0, 1), (1, 1)] /\ tf prog 24 0 = some (0, false, 1) /\ tf prog 24 1 = some (1, false, 1) /\ tz prog 24 = some [.sl 1 [], .sl 1 []] /\ tflat prog 24 = false /\ tbool prog 24 = false := by and_intros <;> kernel_rfl
@[go_sem] theorem t_25 : prog.cellsOf 25 = 1 /\ tl prog 25 = some (false, 1) /\ te prog 25 = some (259, 1, 24) /\ tz prog 25 = some [.sl 1 []] /\ tflat prog 25 = false /\ tbool prog 25 = false := by and_intros <;> kernel_rfl
@[go_sem] theorem t_26 : prog.cellsOf 26 = 2 /\ tl prog 26 = some (true, 2) /\ te prog 26 = none /\ tp prog 26 = some [(0, 1), (1, 1)] /\ tf prog 26 0 = some (0, false, 1) /\ tf prog 26 1 = some (1, false, 1) /\ tz prog 26 = some [.sl 1 [], .sl 1 []] /\ tflat prog 26 = false /\ tbool prog 26 = false := by and_intros <;> kernel_rfl
@[go_sem] theorem t_27 : prog.cellsOf 27 = 2 /\ tl prog 27 = some (true, 2) /\ te prog 27 = none /\ tp prog 27 = some [(0, 1), (1, 1)] /\ tf prog 27 0 = some (0, false, 1) /\ tf prog 27 1 = some (1, false, 1) /\ tz prog 27 = some [.sl 1 [], .sl 1 []] /\ tflat prog 27 = false /\ tbool prog 27 = false := by and_intros <;> kernel_rfl
@[go_sem] theorem t_28 : prog.cellsOf 28 = 4 /\ tl prog 28 = some (true, 4) /\ te prog 28 = none /\ tp prog 28 = some [(0, 2), (2, 2)] /\ tf prog 28 0 = some (0, true, 2) /\ tf prog 28 1 = some (2, true, 2) /\ tz prog 28 = some [.sl 1 [], .sl 1 [], .sl 1 [], .sl 1 []] /\ tflat prog 28 = false /\ tbool prog 28 = false := by and_intros <;> kernel_rfl
@[go_sem] theorem t_29 : prog.cellsOf 29 = 4 /\ tl prog 29 = some (true, 4) /\ te prog 29 = none /\ tp prog 29 = some [(0, 2), (2, 2)] /\ tf prog 29 0 = some (0, true, 2) /\ tf prog 29 1 = some (2, true, 2) /\ tz prog 29 = some [.sl 1 [], .sl 1 [], .sl 1 [], .sl 1 []] /\ tflat prog 29 = false /\ tbool prog 29 = false := by and_intros <;> kernel_rfl
@[go_sem] theorem t_30 : prog.cellsOf 30 = 1 /\ tl prog 30 = some (false, 1) /\ te prog 30 = some (237, 4, 32) /\ tz prog 30 = some [.sl 4 []] /\ tflat prog 30 = false /\ tbool prog 30 = false := by and_intros <;> kernel_rfl
@[go_sem] theorem t_31 : prog.cellsOf 31 = 2 /\ tl prog 31 = some (true, 2) /\ te prog 31 = none /\ tp prog 31 = some [(0, 1), (1, 1)] /\ tf prog 31 0 = some (0, false, 1) /\ tf prog 31 1 = some (1, false, 1) /\ tz prog 31 = some [.int .i64 0, .sl 4 []] /\ tflat prog 31 = false /\ tbool prog 31 = false := by and_intros <;> kernel_rfl
@[go_sem] theorem t_32 : prog.cellsOf 32 = 2 /\ tl prog 32 = some (true, 2) /\ te prog 32 = none /\ tp prog 32 = some [(0, 1), (1, 1)] /\ tf prog 32 0 = some (0, false, 1) /\ tf prog 32 1 = some (1, false, 1) /\ tz prog 32 = some [.int .i64 0, .sl 4 []] /\ tflat prog 32 = false /\ tbool prog 32 = false := by and_intros <;> kernel_rfl
@[go_sem] theorem t_33 : prog.cellsOf 33 = 1 /\ tl prog 33 = some (false, 1) /\ te prog 33 = some (185, 1, 24) /\ tz prog 33 = some [.sl 1 []] /\ tflat prog 33 = false /\ tbool prog 33 = false := by and_intros <;> kernel_rfl
@[go_sem] theorem t_34 : prog.cellsOf 34 = 8 /\ tl prog 34 = some (true, 8) /\ te prog 34 = none /\ tp prog 34 = some [(0, 4), (4, 2), (6, 1), (7, 1)] /\ tf prog 34 0 = some (0, true, 4) /\ tf prog 34 1 = some (4, true, 2) /\ tf prog 34 2 = some (6, false, 1) /\ tf prog 34 3 = some (7, false, 1) /\ tz prog 34 = some [.sl 1 [], .sl 1 [], .sl 1 [], .sl 1 [], .int .i64 0, .sl 4 [], .sl 1 [], .sl 1 []] /\ tflat prog 34 = false /\ tbool prog 34 = false := by and_intros <;> kernel_rfl
@[go_sem] theorem t_35 : prog.cellsOf 35 = 8 /\ tl prog 35 = some (true, 8) /\ te prog 35 = none /\ tp prog 35 = some [(0, 4), (4, 2), (6, 1), (7, 1)] /\ tf prog 35 0 = some (0, true, 4) /\ tf prog 35 1 = some (4, true, 2) /\ tf prog 35 2 = some (6, false, 1) /\ tf prog 35 3 = some (7, false, 1) /\ tz prog 35 = some [.sl 1 [], .sl 1 [], .sl 1 [], .sl 1 [], .int .i64 0, .sl 4 [], .sl 1 [], .sl 1 []] /\ tflat prog 35 = false /\ tbool prog 35 = false := by and_intros <;> kernel_rfl
@[go_sem] theorem t_36 : prog.cellsOf 36 = 1 /\ tl prog 36 = some (false, 1) /\ te prog 36 = some (139, 3, 24) /\ tz prog 36 = some [.sl 3 []] /\ tflat prog 36 = false /\ tbool prog 36 = false := by and_intros <;> kernel_rfl
@[go_sem] theorem t_37 : prog.cellsOf 37 = 1 /\ tl prog 37 = some (false, 1) /\ te prog 37 = some (126, 32, 368) /\ tz prog 37 = some [.sl 32 []] /\ tflat prog 37 = false /\ tbool prog 37 = false := by and_intros <;> kernel_rfl
@[go_sem] theorem t_38 : prog.cellsOf 38 = 1 /\ tl prog 38 = some (false, 1) /\ te prog 38 = some (100, 1, 24) /\ tz prog 38 = some [.sl 1 []] /\ tflat prog 38 = false /\ tbool prog 38 = false := by and_intros <;> kernel_rfl
@[go_sem] theorem t_39 : prog.cellsOf 39 = 1 /\ tl prog 39 = some (false, 1) /\ te prog 39 = some (129, 6, 80) /\ tz prog 39 = some [.sl 6 []] /\ tflat prog 39 = false /\ tbool prog 39 = false := by and_intros <;> kernel_rfl
@[go_sem] theorem t_40 : prog.cellsOf 40 = 13 /\ tl prog 40 = some (true, 13) /\ te prog 40 = none /\ tp prog 40 = some [(0, 8), (8, 1), (9, 1), (10, 1), (11, 1), (12, 1)] /\ tf prog 40 0 = some (0, true, 8) /\ tf prog 40 1 = some (8, false, 1) /\ tf prog 40 2 = some (9, false, 1) /\ tf prog 40 3 = some (10, false, 1) /\ tf prog 40 4 = some (11, false, 1) /\ tf prog 40 5 = some (12, false, 1) /\ tz prog 40 = some [.sl 1 [], .sl 1 [], .sl 1 [], .sl 1 [], .int .i64 0, .sl 4 [], .sl 1 [], .sl 1 [], .sl 3 [], .sl 32 [], .sl 1 [], .sl 6 [], .int .i64 0] /\ tflat prog 40 = false /\ tbool prog 40 = false := by and_intros <;> kernel_rfl
@[go_sem] theorem t_41 : prog.cellsOf 41 = 13 /\ tl prog 41 = some (true, 13) /\ te prog 41 = none /\ tp prog 41 = some [(0, 8), (8, 1), (9, 1), (10, 1), (11, 1), (12, 1)] /\ tf prog 41 0 = some (0, true, 8) /\ tf prog 41 1 = some (8, false, 1) /\ tf prog 41 2 = some (9, false, 1) /\ tf prog 41 3 = some (10, false, 1) /\ tf prog 41 4 = some (11, false, 1) /\ tf prog 41 5 = some (12, false, 1) /\ tz prog 41 = some [.sl 1 [], .sl 1 [], .sl 1 [], .sl 1 [], .int .i64 0, .sl 4 [], .sl 1 [], .sl 1 [], .sl 3 [], .sl 32 [], .sl 1 [], .sl 6 [], .int .i64 0] /\ tflat prog 41 = false /\ tbool prog 41 = false := by and_intros <;> kernel_rfl
@[go_sem] theorem t_43 : prog.cellsOf 43 = 1 /\ tl prog 43 = some (false, 1) /\ te prog 43 = some (82, 6, 80) /\ tz prog 43 = some [.sl 6 []] /\ tflat prog 43 = false /\ tbool prog 43 = false := by and_intros <;> kernel_rfl
@[go_sem] theorem t_45 : prog.cellsOf 45 = 2 /\ tl prog 45 = some (true, 2) /\ te prog 45 = none /\ tp prog 45 = some [(0, 1), (1, 1)] /\ tf prog 45 0 = some (0, false, 1) /\ tf prog 45 1 = some (1, false, 1) /\ tz prog 45 = some [.sl 1 [], .sl 1 []] /\ tflat prog 45 = false /\ tbool prog 45 = false := by and_intros <;> kernel_rfl
@[go_sem] theorem t_46 : prog.cellsOf 46 = 1 /\ tl prog 46 = some (false, 1) /\ te prog 46 = some (260, 1, 24) /\ tz prog 46 = some [.sl 1 []] /\ tflat prog 46 = false /\ tbool prog 46 = false := by and_intros <;> kernel_rfl
@[go_sem] theorem t_47 : prog.cellsOf 47 = 2 /\ tl prog 47 = some (true, 2) /\ te prog 47 = none /\ tp prog 47 = some [(0, 1), (1, 1)] /\ tf prog 47 0 = some (0, false, 1) /\ tf prog 47 1 = some (1, false, 1) /\ tz prog 47 = some [.sl 1 [], .sl 1 []] /\ tflat prog 47 = false /\ tbool prog 47 = false := by and_intros <;> kernel_rfl
@[go_sem] theorem t_48 : prog.cellsOf 48 = 2 /\ tl prog 48 = some (true, 2) /\ te prog 48 = none /\ tp prog 48 = some [(0, 1), (1, 1)] /\ tf prog 48 0 = some (0, false, 1) /\ tf prog 48 1 = some (1, false, 1) /\ tz prog 48 = some [.sl 1 [], .sl 1 []] /\ tflat prog 48 = false /\ tbool prog 48 = false := by and_intros <;> kernel_rfl
@[go_sem] theorem t_49 : prog.cellsOf 49 = 4 /\ tl prog 49 = some (true, 4) /\ te prog 49 = none /\ tp prog 49 = some [(0, 2), (2, 2)] /\ tf prog 49 0 = some (0, true, 2) /\ tf prog 49 1 = some (2, true, 2) /\ tz prog 49 = some [.sl 1 [], .sl 1 [], .sl 1 [], .sl 1 []] /\ tflat prog 49 = false /\ tbool prog 49 = false := by and_intros <;> kernel_rfl
@[go_sem] theorem t_50 : prog.cellsOf 50 = 4 /\ tl prog 50 = some (true, 4) /\ te prog 50 = none /\ tp prog 50 = some [(0, 2), (2, 2)] /\ tf prog 50 0 = some (0, true, 2) /\ tf prog 50 1 = some (2, true, 2) /\ tz prog 50 = some [.sl 1 [], .sl 1 [], .sl 1 [], .sl 1 []] /\ tflat prog 50 = false /\ tbool prog 50 = false := by and_intros <;> kernel_rfl
@[go_sem] theorem t_51 : prog.cellsOf 51 = 1 /\ tl prog 51 = some (false, 1) /\ te prog 51 = some (235, 4, 32) /\ tz prog 51 = some [.sl 4 []] /\ tflat prog 51 = false /\ tbool prog 51 = false := by and_intros <;> kernel_rfl
@[go_sem] theorem t_52 : prog.cellsOf 52 = 2 /\ tl prog 52 = some (true, 2) /\ te prog 52 = none /\ tp prog 52 = some [(0, 1), (1, 1)] /\ tf prog 52 0 = some (0, false, 1) /\ tf prog 52 1 = some (1, false, 1) /\ tz prog 52 = some [.int .i64 0, .sl 4 []] /\ tflat prog 52 = false /\ tbool prog 52 = false := by and_intros <;> kernel_rfl
@[go_sem] theorem t_53 : prog.cellsOf 53 = 2 /\ tl prog 53 = some (true, 2) /\ te prog 53 = none /\ tp prog 53 = some [(0, 1), (1, 1)] /\ tf prog 53 0 = some (0, false, 1) /\ tf prog 53 1 = some (1, false, 1) /\ tz prog 53 = some [.int .i64 0, .sl 4 []] /\ tflat prog 53 = false /\ tbool prog 53 = false := by and_intros <;> kernel_rfl
@[go_sem] theorem t_54 : prog.cellsOf 54 = 1 /\ tl prog 54 = some (false, 1) /\ te prog 54 = some (196, 1, 24) /\ tz prog 54 = some [.sl 1 []] /\ tflat prog 54 = false /\ tbool prog 54 = false := by and_intros <;> kernel_rfl
@[go_sem] theorem t_55 : prog.cellsOf 55 = 8 /\ tl prog 55 = some (true, 8) /\ te prog 55 = none /\ tp prog 55 = some [(0, 4), (4, 2), (6, 1), (7, 1)] /\ tf prog 55 0 = some (0, true, 4) /\ tf prog 55 1 = some (4, true, 2) /\ tf prog 55 2 = some (6, false, 1) /\ tf prog 55 3 = some (7, false, 1) /\ tz prog 55 = some [.sl 1 [], .sl 1 [], .sl 1 [], .sl 1 [], .int .i64 0, .sl 4 [], .sl 1 [], .sl 1 []] /\ tflat prog 55 = false /\ tbool prog 55 = false := by and_intros <;> kernel_rfl
@[go_sem] theorem t_56 : prog.cellsOf 56 = 8 /\ tl prog 56 = some (true, 8) /\ te prog 56 = none /\ tp prog 56 = some [(0, 4), (4, 2), (6, 1), (7, 1)] /\ tf prog 56 0 = some (0, true, 4) /\ tf prog 56 1 = some (4, true, 2) /\ tf prog 56 2 = some (6, false, 1) /\ tf prog 56 3 = some (7, false, 1) /\ tz prog 56 = some [.sl 1 [], .sl 1 [], .sl 1 [], .sl 1 [], .int .i64 0, .sl 4 [], .sl 1 [], .sl 1 []] /\ tflat prog 56 = false /\ tbool prog 56 = false := by and_intros <;> kernel_rfl
@[go_sem] theorem t_57 : prog.cellsOf 57 = 1 /\ tl prog 57 = some (false, 1) /\ te prog 57 = some (137, 3, 24) /\ tz prog 57 = some [.sl 3 []] /\ tflat prog 57 = false /\ tbool prog 57 = false := by and_intros <;> kernel_rfl
@[go_sem] theorem t_58 : prog.cellsOf 58 = 1 /\ tl prog 58 = some (false, 1) /\ te prog 58 = some (147, 32, 368) /\ tz prog 58 = some [.sl 32 []] /\ tflat prog 58 = false /\ tbool prog 58 = false := by and_intros <;> kernel_rfl
@[go_sem] theorem t_59 : prog.cellsOf 59 = 1 /\ tl prog 59 = some (false, 1) /\ te prog 59 = some (106, 1, 24) /\ tz prog 59 = some [.sl 1 []] /\ tflat prog 59 = false /\ tbool prog 59 = false := by and_intros <;> kernel_rfl
@[go_sem] theorem t_60 : prog.cellsOf 60 = 13 /\ tl prog 60 = some (true, 13) /\ te prog 60 = none /\ tp prog 60 = some [(0, 8), (8, 1), (9, 1), (10, 1), (11, 1), (12, 1)] /\ tf prog 60 0 = some (0, true, 8) /\ tf prog 60 1 = some (8, false, 1) /\ tf prog 60 2 = some (9, false, 1) /\ tf prog 60 3 = some (10, false, 1) /\ tf prog 60 4 = some (11, false, 1) /\ tf prog 60 5 = some (12, false, 1) /\ tz prog 60 = some [.sl 1 [], .sl 1 [], .sl 1 [], .sl 1 [], .int .i64 0, .sl 4 [], .sl 1 [], .sl 1 [], .sl 3 [], .sl 32 [], .sl 1 [], .sl 6 [], .int .i64 0] /\ tflat prog 60 = false /\ tbool prog 60 = false := by and_intros <;> kernel_rfl
@[go_sem] theorem t_61 : prog.cellsOf 61 = 13 /\ tl prog 61 = some (true, 13) /\ te prog 61 = none /\ tp prog 61 = some [(0, 8), (8, 1), (9, 1), (10, 1), (11, 1), (12, 1)] /\ tf prog 61 0 = some (0, true, 8) /\ tf prog 61 1 = some (8, false, 1) /\ tf prog 61 2 = some (9, false, 1) /\ tf prog 61 3 = some (10, false, 1) /\ tf prog 61 4 = some (11, false, 1) /\ tf prog 61 5 = some (12, false, 1) /\ tz prog 61 = some [.sl 1 [], .sl 1 [], .sl 1 [], .sl 1 [], .int .i64 0, .sl 4 [], .sl 1 [], .sl 1 [], .sl 3 [], .sl 32 [], .sl 1 [], .sl 6 [], .int .i64 0] /\ tflat prog 61 = false /\ tbool prog 61 = false := by and_intros <;> kernel_rfl
@[go_sem] theorem t_79 : prog.cellsOf 79 = 1 /\ tl prog 79 = some (false, 1) /\ te prog 79 = some (151, 3, 24) /\ tz prog 79 = some [.sl 3 []] /\ tflat prog 79 = false /\ tbool prog 79 = false := by and_intros <;> kernel_rfl
@[go_sem] theorem t_80 : prog.cellsOf 80 = 1 /\ tl prog 80 = some (false, 1) /\ te prog 80 = some (153, 2, 16) /\ tz prog 80 = some [.sl 2 []] /\ tflat prog 80 = false /\ tbool prog 80 = false := by and_intros <;> kernel_rfl
@[go_sem] theorem t_81 : prog.cellsOf 81 = 6 /\ tl prog 81 = some (true, 6) /\ te prog 81 = none /\ tp prog 81 = some [(0, 1), (1, 1), (2, 1), (3, 1), (4, 1), (5, 1)] /\ tf prog 81 0 = some (0, false, 1) /\ tf prog 81 1 = some (1, false, 1) /\ tf prog 81 2 = some (2, false, 1) /\ tf prog 81 3 = some (3, false, 1) /\ tf prog 81 4 = some (4, false, 1) /\ tf prog 81 5 = some (5, false, 1) /\ tz prog 81 = some [.int .i64 0, .int .i64 0, .int .i64 0, .int .i64 0, .sl 3 [], .sl 2 []] /\ tflat prog 81 = false /\ tbool prog 81 = false := by and_intros <;> kernel_rfl
@[go_sem] theorem t_82 : prog.cellsOf 82 = 6 /\ tl prog 82 = some (true, 6) /\ te prog 82 = none /\ tp prog 82 = some [(0, 1), (1, 1), (2, 1), (3, 1), (4, 1), (5, 1)] /\ tf prog 82 0 = some (0, false, 1) /\ tf prog 82 1 = some (1, false, 1) /\ tf prog 82 2 = some (2, false, 1) /\ tf prog 82 3 = some (3, false, 1) /\ tf prog 82 4 = some (4, false, 1) /\ tf prog 82 5 = some (5, false, 1) /\ tz prog 82 = some [.int .i64 0, .int .i64 0, .int .i64 0, .int .i64 0, .sl 3 [], .sl 2 []] /\ tflat prog 82 = false /\ tbool prog 82 = false := by and_intros <;> kernel_rfl
@[go_sem] theorem t_98 : prog.cellsOf 98 = 1 /\ tl prog 98 = some (false, 1) /\ te prog 98 = some (117, 2, 32) /\ tz prog 98 = some [.sl 2 []] /\ tflat prog 98 = false /\ tbool prog 98 = false := by and_intros <;> kernel_rfl
@[go_sem] theorem t_99 : prog.cellsOf 99 = 1 /\ tl prog 99 = some (true, 1) /\ te prog 99 = none /\ tp prog 99 = some [(0, 1)] /\ tf prog 99 0 = some (0, false, 1) /\ tz prog 99 = some [.sl 2 []] /\ tflat prog 99 = false /\ tbool prog 99 = false := by and_intros <;> kernel_rfl
@[go_sem] theorem tc_100 : prog.cellsOf 100 = 1 := by kernel_rfl
@[go_sem] theorem t_100 : tl prog 100 = some (true, 1) /\ te prog 100 = none /\ tp prog 100 = some [(0, 1)] /\ tf prog 100 0 = some (0, false, 1) /\ tz prog 100 = some [.sl 2 []] /\ tflat prog 100 = false /\ tbool prog 100 = false := by and_intros <;> kernel_rfl
@[go_sem] theorem t_104 : prog.cellsOf 104 = 1 /\ tl prog 104 = some (false, 1) /\ te prog 104 = some (141, 2, 32) /\ tz prog 104 = some [.sl 2 []] /\ tflat prog 104 = false /\ tbool prog 104 = false := by and_intros <;> kernel_rfl
@[go_sem] theorem t_105 : prog.cellsOf 105 = 1 /\ tl prog 105 = some (true, 1) /\ te prog 105 = none /\ tp prog 105 = some [(0, 1)] /\ tf prog 105 0 = some (0, false, 1) /\ tz prog 105 = some [.sl 2 []] /\ tflat prog 105 = false /\ tbool prog 105 = false := by and_intros <;> kernel_rfl
@[go_sem] theorem t_106 : prog.cellsOf 106 = 1 /\ tl prog 106 = some (true, 1) /\ te prog 106 = none /\ tp prog 106 = some [(0, 1)] /\ tf prog 106 0 = some (0, false, 1) /\ tz prog 106 = some [.sl 2 []] /\ tflat prog 106 = false /\ tbool prog 106 = false := by and_intros <;> kernel_rfl
@[go_sem] theorem t_115 : prog.cellsOf 115 = 1 /\ tl prog 115 = some (false, 1) /\ te prog 115 = some (246, 3, 24) /\ tz prog 115 = some [.sl 3 []] /\ tflat prog 115 = false /\ tbool prog 115 = false := by and_intros <;> kernel_rfl
@[go_sem] theorem t_116 : prog.cellsOf 116 = 2 /\ tl prog 116 = some (true, 2) /\ te prog 116 = none /\ tp prog 116 = some [(0, 1), (1, 1)] /\ tf prog 116 0 = some (0, false, 1) /\ tf prog 116 1 = some (1, false, 1) /\ tz prog 116 = some [.bool false, .sl 3 []] /\ tflat prog 116 = false /\ tbool prog 116 = false := by and_intros <;> kernel_rfl
@[go_sem] theorem tc_117 : prog.cellsOf 117 = 2 := by kernel_rfl
@[go_sem] theorem t_117 : tl prog 117 = some (true, 2) /\ te prog 117 = none /\ tp prog 117 = some [(0, 1), (1, 1)] /\ tf prog 117 0 = some (0, false, 1) /\ tf prog 117 1 = some (1, false, 1) /\ tz prog 117 = some [.bool false, .sl 3 []] /\ tflat prog 117 = false /\ tbool prog 117 = false := by and_intros <;> kernel_rfl
@[go_sem] theorem t_118 : prog.cellsOf 118 = 3 /\ tl prog 118 = some (true, 3) /\ te prog 118 = none /\ tp prog 118 = some [(0, 1), (1, 1), (2, 1)] /\ tf prog 118 0 = some (0, false, 1) /\ tf prog 118 1 = some (1, false, 1) /\ tf prog 118 2 = some (2, false, 1) /\ tz prog 118 = some [.int .i64 0, .int .i64 0, .int .i64 0] /\ tflat prog 118 = true /\ tbool prog 118 = false := by and_intros <;> kernel_rfl
@[go_sem] theorem t_119 : prog.cellsOf 119 = 3 /\ tl prog 119 = some (true, 3) /\ te prog 119 = none /\ tp prog 119 = some [(0, 1), (1, 1), (2, 1)] /\ tf prog 119 0 = some (0, false, 1) /\ tf prog 119 1 = some (1, false, 1) /\ tf prog 119 2 = some (2, false, 1) /\ teq prog 119 = some [0, 0, 0] /\ tz prog 119 = some [.int .i64 0, .int .i64 0, .int .i64 0] /\ tflat prog 119 = true /\ tbool prog 119 = false := by and_intros <;> kernel_rfl
@[go_sem] theorem t_120 : prog.cellsOf 120 = 10 /\ tl prog 120 = some (true, 10) /\ te prog 120 = none /\ tp prog 120 = some [(0, 1), (1, 1), (2, 1), (3, 1), (4, 1), (5, 1), (6, 1), (7, 1), (8, 1), (9, 1)] /\ tf prog 120 0 = some (0, false, 1) /\ tf prog 120 1 = some (1, false, 1) /\ tf prog 120 2 = some (2, false, 1) /\ tf prog 120 3 = some (3, false, 1) /\ tf prog 120 4 = some (4, false, 1) /\ tf prog 120 5 = some (5, false, 1) /\ tf prog 120 6 = some (6, false, 1) /\ tf prog 120 7 = some (7, false, 1) /\ tf prog 120 8 = some (8, false, 1) /\ tf prog 120 9 = some (9, false, 1) /\ tz prog 120 = some [.int .i64 0, .int .i64 0, .int .i64 0, .int .i64 0, .int .i64 0, .int .i64 0, .int .i64 0, .int .i64 0, .int .i64 0, .bool false] /\ tflat prog 120 = true /\ tbool prog 120 = false := by and_intros <;> kernel_rfl
@[go_sem] theorem t_121 : prog.cellsOf 121 = 10 /\ tl prog 121 = some (true, 10) /\ te prog 121 = none /\ tp prog 121 = some [(0, 1), (1, 1), (2, 1), (3, 1), (4, 1), (5, 1), (6, 1), (7, 1), (8, 1), (9, 1)] /\ tf prog 121 0 = some (0, false, 1) /\ tf prog 121 1 = some (1, false, 1) /\ tf prog 121 2 = some (2, false, 1) /\ tf prog 121 3 = some (3, false, 1) /\ tf prog 121 4 = some (4, false, 1) /\ tf prog 121 5 = some (5, false, 1) /\ tf prog 121 6 = some (6, false, 1) /\ tf prog 121 7 = some (7, false, 1) /\ tf prog 121 8 = some (8, false, 1) /\ tf prog 121 9 = some (9, false, 1) /\ teq prog 121 = some [0, 0, 0, 0, 0, 0, 0, 0, 0, 1] /\ tz prog 121 = some [.int .i64 0, .int .i64 0, .int .i64 0, .int .i64 0, .int .i64 0, .int .i64 0, .int .i64 0, .int .i64 0, .int .i64 0, .bool false] /\ tflat prog 121 = true /\ tbool prog 121 = false := by and_intros <;> kernel_rfl
@[go_sem] theorem t_122 : prog.cellsOf 122 = 1 /\ tl prog 122 = some (false, 1) /\ te prog 122 = some (240, 2, 16) /\ tz prog 122 = some [.sl 2 []] /\ tflat prog 122 = false /\ tbool prog 122 = false := by and_intros <;> kernel_rfl
@[go_sem] theorem t_123 : prog.cellsOf 123 = 1 /\ tl prog 123 = some (false, 1) /\ te prog 123 = some (242, 3, 24) /\ tz prog 123 = some [.sl 3 []] /\ tflat prog 123 = false /\ tbool prog 123 = false := by and_intros <;> kernel_rfl
@[go_sem] theorem t_124 : prog.cellsOf 124 = 1 /\ tl prog 124 = some (false, 1) /\ te prog 124 = some (244, 2, 16) /\ tz prog 124 = some [.sl 2 []] /\ tflat prog 124 = false /\ tbool prog 124 = false := by and_intros <;> kernel_rfl
@[go_sem] theorem t_125 : prog.cellsOf 125 = 32 /\ tl prog 125 = some (true, 32) /\ te prog 125 = none /\ tp prog 125 = some [(0, 1), (1, 2), (3, 1), (4, 1), (5, 1), (6, 1), (7, 1), (8, 1), (9, 1), (10, 1), (11, 3), (14, 1), (15, 1), (16, 10), (26, 1), (27, 1), (28, 1), (29, 1), (30, 1), (31, 1)] /\ tf prog 125 0 = some (0, false, 1) /\ tf prog 125 1 = some (1, true, 2) /\ tf prog 125 2 = some (3, false, 1) /\ tf prog 125 3 = some (4, false, 1) /\ tf prog 125 4 = some (5, false, 1) /\ tf prog 125 5 = some (6, false, 1) /\ tf prog 125 6 = some (7, false, 1) /\ tf prog 125 7 = some (8, false, 1) /\ tf prog 125 8 = some (9, false, 1) /\ tf prog 125 9 = some (10, false, 1) /\ tf prog 125 10 = some (11, true, 3) /\ tf prog 125 11 = some (14, false, 1) /\ tf prog 125 12 = some (15, false, 1) /\ tf prog 125 13 = some (16, true, 10) /\ tf prog 125 14 = some (26, false, 1) /\ tf prog 125 15 = some (27, false, 1) /\ tf prog 125 16 = some (28, false, 1) /\ tf prog 125 17 = some (29, false, 1) /\ tf prog 125 18 = some (30, false, 1) /\ tf prog 125 19 = some (31, false, 1) /\ tz prog 125 = some [.bool false, .bool false, .sl 3 [], .int .i64 0, .int .i64 0, .int .i64 0, .int .i64 0, .int .i64 0, .int .i64 0, .int .i64 0, .int .i64 0, .int .i64 0, .int .i64 0, .int .i64 0, .bool false, .int .i64 0, .int .i64 0, .int .i64 0, .int .i64 0, .int .i64 0, .int .i64 0, .int .i64 0, .int .i64 0, .int .i64 0, .int .i64 0, .bool false, .sl 2 [], .sl 3 [], .sl 2 [], .sl 1 [], .sl 1 [], .sl 1 []] /\ tflat prog 125 = false /\ tbool prog 125 = false := by and_intros <;> kernel_rfl
@[go_sem] theorem tc_126 : prog.cellsOf 126 = 32 := by kernel_rfl
@[go_sem] theorem t_126 : tl prog 126 = some (true, 32) /\ te prog 126 = none /\ tp prog 126 = some [(0, 1), (1, 2), (3, 1), (4, 1), (5, 1), (6, 1), (7, 1), (8, 1), (9, 1), (10, 1), (11, 3), (14, 1), (15, 1), (16, 10), (26, 1), (27, 1), (28, 1), (29, 1), (30, 1), (31, 1)] /\ tf prog 126 0 = some (0, false, 1) /\ tf prog 126 1 = some (1, true, 2) /\ tf prog 126 2 = some (3, false, 1) /\ tf prog 126 3 = some (4, false, 1) /\ tf prog 126 4 = some (5, false, 1) /\ tf prog 126 5 = some (6, false, 1) /\ tf prog 126 6 = some (7, false, 1) /\ tf prog 126 7 = some (8, false, 1) /\ tf prog 126 8 = some (9, false, 1) /\ tf prog 126 9 = some (10, false, 1) /\ tf prog 126 10 = some (11, true, 3) /\ tf prog 126 11 = some (14, false, 1) /\ tf prog 126 12 = some (15, false, 1) /\ tf prog 126 13 = some (16, true, 10) /\ tf prog 126 14 = some (26, false, 1) /\ tf prog 126 15 = some (27, false, 1) /\ tf prog 126 16 = some (28, false, 1) /\ tf prog 126 17 = some (29, false, 1) /\ tf prog 126 18 = some (30, false, 1) /\ tf prog 126 19 = some (31, false, 1) /\ tz prog 126 = some [.bool false, .bool false, .sl 3 [], .int .i64 0, .int .i64 0, .int .i64 0, .int .i64 0, .int .i64 0, .int .i64 0, .int .i64 0, .int .i64 0, .int .i64 0, .int .i64 0, .int .i64 0, .bool false, .int .i64 0, .int .i64 0, .int .i64 0, .int .i64 0, .int .i64 0, .int .i64 0, .int .i64 0, .int .i64 0, .int .i64 0, .int .i64 0, .bool false, .sl 2 [], .sl 3 [], .sl 2 [], .sl 1 [], .sl 1 [], .sl 1 []] /\ tflat prog 126 = false /\ tbool prog 126 = false := by and_intros <;> kernel_rfl
@[go_sem] theorem t_128 : prog.cellsOf 128 = 6 /\ tl prog 128 = some (true, 6) /\ te prog 128 = none /\ tp prog 128 = some [(0, 1), (1, 1), (2, 1), (3, 1), (4, 1), (5, 1)] /\ tf prog 128 0 = some (0, false, 1) /\ tf prog 128 1 = some (1, false, 1) /\ tf prog 128 2 = some (2, false, 1) /\ tf prog 128 3 = some (3, false, 1) /\ tf prog 128 4 = some (4, false, 1) /\ tf prog 128 5 = some (5, false, 1) /\ tz prog 128 = some [.int .i64 0, .int .i64 0, .int .i64 0, .int .i64 0, .sl 3 [], .sl 2 []] /\ tflat prog 128 = false /\ tbool prog 128 = false := by and_intros <;> kernel_rfl
@[go_sem] theorem tc_129 : prog.cellsOf 129 = 6 := by kernel_rfl
@[go_sem] theorem t_129 : tl prog 129 = some (true, 6) /\ te prog 129 = none /\ tp prog 129 = some [(0, 1), (1, 1), (2, 1), (3, 1), (4, 1), (5, 1)] /\ tf prog 129 0 = some (0, false, 1) /\ tf prog 129 1 = some (1, false, 1) /\ tf prog 129 2 = some (2, false, 1) /\ tf prog 129 3 = some (3, false, 1) /\ tf prog 129 4 = some (4, false, 1) /\ tf prog 129 5 = some (5, false, 1) /\ tz prog 129 = some [.int .i64 0, .int .i64 0, .int .i64 0, .int .i64 0, .sl 3 [], .sl 2 []] /\ tflat prog 129 = false /\ tbool prog 129 = false := by and_intros <;> kernel_rfl
@[go_sem] theorem t_136 : prog.cellsOf 136 = 3 /\ tl prog 136 = some (true, 3) /\ te prog 136 = none /\ tp prog 136 = some [(0, 1), (1, 1), (2, 1)] /\ tf prog 136 0 = some (0, false, 1) /\ tf prog 136 1 = some (1, false, 1) /\ tf prog 136 2 = some (2, false, 1) /\ tz prog 136 = some [.int .i64 0, .int .i64 0, .int .i64 0] /\ tflat prog 136 = true /\ tbool prog 136 = false := by and_intros <;> kernel_rfl
@[go_sem] theorem t_137 : prog.cellsOf 137 = 3 /\ tl prog 137 = some (true, 3) /\ te prog 137 = none /\ tp prog 137 = some [(0, 1), (1, 1), (2, 1)] /\ tf prog 137 0 = some (0, false, 1) /\ tf prog 137 1 = some (1, false, 1) /\ tf prog 137 2 = some (2, false, 1) /\ teq prog 137 = some [0, 0, 0] /\ tz prog 137 = some [.int .i64 0, .int .i64 0, .int .i64 0] /\ tflat prog 137 = true /\ tbool prog 137 = false := by and_intros <;> kernel_rfl
@[go_sem] theorem tc_139 : prog.cellsOf 139 = 3 := by kernel_rfl
@[go_sem] theorem t_139 : tl prog 139 = some (true, 3) /\ te prog 139 = none /\ tp prog 139 = some [(0, 1), (1, 1), (2, 1)] /\ tf prog 139 0 = some (0, false, 1) /\ tf prog 139 1 = some (1, false, 1) /\ tf prog 139 2 = some (2, false, 1) /\ teq prog 139 = some [0, 0, 0] /\ tz prog 139 = some [.int .i64 0, .int .i64 0, .int .i64 0] /\ tflat prog 139 = true /\ tbool prog 139 = false := by and_intros <;> kernel_rfl
@[go_sem] theorem t_140 : prog.cellsOf 140 = 2 /\ tl prog 140 = some (true, 2) /\ te prog 140 = none /\ tp prog 140 = some [(0, 1), (1, 1)] /\ tf prog 140 0 = some (0, false, 1) /\ tf prog 140 1 = some (1, false, 1) /\ tz prog 140 = some [.bool false, .sl 3 []] /\ tflat prog 140 = false /\ tbool prog 140 = false := by and_intros <;> kernel_rfl
@[go_sem] theorem t_141 : prog.cellsOf 141 = 2 /\ tl prog 141 = some (true, 2) /\ te prog 141 = none /\ tp prog 141 = some [(0, 1), (1, 1)] /\ tf prog 141 0 = some (0, false, 1) /\ tf prog 141 1 = some (1, false, 1) /\ tz prog 141 = some [.bool false, .sl 3 []] /\ tflat prog 141 = false /\ tbool prog 141 = false := by and_intros <;> kernel_rfl
@[go_sem] theorem t_142 : prog.cellsOf 142 = 3 /\ tl prog 142 = some (true, 3) /\ te prog 142 = none /\ tp prog 142 = some [(0, 1), (1, 1), (2, 1)] /\ tf prog 142 0 = some (0, false, 1) /\ tf prog 142 1 = some (1, false, 1) /\ tf prog 142 2 = some (2, false, 1) /\ teq prog 142 = some [0, 0, 0] /\ tz prog 142 = some [.int .i64 0, .int .i64 0, .int .i64 0] /\ tflat prog 142 = true /\ tbool prog 142 = false := by and_intros <;> kernel_rfl
@[go_sem] theorem t_143 : prog.cellsOf 143 = 10 /\ tl prog 143 = some (true, 10) /\ te prog 143 = none /\ tp prog 143 = some [(0, 1), (1, 1), (2, 1), (3, 1), (4, 1), (5, 1), (6, 1), (7, 1), (8, 1), (9, 1)] /\ tf prog 143 0 = some (0, false, 1) /\ tf prog 143 1 = some (1, false, 1) /\ tf prog 143 2 = some (2, false, 1) /\ tf prog 143 3 = some (3, false, 1) /\ tf prog 143 4 = some (4, false, 1) /\ tf prog 143 5 = some (5, false, 1) /\ tf prog 143 6 = some (6, false, 1) /\ tf prog 143 7 = some (7, false, 1) /\ tf prog 143 8 = some (8, false, 1) /\ tf prog 143 9 = some (9, false, 1) /\ teq prog 143 = some [0, 0, 0, 0, 0, 0, 0, 0, 0, 1] /\ tz prog 143 = some [.int .i64 0, .int .i64 0, .int .i64 0, .int .i64 0, .int .i64 0, .int .i64 0, .int .i64 0, .int .i64 0, .int .i64 0, .bool false] /\ tflat prog 143 = true /\ tbool prog 143 = false := by and_intros <;> kernel_rfl
@[go_sem] theorem t_144 : prog.cellsOf 144 = 1 /\ tl prog 144 = some (false, 1) /\ te prog 144 = some (221, 2, 16) /\ tz prog 144 = some [.sl 2 []] /\ tflat prog 144 = false /\ tbool prog 144 = false := by and_intros <;> kernel_rfl
@[go_sem] theorem t_145 : prog.cellsOf 145 = 1 /\ tl prog 145 = some (false, 1) /\ te prog 145 = some (223, 3, 24) /\ tz prog 145 = some [.sl 3 []] /\ tflat prog 145 = false /\ tbool prog 145 = false := by and_intros <;> kernel_rfl
@[go_sem] theorem t_146 : prog.cellsOf 146 = 32 /\ tl prog 146 = some (true, 32) /\ te prog 146 = none /\ tp prog 146 = some [(0, 1), (1, 2), (3, 1), (4, 1), (5, 1), (6, 1), (7, 1), (8, 1), (9, 1), (10, 1), (11, 3), (14, 1), (15, 1), (16, 10), (26, 1), (27, 1), (28, 1), (29, 1), (30, 1), (31, 1)] /\ tf prog 146 0 = some (0, false, 1) /\ tf prog 146 1 = some (1, true, 2) /\ tf prog 146 2 = some (3, false, 1) /\ tf prog 146 3 = some (4, false, 1) /\ tf prog 146 4 = some (5, false, 1) /\ tf prog 146 5 = some (6, false, 1) /\ tf prog 146 6 = some (7, false, 1) /\ tf prog 146 7 = some (8, false, 1) /\ tf prog 146 8 = some (9, false, 1) /\ tf prog 146 9 = some (10, false, 1) /\ tf prog 146 10 = some (11, true, 3) /\ tf prog 146 11 = some (14, false, 1) /\ tf prog 146 12 = some (15, false, 1) /\ tf prog 146 13 = some (16, true, 10) /\ tf prog 146 14 = some (26, false, 1) /\ tf prog 146 15 = some (27, false, 1) /\ tf prog 146 16 = some (28, false, 1) /\ tf prog 146 17 = some (29, false, 1) /\ tf prog 146 18 = some (30, false, 1) /\ tf prog 146 19 = some (31, false, 1) /\ tz prog 146 = some [.bool false, .bool false, .sl 3 [], .int .i64 0, .int .i64 0, .int .i64 0, .int .i64 0, .int .i64 0, .int .i64 0, .int .i64 0, .int .i64 0, .int .i64 0, .int .i64 0, .int .i64 0, .bool false, .int .i64 0, .int .i64 0, .int .i64 0, .int .i64 0, .int .i64 0, .int .i64 0, .int .i64 0, .int .i64 0, .int .i64 0, .int .i64 0, .bool false, .sl 2 [], .sl 3 [], .sl 2 [], .sl 1 [], .sl 1 [], .sl 1 []] /\ tflat prog 146 = false /\ tbool prog 146 = false := by and_intros <;> kernel_rfl
@[go_sem] theorem t_147 : prog.cellsOf 147 = 32 /\ tl prog 147 = some (true, 32) /\ te prog 147 = none /\ tp prog 147 = some [(0, 1), (1, 2), (3, 1), (4, 1), (5, 1), (6, 1), (7, 1), (8, 1), (9, 1), (10, 1), (11, 3), (14, 1), (15, 1), (16, 10), (26, 1), (27, 1), (28, 1), (29, 1), (30, 1), (31, 1)] /\ tf prog 147 0 = some (0, false, 1) /\ tf prog 147 1 = some (1, true, 2) /\ tf prog 147 2 = some (3, false, 1) /\ tf prog 147 3 = some (4, false, 1) /\ tf prog 147 4 = some (5, false, 1) /\ tf prog 147 5 = some (6, false, 1) /\ tf prog 147 6 = some (7, false, 1) /\ tf prog 147 7 = some (8, false, 1) /\ tf prog 147 8 = some (9, false, 1) /\ tf prog 147 9 = some (10, false, 1) /\ tf prog 147 10 = some (11, true, 3) /\ tf prog 147 11 = some (14, false, 1) /\ tf prog 147 12 = some (15, false, 1) /\ tf prog 147 13 = some (16, true, 10) /\ tf prog 147 14 = some (26, false, 1) /\ tf prog 147 15 = some (27, false, 1) /\ tf prog 147 16 = some (28, false, 1) /\ tf prog 147 17 = some (29, false, 1) /\ tf prog 147 18 = some (30, false, 1) /\ tf prog 147 19 = some (31, false, 1) /\ tz prog 147 = some [.bool false, .bool false, .sl 3 [], .int .i64 0, .int .i64 0, .int .i64 0, .int .i64 0, .int .i64 0, .int .i64 0, .int .i64 0, .int .i64 0, .int .i64 0, .int .i64 0, .int .i64 0, .bool false, .int .i64 0, .int .i64 0, .int .i64 0, .int .i64 0, .int .i64 0, .int .i64 0, .int .i64 0, .int .i64 0, .int .i64 0, .int .i64 0, .bool false, .sl 2 [], .sl 3 [], .sl 2 [], .sl 1 [], .sl 1 [], .sl 1 []] /\ tflat prog 147 = false /\ tbool prog 147 = false := by and_intros <;> kernel_rfl
@[go_sem] theorem t_150 : prog.cellsOf 150 = 3 /\ tl prog 150 = some (true, 3) /\ te prog 150 = none /\ tp prog 150 = some [(0, 1), (1, 1), (2, 1)] /\ tf prog 150 0 = some (0, false, 1) /\ tf prog 150 1 = some (1, false, 1) /\ tf prog 150 2 = some (2, false, 1) /\ tz prog 150 = some [.int .i64 0, .int .i64 0, .int .i64 0] /\ tflat prog 150 = true /\ tbool prog 150 = false := by and_intros <;> kernel_rfl
@[go_sem] theorem t_151 : prog.cellsOf 151 = 3 /\ tl prog 151 = some (true, 3) /\ te prog 151 = none /\ tp prog 151 = some [(0, 1), (1, 1), (2, 1)] /\ tf prog 151 0 = some (0, false, 1) /\ tf prog 151 1 = some (1, false, 1) /\ tf prog 151 2 = some (2, false, 1) /\ teq prog 151 = some [0, 0, 0] /\ tz prog 151 = some [.int .i64 0, .int .i64 0, .int .i64 0] /\ tflat prog 151 = true /\ tbool prog 151 = false := by and_intros <;> kernel_rfl
@[go_sem] theorem t_152 : prog.cellsOf 152 = 2 /\ tl prog 152 = some (true, 2) /\ te prog 152 = none /\ tp prog 152 = some [(0, 1), (1, 1)] /\ tf prog 152 0 = some (0, false, 1) /\ tf prog 152 1 = some (1, false, 1) /\ tz prog 152 = some [.bool false, .int .i64 0] /\ tflat prog 152 = true /\ tbool prog 152 = false := by and_intros <;> kernel_rfl
@[go_sem] theorem t_153 : prog.cellsOf 153 = 2 /\ tl prog 153 = some (true, 2) /\ te prog 153 = none /\ tp prog 153 = some [(0, 1), (1, 1)] /\ tf prog 153 0 = some (0, false, 1) /\ tf prog 153 1 = some (1, false, 1) /\ teq prog 153 = some [1, 0] /\ tz prog 153 = some [.bool false, .int .i64 0] /\ tflat prog 153 = true /\ tbool prog 153 = false := by and_intros <;> kernel_rfl
@[go_sem] theorem t_183 : prog.cellsOf 183 = 1 /\ tl prog 183 = some (false, 1) /\ te prog 183 = some (263, 2, 16) /\ tz prog 183 = some [.sl 2 []] /\ tflat prog 183 = false /\ tbool prog 183 = false := by and_intros <;> kernel_rfl
@[go_sem] theorem t_184 : prog.cellsOf 184 = 1 /\ tl prog 184 = some (true, 1) /\ te prog 184 = none /\ tp prog 184 = some [(0, 1)] /\ tf prog 184 0 = some (0, false, 1) /\ tz prog 184 = some [.sl 2 []] /\ tflat prog 184 = false /\ tbool prog 184 = false := by and_intros <;> kernel_rfl
@[go_sem] theorem tc_185 : prog.cellsOf 185 = 1 := by kernel_rfl
@[go_sem] theorem t_185 : tl prog 185 = some (true, 1) /\ te prog 185 = none /\ tp prog 185 = some [(0, 1)] /\ tf prog 185 0 = some (0, false, 1) /\ tz prog 185 = some [.sl 2 []] /\ tflat prog 185 = false /\ tbool prog 185 = false := by and_intros <;> kernel_rfl
@[go_sem] theorem t_194 : prog.cellsOf 194 = 1 /\ tl prog 194 = some (false, 1) /\ te prog 194 = some (254, 2, 16) /\ tz prog 194 = some [.sl 2 []] /\ tflat prog 194 = false /\ tbool prog 194 = false := by and_intros <;> kernel_rfl
@[go_sem] theorem t_195 : prog.cellsOf 195 = 1 /\ tl prog 195 = some (true, 1) /\ te prog 195 = none /\ tp prog 195 = some [(0, 1)] /\ tf prog 195 0 = some (0, false, 1) /\ tz prog 195 = some [.sl 2 []] /\ tflat prog 195 = false /\ tbool prog 195 = false := by and_intros <;> kernel_rfl
@[go_sem] theorem t_196 : prog.cellsOf 196 = 1 /\ tl prog 196 = some (true, 1) /\ te prog 196 = none /\ tp prog 196 = some [(0, 1)] /\ tf prog 196 0 = some (0, false, 1) /\ tz prog 196 = some [.sl 2 []] /\ tflat prog 196 = false /\ tbool prog 196 = false := by and_intros <;> kernel_rfl
@[go_sem] theorem t_220 : prog.cellsOf 220 = 2 /\ tl prog 220 = some (true, 2) /\ te prog 220 = none /\ tp prog 220 = some [(0, 1), (1, 1)] /\ tf prog 220 0 = some (0, false, 1) /\ tf prog 220 1 = some (1, false, 1) /\ tz prog 220 = some [.int .i64 0, .int .i64 0] /\ tflat prog 220 = true /\ tbool prog 220 = false := by and_intros <;> kernel_rfl
@[go_sem] theorem t_221 : prog.cellsOf 221 = 2 /\ tl prog 221 = some (true, 2) /\ te prog 221 = none /\ tp prog 221 = some [(0, 1), (1, 1)] /\ tf prog 221 0 = some (0, false, 1) /\ tf prog 221 1 = some (1, false, 1) /\ teq prog 221 = some [0, 0] /\ tz prog 221 = some [.int .i64 0, .int .i64 0] /\ tflat prog 221 = true /\ tbool prog 221 = false := by and_intros <;> kernel_rfl
@[go_sem] theorem t_222 : prog.cellsOf 222 = 3 /\ tl prog 222 = some (true, 3) /\ te prog 222 = none /\ tp prog 222 = some [(0, 1), (1, 1), (2, 1)] /\ tf prog 222 0 = some (0, false, 1) /\ tf prog 222 1 = some (1, false, 1) /\ tf prog 222 2 = some (2, false, 1) /\ tz prog 222 = some [.int .i64 0, .bool false, .int .i64 0] /\ tflat prog 222 = true /\ tbool prog 222 = false := by and_intros <;> kernel_rfl
@[go_sem] theorem t_223 : prog.cellsOf 223 = 3 /\ tl prog 223 = some (true, 3) /\ te prog 223 = none /\ tp prog 223 = some [(0, 1), (1, 1), (2, 1)] /\ tf prog 223 0 = some (0, false, 1) /\ tf prog 223 1 = some (1, false, 1) /\ tf prog 223 2 = some (2, false, 1) /\ teq prog 223 = some [0, 1, 0] /\ tz prog 223 = some [.int .i64 0, .bool false, .int .i64 0] /\ tflat prog 223 = true /\ tbool prog 223 = false := by and_intros <;> kernel_rfl
@[go_sem] theorem t_234 : prog.cellsOf 234 = 4 /\ tl prog 234 = some (true, 4) /\ te prog 234 = none /\ tp prog 234 = some [(0, 1), (1, 1), (2, 1), (3, 1)] /\ tf prog 234 0 = some (0, false, 1) /\ tf prog 234 1 = some (1, false, 1) /\ tf prog 234 2 = some (2, false, 1) /\ tf prog 234 3 = some (3, false, 1) /\ tz prog 234 = some [.bool false, .int .i64 0, .bool false, .int .i64 0] /\ tflat prog 234 = true /\ tbool prog 234 = false := by and_intros <;> kernel_rfl
@[go_sem] theorem t_235 : prog.cellsOf 235 = 4 /\ tl prog 235 = some (true, 4) /\ te prog 235 = none /\ tp prog 235 = some [(0, 1), (1, 1), (2, 1), (3, 1)] /\ tf prog 235 0 = some (0, false, 1) /\ tf prog 235 1 = some (1, false, 1) /\ tf prog 235 2 = some (2, false, 1) /\ tf prog 235 3 = some (3, false, 1) /\ teq prog 235 = some [1, 0, 1, 0] /\ tz prog 235 = some [.bool false, .int .i64 0, .bool false, .int .i64 0] /\ tflat prog 235 = true /\ tbool prog 235 = false := by and_intros <;> kernel_rfl
@[go_sem] theorem tc_237 : prog.cellsOf 237 = 4 := by kernel_rfl
@[go_sem] theorem t_237 : tl prog 237 = some (true, 4) /\ te prog 237 = none /\ tp prog 237 = some [(0, 1), (1, 1), (2, 1), (3, 1)] /\ tf prog 237 0 = some (0, false, 1) /\ tf prog 237 1 = some (1, false, 1) /\ tf prog 237 2 = some (2, false, 1) /\ tf prog 237 3 = some (3, false, 1) /\ teq prog 237 = some [1, 0, 1, 0] /\ tz prog 237 = some [.bool false, .int .i64 0, .bool false, .int .i64 0] /\ tflat prog 237 = true /\ tbool prog 237 = false := by and_intros <;> kernel_rfl
@[go_sem] theorem tc_240 : prog.cellsOf 240 = 2 := by kernel_rfl
@[go_sem] theorem t_240 : tl prog 240 = some (true, 2) /\ te prog 240 = none /\ tp prog 240 = some [(0, 1), (1, 1)] /\ tf prog 240 0 = some (0, false, 1) /\ tf prog 240 1 = some (1, false, 1) /\ teq prog 240 = some [0, 0] /\ tz prog 240 = some [.int .i64 0, .int .i64 0] /\ tflat prog 240 = true /\ tbool prog 240 = false := by and_intros <;> kernel_rfl
@[go_sem] theorem tc_242 : prog.cellsOf 242 = 3 := by kernel_rfl
@[go_sem] theorem t_242 : tl prog 242 = some (true, 3) /\ te prog 242 = none /\ tp prog 242 = some [(0, 1), (1, 1), (2, 1)] /\ tf prog 242 0 = some (0, false, 1) /\ tf prog 242 1 = some (1, false, 1) /\ tf prog 242 2 = some (2, false, 1) /\ teq prog 242 = some [0, 1, 0] /\ tz prog 242 = some [.int .i64 0, .bool false, .int .i64 0] /\ tflat prog 242 = true /\ tbool prog 242 = false := by and_intros <;> kernel_rfl
@[go_sem] theorem tc_244 : prog.cellsOf 244 = 2 := by kernel_rfl
@[go_sem] theorem t_244 : tl prog 244 = some (true, 2) /\ te prog 244 = none /\ tp prog 244 = some [(0, 1), (1, 1)] /\ tf prog 244 0 = some (0, false, 1) /\ tf prog 244 1 = some (1, false, 1) /\ teq prog 244 = some [1, 0] /\ tz prog 244 = some [.bool false, .int .i64 0] /\ tflat prog 244 = true /\ tbool prog 244 = false := by and_intros <;> kernel_rfl
@[go_sem] theorem tc_246 : prog.cellsOf 246 = 3 := by kernel_rfl
@[go_sem] theorem t_246 : tl prog 246 = some (true, 3) /\ te prog 246 = none /\ tp prog 246 = some [(0, 1), (1, 1), (2, 1)] /\ tf prog 246 0 = some (0, false, 1) /\ tf prog 246 1 = some (1, false, 1) /\ tf prog 246 2 = some (2, false, 1) /\ teq prog 246 = some [0, 0, 0] /\ tz prog 246 = some [.int .i64 0, .int .i64 0, .int .i64 0] /\ tflat prog 246 = true /\ tbool prog 246 = false := by and_intros <;> kernel_rfl
@[go_sem] theorem t_253 : prog.cellsOf 253 = 2 /\ tl prog 253 = some (true, 2) /\ te prog 253 = none /\ tp prog 253 = some [(0, 1), (1, 1)] /\ tf prog 253 0 = some (0, false, 1) /\ tf prog 253 1 = some (1, false, 1) /\ tz prog 253 = some [.int .i64 0, .int .i64 0] /\ tflat prog 253 = true /\ tbool prog 253 = false := by and_intros <;> kernel_rfl
@[go_sem] theorem t_254 : prog.cellsOf 254 = 2 /\ tl prog 254 = some (true, 2) /\ te prog 254 = none /\ tp prog 254 = some [(0, 1), (1, 1)] /\ tf prog 254 0 = some (0, false, 1) /\ tf prog 254 1 = some (1, false, 1) /\ teq prog 254 = some [0, 0] /\ tz prog 254 = some [.int .i64 0, .int .i64 0] /\ tflat prog 254 = true /\ tbool prog 254 = false := by and_intros <;> kernel_rfl
@[go_sem] theorem t_258 : prog.cellsOf 258 = 1 /\ tl prog 258 = some (true, 1) /\ te prog 258 = none /\ tp prog 258 = some [(0, 1)] /\ tf prog 258 0 = some (0, false, 1) /\ tz prog 258 = some [.sl 1 []] /\ tflat prog 258 = false /\ tbool prog 258 = false := by and_intros <;> kernel_rfl
@[go_sem] theorem tc_259 : prog.cellsOf 259 = 1 := by kernel_rfl
@[go_sem] theorem t_259 : tl prog 259 = some (true, 1) /\ te prog 259 = none /\ tp prog 259 = some [(0, 1)] /\ tf prog 259 0 = some (0, false, 1) /\ tz prog 259 = some [.sl 1 []] /\ tflat prog 259 = false /\ tbool prog 259 = false := by and_intros <;> kernel_rfl
@[go_sem] theorem t_260 : prog.cellsOf 260 = 1 /\ tl prog 260 = some (true, 1) /\ te prog 260 = none /\ tp prog 260 = some [(0, 1)] /\ tf prog 260 0 = some (0, false, 1) /\ tz prog 260 = some [.sl 1 []] /\ tflat prog 260 = false /\ tbool prog 260 = false := by and_intros <;> kernel_rfl
@[go_sem] theorem tc_263 : prog.cellsOf 263 = 2 := by kernel_rfl
@[go_sem] theorem t_263 : tl prog 263 = some (true, 2) /\ te prog 263 = none /\ tp prog 263 = some [(0, 1), (1, 1)] /\ tf prog 263 0 = some (0, false, 1) /\ tf prog 263 1 = some (1, false, 1) /\ teq prog 263 = some [0, 0] /\ tz prog 263 = some [.int .i64 0, .int .i64 0] /\ tflat prog 263 = true /\ tbool prog 263 = false := by and_intros <;> kernel_rfl
theorem e5 : enters prog 5 = true := by kernel_rfl
theorem e6 : enters prog 6 = true := by kernel_rfl
theorem e7 : enters prog 7 = true := by kernel_rfl
theorem e8 : enters prog 8 = true := by kernel_rfl
theorem e9 : enters prog 9 = true := by kernel_rfl
theorem e10 : enters prog 10 = true := by kernel_rfl
theorem e11 : enters prog 11 = true := by kernel_rfl
theorem e12 : enters prog 12 = true := by kernel_rfl
theorem e13 : enters prog 13 = true := by kernel_rfl
theorem e14 : enters prog 14 = true := by kernel_rfl
theorem e16 : enters prog 16 = true := by kernel_rfl
theorem e18 : enters prog 18 = true := by kernel_rfl
theorem e19 : enters prog 19 = true := by kernel_rfl
theorem e21 : enters prog 21 = true := by kernel_rfl
theorem e22 : enters prog 22 = true := by kernel_rfl
theorem e23 : enters prog 23 = true := by kernel_rfl
theorem e24 : enters prog 24 = true := by kernel_rfl
theorem e25 : enters prog 25 = true := by kernel_rfl
theorem e26 : enters prog 26 = true := by kernel_rfl
theorem e27 : enters prog 27 = true := by kernel_rfl
theorem e28 : enters prog 28 = true := by kernel_rfl
theorem e29 : enters prog 29 = true := by kernel_rfl
theorem e30 : enters prog 30 = true := by kernel_rfl
theorem e31 : enters prog 31 = true := by kernel_rfl
theorem e32 : enters prog 32 = true := by kernel_rfl
theorem e33 : enters prog 33 = true := by kernel_rfl
theorem e34 : enters prog 34 = true := by kernel_rfl
theorem e35 : enters prog 35 = true := by kernel_rfl
theorem e36 : enters prog 36 = true := by kernel_rfl
theorem e37 : enters prog 37 = true := by kernel_rfl
theorem e38 : enters prog 38 = true := by kernel_rfl
theorem e39 : enters prog 39 = true := by kernel_rfl
theorem e40 : enters prog 40 = true := by kernel_rfl
theorem e41 : enters prog 41 = true := by kernel_rfl
theorem e42 : enters prog 42 = true := by kernel_rfl
theorem e46 : enters prog 46 = true := by kernel_rfl
theorem e50 : enters prog 50 = true := by kernel_rfl
theorem e51 : enters prog 51 = true := by kernel_rfl
theorem e56 : enters prog 56 = true := by kernel_rfl
theorem e57 : enters prog 57 = true := by kernel_rfl
theorem e58 : enters prog 58 = true := by kernel_rfl
theorem e59 : enters prog 59 = true := by kernel_rfl
theorem e60 : enters prog 60 = true := by kernel_rfl
theorem e61 : enters prog 61 = true := by kernel_rfl
theorem e62 : enters prog 62 = true := by kernel_rfl
theorem e63 : enters prog 63 = true := by kernel_rfl
theorem e64 : enters prog 64 = true := by kernel_rfl
theorem e65 : enters prog 65 = true := by kernel_rfl
theorem e66 : enters prog 66 = true := by kernel_rfl
theorem e67 : enters prog 67 = true := by kernel_rfl
theorem e68 : enters prog 68 = true := by kernel_rfl
theorem e69 : enters prog 69 = true := by kernel_rfl
theorem e70 : enters prog 70 = true := by kernel_rfl
theorem e71 : enters prog 71 = true := by kernel_rfl
theorem e72 : enters prog 72 = true := by kernel_rfl
theorem e73 : enters prog 73 = true := by kernel_rfl
theorem e74 : enters prog 74 = true := by kernel_rfl
theorem e75 : enters prog 75 = true := by kernel_rfl
theorem e76 : enters prog 76 = true := by kernel_rfl
theorem e77 : enters prog 77 = true := by kernel_rfl
theorem e78 : enters prog 78 = true := by kernel_rfl
theorem e79 : enters prog 79 = true := by kernel_rfl
theorem e80 : enters prog 80 = true := by kernel_rfl
theorem e81 : enters prog 81 = true := by kernel_rfl
theorem e82 : enters prog 82 = true := by kernel_rfl
theorem e83 : enters prog 83 = true := by kernel_rfl
theorem e84 : enters prog 84 = true := by kernel_rfl
theorem e85 : enters prog 85 = true := by kernel_rfl
theorem e86 : enters prog 86 = true := by kernel_rfl
theorem e87 : enters prog 87 = true := by kernel_rfl
theorem e94 : enters prog 94 = true := by kernel_rfl
theorem e105 : enters prog 105 = true := by kernel_rfl
theorem e113 : enters prog 113 = true := by kernel_rfl
theorem e114 : enters prog 114 = true := by kernel_rfl
theorem e115 : enters prog 115 = true := by kernel_rfl
theorem e116 : enters prog 116 = true := by kernel_rfl
theorem e117 : enters prog 117 = true := by kernel_rfl
theorem e118 : enters prog 118 = true := by kernel_rfl
theorem e119 : enters prog 119 = true := by kernel_rfl
theorem e120 : enters prog 120 = true := by kernel_rfl
theorem e121 : enters prog 121 = true := by kernel_rfl
theorem e122 : enters prog 122 = true := by kernel_rfl
theorem e123 : enters prog 123 = true := by kernel_rfl
theorem e124 : enters prog 124 = true := by kernel_rfl
theorem e125 : enters prog 125 = true := by kernel_rfl
theorem e126 : enters prog 126 = true := by kernel_rfl
theorem e127 : enters prog 127 = true := by kernel_rfl
theorem e128 : enters prog 128 = true := by kernel_rfl
theorem e129 : enters prog 129 = true := by kernel_rfl
theorem e130 : enters prog 130 = true := by kernel_rfl
theorem e131 : enters prog 131 = true := by kernel_rfl
theorem e132 : enters prog 132 = true := by kernel_rfl
theorem e133 : enters prog 133 = true := by kernel_rfl
theorem e134 : enters prog 134 = true := by kernel_rfl
theorem e135 : enters prog 135 = true := by kernel_rfl
theorem e136 : enters prog 136 = true := by kernel_rfl
theorem e137 : enters prog 137 = true := by kernel_rfl
theorem e138 : enters prog 138 = true := by kernel_rfl
theorem e139 : enters prog 139 = true := by kernel_rfl
theorem e140 : enters prog 140 = true := by kernel_rfl
theorem e141 : enters prog 141 = true := by kernel_rfl
theorem e142 : enters prog 142 = true := by kernel_rfl
theorem e143 : enters prog 143 = true := by kernel_rfl
theorem e144 : enters prog 144 = true := by kernel_rfl
theorem e145 : enters prog 145 = true := by kernel_rfl
theorem e146 : enters prog 146 = true := by kernel_rfl
theorem e147 : enters prog 147 = true := by kernel_rfl
theorem e164 : enters prog 164 = true := by kernel_rfl
theorem e165 : enters prog 165 = true := by kernel_rfl
theorem e166 : enters prog 166 = true := by kernel_rfl
theorem e167 : enters prog 167 = true := by kernel_rfl
theorem e168 : enters prog 168 = true := by kernel_rfl
theorem e169 : enters prog 169 = true := by kernel_rfl
theorem e170 : enters prog 170 = true := by kernel_rfl
theorem e171 : enters prog 171 = true := by kernel_rfl
theorem e172 : enters prog 172 = true := by kernel_rfl
theorem e173 : enters prog 173 = true := by kernel_rfl
theorem e174 : enters prog 174 = true := by kernel_rfl
theorem e175 : enters prog 175 = true := by kernel_rfl
theorem e176 : enters prog 176 = true := by kernel_rfl
theorem e177 : enters prog 177 = true := by kernel_rfl
theorem e178 : enters prog 178 = true := by kernel_rfl
theorem e182 : enters prog 182 = true := by kernel_rfl
theorem e183 : enters prog 183 = true := by kernel_rfl
theorem e184 : enters prog 184 = true := by kernel_rfl
theorem e185 : enters prog 185 = true := by kernel_rfl
theorem e186 : enters prog 186 = true := by kernel_rfl
theorem mixed : prog.follows .mixedOrders = true := by kernel_rfl
end Go.Proofs.YtldpopbnlmoamaaGreat.Ty
