/- Facts on the types of the translation, each closed. Written by wip/tools/gen.py. -/
import Derived.Test.YtebinioiggfplaaGreatChecked
import Derived.Test.YtebinioiggfplaaGreatAbsCode
import Derived.KernelRfl
namespace Go.Proofs.YtebinioiggfplaaGreat.Ty
open Go.Proofs.Tryz Go.Abs Go.Proofs
@[go_sem] theorem tc_3 : prog.cellsOf 3 = 1 := by kernel_rfl
@[go_sem] theorem t_3 : tl prog 3 = some (false, 1) /\ te prog 3 = none /\ tz prog 3 = some [.int .i64 0] /\ tflat prog 3 = true /\ tbool prog 3 = false /\ tkind prog 3 = some .i64 := by and_intros <;> kernel_rfl
@[go_sem] theorem t_4 : prog.cellsOf 4 = 1 /\ tl prog 4 = some (false, 1) /\ te prog 4 = none /\ tz prog 4 = some [.bool false] /\ tflat prog 4 = true /\ tbool prog 4 = true := by and_intros <;> kernel_rfl
@[go_sem] theorem t_22 : prog.cellsOf 22 = 1 /\ tl prog 22 = some (false, 1) /\ te prog 22 = some (3, 1, 8) /\ tz prog 22 = some [.sl 1 []] /\ tflat prog 22 = false /\ tbool prog 22 = false := by and_intros <;> kernel_rfl
@[go_sem] theorem t_23 : prog.cellsOf 23 = 2 /\ tl prog 23 = some (true, 2) /\ te prog 23 = none /\ tp prog 23 = some [(0, 1), (1, 1)] /\ tf prog 23 0 = some (0, false, 1) /\ tf prog 23 1 = some (1, false, 1) /\ tz prog 23 = some [.sl 1 [], .sl 1 []] /\ tflat prog 23 = false /\ tbool prog 23 = false := by and_intros <;> kernel_rfl
@[go_sem] theorem t_24 : prog.cellsOf 24 = 2 /\ tl prog 24 = some (true, 2) /\ te prog 24 = none /\ tp prog 24 = some [(0, 1), (1, 1)] /\ tf prog 24 0 = some (0, false, 1) /\ tf prog 24 1 = some (1, false, 1) /\ tz prog 24 = some [.sl 1 [], .sl 1 []] /\ tflat prog 24 = false /\ tbool prog 24 = false := by and_intros <;> kernel_rfl
@[go_sem] theorem t_25 : prog.cellsOf 25 = 1 /\ tl prog 25 = some (false, 1) /\ te prog 25 = some (250, 1, 24) /\ tz prog 25 = some [.sl 1 []] /\ tflat prog 25 = false /\ tbool prog 25 = false := by and_intros <;> kernel_rfl
@[go_sem] theorem t_26 : prog.cellsOf 26 = 2 /\ tl prog 26 = some (true, 2) /\ te prog 26 = none /\ tp prog 26 = some [(0, 1), (1, 1)] /\ tf prog 26 0 = some (0, false, 1) /\ tf prog 26 1 = some (1, false, 1) /\ tz prog 26 = some [.sl 1 [], .sl 1 []] /\ tflat prog 26 = false /\ tbool prog 26 = false := by and_intros <;> kernel_rfl
@[go_sem] theorem t_27 : prog.cellsOf 27 = 2 /\ tl prog 27 = some (true, 2) /\ te prog 27 = none /\ tp prog 27 = some [(0, 1), (1, 1)] /\ tf prog 27 0 = some (0, false, 1) /\ tf prog 27 1 = some (1, false, 1) /\ tz prog 27 = some [.sl 1 [], .sl 1 []] /\ tflat prog 27 = false /\ tbool prog 27 = false := by and_intros <;> kernel_rfl
@[go_sem] theorem t_28 : prog.cellsOf 28 = 4 /\ tl prog 28 = some (true, 4) /\ te prog 28 = none /\ tp prog 28 = some [(0, 2), (2, 2)] /\ tf prog 28 0 = some (0, true, 2) /\ tf prog 28 1 = some (2, true, 2) /\ tz prog 28 = some [.sl 1 [], .sl 1 [], .sl 1 [], .sl 1 []] /\ tflat prog 28 = false /\ tbool prog 28 = false := by and_intros <;> kernel_rfl
@[go_sem] theorem t_29 : prog.cellsOf 29 = 4 /\ tl prog 29 = some (true, 4) /\ te prog 29 = none /\ tp prog 29 = some [(0, 2), (2, 2)] /\ tf prog 29 0 = some (0, true, 2) /\ tf prog 29 1 = some (2, true, 2) /\ tz prog 29 = some [.sl 1 [], .sl 1 [], .sl 1 [], .sl 1 []] /\ tflat prog 29 = false /\ tbool prog 29 = false := by and_intros <;> kernel_rfl
@[go_sem] theorem t_30 : prog.cellsOf 30 = 1 /\ tl prog 30 = some (false, 1) /\ te prog 30 = some (220, 4, 32) /\ tz prog 30 = some [.sl 4 []] /\ tflat prog 30 = false /\ tbool prog 30 = false := by and_intros <;> kernel_rfl
@[go_sem] theorem t_31 : prog.cellsOf 31 = 2 /\ tl prog 31 = some (true, 2) /\ te prog 31 = none /\ tp prog 31 = some [(0, 1), (1, 1)] /\ tf prog 31 0 = some (0, false, 1) /\ tf prog 31 1 = some (1, false, 1) /\ tz prog 31 = some [.int .i64 0, .sl 4 []] /\ tflat prog 31 = false /\ tbool prog 31 = false := by and_intros <;> kernel_rfl
@[go_sem] theorem t_32 : prog.cellsOf 32 = 2 /\ tl prog 32 = some (true, 2) /\ te prog 32 = none /\ tp prog 32 = some [(0, 1), (1, 1)] /\ tf prog 32 0 = some (0, false, 1) /\ tf prog 32 1 = some (1, false, 1) /\ tz prog 32 = some [.int .i64 0, .sl 4 []] /\ tflat prog 32 = false /\ tbool prog 32 = false := by and_intros <;> kernel_rfl
@[go_sem] theorem t_33 : prog.cellsOf 33 = 1 /\ tl prog 33 = some (false, 1) /\ te prog 33 = some (157, 1, 24) /\ tz prog 33 = some [.sl 1 []] /\ tflat prog 33 = false /\ tbool prog 33 = false := by and_intros <;> kernel_rfl
@[go_sem] theorem t_34 : prog.cellsOf 34 = 8 /\ tl prog 34 = some (true, 8) /\ te prog 34 = none /\ tp prog 34 = some [(0, 4), (4, 2), (6, 1), (7, 1)] /\ tf prog 34 0 = some (0, true, 4) /\ tf prog 34 1 = some (4, true, 2) /\ tf prog 34 2 = some (6, false, 1) /\ tf prog 34 3 = some (7, false, 1) /\ tz prog 34 = some [.sl 1 [], .sl 1 [], .sl 1 [], .sl 1 [], .int .i64 0, .sl 4 [], .sl 1 [], .sl 1 []] /\ tflat prog 34 = false /\ tbool prog 34 = false := by and_intros <;> kernel_rfl
@[go_sem] theorem t_35 : prog.cellsOf 35 = 8 /\ tl prog 35 = some (true, 8) /\ te prog 35 = none /\ tp prog 35 = some [(0, 4), (4, 2), (6, 1), (7, 1)] /\ tf prog 35 0 = some (0, true, 4) /\ tf prog 35 1 = some (4, true, 2) /\ tf prog 35 2 = some (6, false, 1) /\ tf prog 35 3 = some (7, false, 1) /\ tz prog 35 = some [.sl 1 [], .sl 1 [], .sl 1 [], .sl 1 [], .int .i64 0, .sl 4 [], .sl 1 [], .sl 1 []] /\ tflat prog 35 = false /\ tbool prog 35 = false := by and_intros <;> kernel_rfl
@[go_sem] theorem t_36 : prog.cellsOf 36 = 1 /\ tl prog 36 = some (false, 1) /\ te prog 36 = some (121, 21, 168) /\ tz prog 36 = some [.sl 21 []] /\ tflat prog 36 = false /\ tbool prog 36 = false := by and_intros <;> kernel_rfl
@[go_sem] theorem t_37 : prog.cellsOf 37 = 1 /\ tl prog 37 = some (false, 1) /\ te prog 37 = some (109, 1, 24) /\ tz prog 37 = some [.sl 1 []] /\ tflat prog 37 = false /\ tbool prog 37 = false := by and_intros <;> kernel_rfl
@[go_sem] theorem t_38 : prog.cellsOf 38 = 1 /\ tl prog 38 = some (false, 1) /\ te prog 38 = some (126, 7, 56) /\ tz prog 38 = some [.sl 7 []] /\ tflat prog 38 = false /\ tbool prog 38 = false := by and_intros <;> kernel_rfl
@[go_sem] theorem t_39 : prog.cellsOf 39 = 13 /\ tl prog 39 = some (true, 13) /\ te prog 39 = none /\ tp prog 39 = some [(0, 8), (8, 1), (9, 1), (10, 1), (11, 1), (12, 1)] /\ tf prog 39 0 = some (0, true, 8) /\ tf prog 39 1 = some (8, false, 1) /\ tf prog 39 2 = some (9, false, 1) /\ tf prog 39 3 = some (10, false, 1) /\ tf prog 39 4 = some (11, false, 1) /\ tf prog 39 5 = some (12, false, 1) /\ tz prog 39 = some [.sl 1 [], .sl 1 [], .sl 1 [], .sl 1 [], .int .i64 0, .sl 4 [], .sl 1 [], .sl 1 [], .sl 1 [], .sl 21 [], .sl 1 [], .sl 7 [], .int .i64 0] /\ tflat prog 39 = false /\ tbool prog 39 = false := by and_intros <;> kernel_rfl
@[go_sem] theorem t_40 : prog.cellsOf 40 = 13 /\ tl prog 40 = some (true, 13) /\ te prog 40 = none /\ tp prog 40 = some [(0, 8), (8, 1), (9, 1), (10, 1), (11, 1), (12, 1)] /\ tf prog 40 0 = some (0, true, 8) /\ tf prog 40 1 = some (8, false, 1) /\ tf prog 40 2 = some (9, false, 1) /\ tf prog 40 3 = some (10, false, 1) /\ tf prog 40 4 = some (11, false, 1) /\ tf prog 40 5 = some (12, false, 1) /\ tz prog 40 = some [.sl 1 [], .sl 1 [], .sl 1 [], .sl 1 [], .int .i64 0, .sl 4 [], .sl 1 [], .sl 1 [], .sl 1 [], .sl 21 [], .sl 1 [], .sl 7 [], .int .i64 0] /\ tflat prog 40 = false /\ tbool prog 40 = false := by and_intros <;> kernel_rfl
@[go_sem] theorem t_43 : prog.cellsOf 43 = 2 /\ tl prog 43 = some (true, 2) /\ te prog 43 = none /\ tp prog 43 = some [(0, 1), (1, 1)] /\ tf prog 43 0 = some (0, false, 1) /\ tf prog 43 1 = some (1, false, 1) /\ tz prog 43 = some [.sl 1 [], .sl 1 []] /\ tflat prog 43 = false /\ tbool prog 43 = false := by and_intros <;> kernel_rfl
@[go_sem] theorem t_44 : prog.cellsOf 44 = 1 /\ tl prog 44 = some (false, 1) /\ te prog 44 = some (214, 1, 24) /\ tz prog 44 = some [.sl 1 []] /\ tflat prog 44 = false /\ tbool prog 44 = false := by and_intros <;> kernel_rfl
@[go_sem] theorem t_45 : prog.cellsOf 45 = 2 /\ tl prog 45 = some (true, 2) /\ te prog 45 = none /\ tp prog 45 = some [(0, 1), (1, 1)] /\ tf prog 45 0 = some (0, false, 1) /\ tf prog 45 1 = some (1, false, 1) /\ tz prog 45 = some [.sl 1 [], .sl 1 []] /\ tflat prog 45 = false /\ tbool prog 45 = false := by and_intros <;> kernel_rfl
@[go_sem] theorem t_46 : prog.cellsOf 46 = 2 /\ tl prog 46 = some (true, 2) /\ te prog 46 = none /\ tp prog 46 = some [(0, 1), (1, 1)] /\ tf prog 46 0 = some (0, false, 1) /\ tf prog 46 1 = some (1, false, 1) /\ tz prog 46 = some [.sl 1 [], .sl 1 []] /\ tflat prog 46 = false /\ tbool prog 46 = false := by and_intros <;> kernel_rfl
@[go_sem] theorem t_47 : prog.cellsOf 47 = 4 /\ tl prog 47 = some (true, 4) /\ te prog 47 = none /\ tp prog 47 = some [(0, 2), (2, 2)] /\ tf prog 47 0 = some (0, true, 2) /\ tf prog 47 1 = some (2, true, 2) /\ tz prog 47 = some [.sl 1 [], .sl 1 [], .sl 1 [], .sl 1 []] /\ tflat prog 47 = false /\ tbool prog 47 = false := by and_intros <;> kernel_rfl
@[go_sem] theorem t_48 : prog.cellsOf 48 = 4 /\ tl prog 48 = some (true, 4) /\ te prog 48 = none /\ tp prog 48 = some [(0, 2), (2, 2)] /\ tf prog 48 0 = some (0, true, 2) /\ tf prog 48 1 = some (2, true, 2) /\ tz prog 48 = some [.sl 1 [], .sl 1 [], .sl 1 [], .sl 1 []] /\ tflat prog 48 = false /\ tbool prog 48 = false := by and_intros <;> kernel_rfl
@[go_sem] theorem t_49 : prog.cellsOf 49 = 1 /\ tl prog 49 = some (false, 1) /\ te prog 49 = some (74, 4, 32) /\ tz prog 49 = some [.sl 4 []] /\ tflat prog 49 = false /\ tbool prog 49 = false := by and_intros <;> kernel_rfl
@[go_sem] theorem t_50 : prog.cellsOf 50 = 2 /\ tl prog 50 = some (true, 2) /\ te prog 50 = none /\ tp prog 50 = some [(0, 1), (1, 1)] /\ tf prog 50 0 = some (0, false, 1) /\ tf prog 50 1 = some (1, false, 1) /\ tz prog 50 = some [.int .i64 0, .sl 4 []] /\ tflat prog 50 = false /\ tbool prog 50 = false := by and_intros <;> kernel_rfl
@[go_sem] theorem t_51 : prog.cellsOf 51 = 2 /\ tl prog 51 = some (true, 2) /\ te prog 51 = none /\ tp prog 51 = some [(0, 1), (1, 1)] /\ tf prog 51 0 = some (0, false, 1) /\ tf prog 51 1 = some (1, false, 1) /\ tz prog 51 = some [.int .i64 0, .sl 4 []] /\ tflat prog 51 = false /\ tbool prog 51 = false := by and_intros <;> kernel_rfl
@[go_sem] theorem t_52 : prog.cellsOf 52 = 1 /\ tl prog 52 = some (false, 1) /\ te prog 52 = some (172, 1, 24) /\ tz prog 52 = some [.sl 1 []] /\ tflat prog 52 = false /\ tbool prog 52 = false := by and_intros <;> kernel_rfl
@[go_sem] theorem t_53 : prog.cellsOf 53 = 8 /\ tl prog 53 = some (true, 8) /\ te prog 53 = none /\ tp prog 53 = some [(0, 4), (4, 2), (6, 1), (7, 1)] /\ tf prog 53 0 = some (0, true, 4) /\ tf prog 53 1 = some (4, true, 2) /\ tf prog 53 2 = some (6, false, 1) /\ tf prog 53 3 = some (7, false, 1) /\ tz prog 53 = some [.sl 1 [], .sl 1 [], .sl 1 [], .sl 1 [], .int .i64 0, .sl 4 [], .sl 1 [], .sl 1 []] /\ tflat prog 53 = false /\ tbool prog 53 = false := by and_intros <;> kernel_rfl
@[go_sem] theorem t_54 : prog.cellsOf 54 = 8 /\ tl prog 54 = some (true, 8) /\ te prog 54 = none /\ tp prog 54 = some [(0, 4), (4, 2), (6, 1), (7, 1)] /\ tf prog 54 0 = some (0, true, 4) /\ tf prog 54 1 = some (4, true, 2) /\ tf prog 54 2 = some (6, false, 1) /\ tf prog 54 3 = some (7, false, 1) /\ tz prog 54 = some [.sl 1 [], .sl 1 [], .sl 1 [], .sl 1 [], .int .i64 0, .sl 4 [], .sl 1 [], .sl 1 []] /\ tflat prog 54 = false /\ tbool prog 54 = false := by and_intros <;> kernel_rfl
@[go_sem] theorem t_55 : prog.cellsOf 55 = 1 /\ tl prog 55 = some (false, 1) /\ te prog 55 = some (80, 21, 168) /\ tz prog 55 = some [.sl 21 []] /\ tflat prog 55 = false /\ tbool prog 55 = false := by and_intros <;> kernel_rfl
@[go_sem] theorem t_56 : prog.cellsOf 56 = 1 /\ tl prog 56 = some (false, 1) /\ te prog 56 = some (101, 1, 24) /\ tz prog 56 = some [.sl 1 []] /\ tflat prog 56 = false /\ tbool prog 56 = false := by and_intros <;> kernel_rfl
@[go_sem] theorem t_57 : prog.cellsOf 57 = 1 /\ tl prog 57 = some (false, 1) /\ te prog 57 = some (124, 7, 56) /\ tz prog 57 = some [.sl 7 []] /\ tflat prog 57 = false /\ tbool prog 57 = false := by and_intros <;> kernel_rfl
@[go_sem] theorem t_58 : prog.cellsOf 58 = 13 /\ tl prog 58 = some (true, 13) /\ te prog 58 = none /\ tp prog 58 = some [(0, 8), (8, 1), (9, 1), (10, 1), (11, 1), (12, 1)] /\ tf prog 58 0 = some (0, true, 8) /\ tf prog 58 1 = some (8, false, 1) /\ tf prog 58 2 = some (9, false, 1) /\ tf prog 58 3 = some (10, false, 1) /\ tf prog 58 4 = some (11, false, 1) /\ tf prog 58 5 = some (12, false, 1) /\ tz prog 58 = some [.sl 1 [], .sl 1 [], .sl 1 [], .sl 1 [], .int .i64 0, .sl 4 [], .sl 1 [], .sl 1 [], .sl 1 [], .sl 21 [], .sl 1 [], .sl 7 [], .int .i64 0] /\ tflat prog 58 = false /\ tbool prog 58 = false := by and_intros <;> kernel_rfl
@[go_sem] theorem t_59 : prog.cellsOf 59 = 13 /\ tl prog 59 = some (true, 13) /\ te prog 59 = none /\ tp prog 59 = some [(0, 8), (8, 1), (9, 1), (10, 1), (11, 1), (12, 1)] /\ tf prog 59 0 = some (0, true, 8) /\ tf prog 59 1 = some (8, false, 1) /\ tf prog 59 2 = some (9, false, 1) /\ tf prog 59 3 = some (10, false, 1) /\ tf prog 59 4 = some (11, false, 1) /\ tf prog 59 5 = some (12, false, 1) /\ tz prog 59 = some [.sl 1 [], .sl 1 [], .sl 1 [], .sl 1 [], .int .i64 0, .sl 4 [], .sl 1 [], .sl 1 [], .sl 1 [], .sl 21 [], .sl 1 [], .sl 7 [], .int .i64 0] /\ tflat prog 59 = false /\ tbool prog 59 = false := by and_intros <;> kernel_rfl
@[go_sem] theorem t_73 : prog.cellsOf 73 = 4 /\ tl prog 73 = some (true, 4) /\ te prog 73 = none /\ tp prog 73 = some [(0, 1), (1, 1), (2, 1), (3, 1)] /\ tf prog 73 0 = some (0, false, 1) /\ tf prog 73 1 = some (1, false, 1) /\ tf prog 73 2 = some (2, false, 1) /\ tf prog 73 3 = some (3, false, 1) /\ tz prog 73 = some [.bool false, .int .i64 0, .bool false, .int .i64 0] /\ tflat prog 73 = true /\ tbool prog 73 = false := by and_intros <;> kernel_rfl
@[go_sem] theorem t_74 : prog.cellsOf 74 = 4 /\ tl prog 74 = some (true, 4) /\ te prog 74 = none /\ tp prog 74 = some [(0, 1), (1, 1), (2, 1), (3, 1)] /\ tf prog 74 0 = some (0, false, 1) /\ tf prog 74 1 = some (1, false, 1) /\ tf prog 74 2 = some (2, false, 1) /\ tf prog 74 3 = some (3, false, 1) /\ teq prog 74 = some [1, 0, 1, 0] /\ tz prog 74 = some [.bool false, .int .i64 0, .bool false, .int .i64 0] /\ tflat prog 74 = true /\ tbool prog 74 = false := by and_intros <;> kernel_rfl
@[go_sem] theorem t_75 : prog.cellsOf 75 = 4 /\ tl prog 75 = some (true, 4) /\ te prog 75 = none /\ tp prog 75 = some [(0, 1), (1, 1), (2, 1), (3, 1)] /\ tf prog 75 0 = some (0, false, 1) /\ tf prog 75 1 = some (1, false, 1) /\ tf prog 75 2 = some (2, false, 1) /\ tf prog 75 3 = some (3, false, 1) /\ tz prog 75 = some [.int .i64 0, .int .i64 0, .int .i64 0, .int .i64 0] /\ tflat prog 75 = true /\ tbool prog 75 = false := by and_intros <;> kernel_rfl
@[go_sem] theorem t_76 : prog.cellsOf 76 = 4 /\ tl prog 76 = some (true, 4) /\ te prog 76 = none /\ tp prog 76 = some [(0, 1), (1, 1), (2, 1), (3, 1)] /\ tf prog 76 0 = some (0, false, 1) /\ tf prog 76 1 = some (1, false, 1) /\ tf prog 76 2 = some (2, false, 1) /\ tf prog 76 3 = some (3, false, 1) /\ teq prog 76 = some [0, 0, 0, 0] /\ tz prog 76 = some [.int .i64 0, .int .i64 0, .int .i64 0, .int .i64 0] /\ tflat prog 76 = true /\ tbool prog 76 = false := by and_intros <;> kernel_rfl
@[go_sem] theorem t_77 : prog.cellsOf 77 = 10 /\ tl prog 77 = some (true, 10) /\ te prog 77 = none /\ tp prog 77 = some [(0, 1), (1, 1), (2, 1), (3, 1), (4, 1), (5, 1), (6, 1), (7, 1), (8, 1), (9, 1)] /\ tf prog 77 0 = some (0, false, 1) /\ tf prog 77 1 = some (1, false, 1) /\ tf prog 77 2 = some (2, false, 1) /\ tf prog 77 3 = some (3, false, 1) /\ tf prog 77 4 = some (4, false, 1) /\ tf prog 77 5 = some (5, false, 1) /\ tf prog 77 6 = some (6, false, 1) /\ tf prog 77 7 = some (7, false, 1) /\ tf prog 77 8 = some (8, false, 1) /\ tf prog 77 9 = some (9, false, 1) /\ tz prog 77 = some [.int .i64 0, .int .i64 0, .int .i64 0, .int .i64 0, .int .i64 0, .int .i64 0, .int .i64 0, .int .i64 0, .int .i64 0, .bool false] /\ tflat prog 77 = true /\ tbool prog 77 = false := by and_intros <;> kernel_rfl
@[go_sem] theorem t_78 : prog.cellsOf 78 = 10 /\ tl prog 78 = some (true, 10) /\ te prog 78 = none /\ tp prog 78 = some [(0, 1), (1, 1), (2, 1), (3, 1), (4, 1), (5, 1), (6, 1), (7, 1), (8, 1), (9, 1)] /\ tf prog 78 0 = some (0, false, 1) /\ tf prog 78 1 = some (1, false, 1) /\ tf prog 78 2 = some (2, false, 1) /\ tf prog 78 3 = some (3, false, 1) /\ tf prog 78 4 = some (4, false, 1) /\ tf prog 78 5 = some (5, false, 1) /\ tf prog 78 6 = some (6, false, 1) /\ tf prog 78 7 = some (7, false, 1) /\ tf prog 78 8 = some (8, false, 1) /\ tf prog 78 9 = some (9, false, 1) /\ teq prog 78 = some [0, 0, 0, 0, 0, 0, 0, 0, 0, 1] /\ tz prog 78 = some [.int .i64 0, .int .i64 0, .int .i64 0, .int .i64 0, .int .i64 0, .int .i64 0, .int .i64 0, .int .i64 0, .int .i64 0, .bool false] /\ tflat prog 78 = true /\ tbool prog 78 = false := by and_intros <;> kernel_rfl
@[go_sem] theorem t_79 : prog.cellsOf 79 = 21 /\ tl prog 79 = some (true, 21) /\ te prog 79 = none /\ tp prog 79 = some [(0, 1), (1, 4), (5, 1), (6, 1), (7, 10), (17, 1), (18, 1), (19, 1), (20, 1)] /\ tf prog 79 0 = some (0, false, 1) /\ tf prog 79 1 = some (1, true, 4) /\ tf prog 79 2 = some (5, false, 1) /\ tf prog 79 3 = some (6, false, 1) /\ tf prog 79 4 = some (7, true, 10) /\ tf prog 79 5 = some (17, false, 1) /\ tf prog 79 6 = some (18, false, 1) /\ tf prog 79 7 = some (19, false, 1) /\ tf prog 79 8 = some (20, false, 1) /\ tz prog 79 = some [.bool false, .int .i64 0, .int .i64 0, .int .i64 0, .int .i64 0, .int .i64 0, .int .i64 0, .int .i64 0, .int .i64 0, .int .i64 0, .int .i64 0, .int .i64 0, .int .i64 0, .int .i64 0, .int .i64 0, .int .i64 0, .bool false, .int .i64 0, .int .i64 0, .int .i64 0, .int .i64 0] /\ tflat prog 79 = true /\ tbool prog 79 = false := by and_intros <;> kernel_rfl
@[go_sem] theorem t_80 : prog.cellsOf 80 = 21 /\ tl prog 80 = some (true, 21) /\ te prog 80 = none /\ tp prog 80 = some [(0, 1), (1, 4), (5, 1), (6, 1), (7, 10), (17, 1), (18, 1), (19, 1), (20, 1)] /\ tf prog 80 0 = some (0, false, 1) /\ tf prog 80 1 = some (1, true, 4) /\ tf prog 80 2 = some (5, false, 1) /\ tf prog 80 3 = some (6, false, 1) /\ tf prog 80 4 = some (7, true, 10) /\ tf prog 80 5 = some (17, false, 1) /\ tf prog 80 6 = some (18, false, 1) /\ tf prog 80 7 = some (19, false, 1) /\ tf prog 80 8 = some (20, false, 1) /\ teq prog 80 = some [1, 0, 0, 0, 0, 0, 0, 0, 0, 0, 0, 0, 0, 0, 0, 0, 1, 0, 0, 0, 0] /\ tz prog 80 = some [.bool false, .int .i64 0, .int .i64 0, .int .i64 0, .int .i64 0, .int .i64 0, .int .i64 0, .int .i64 0, .int .i64 0, .int .i64 0, .int .i64 0, .int .i64 0, .int .i64 0, .int .i64 0, .int .i64 0, .int .i64 0, .bool false, .int .i64 0, .int .i64 0, .int .i64 0, .int .i64 0] /\ tflat prog 80 = true /\ tbool prog 80 = false := by and_intros <;> kernel_rfl
@[go_sem] theorem t_99 : prog.cellsOf 99 = 1 /\ tl prog 99 = some (false, 1) /\ te prog 99 = some (76, 4, 32) /\ tz prog 99 = some [.sl 4 []] /\ tflat prog 99 = false /\ tbool prog 99 = false := by and_intros <;> kernel_rfl
@[go_sem] theorem t_100 : prog.cellsOf 100 = 1 /\ tl prog 100 = some (true, 1) /\ te prog 100 = none /\ tp prog 100 = some [(0, 1)] /\ tf prog 100 0 = some (0, false, 1) /\ tz prog 100 = some [.sl 4 []] /\ tflat prog 100 = false /\ tbool prog 100 = false := by and_intros <;> kernel_rfl
@[go_sem] theorem t_101 : prog.cellsOf 101 = 1 /\ tl prog 101 = some (true, 1) /\ te prog 101 = none /\ tp prog 101 = some [(0, 1)] /\ tf prog 101 0 = some (0, false, 1) /\ tz prog 101 = some [.sl 4 []] /\ tflat prog 101 = false /\ tbool prog 101 = false := by and_intros <;> kernel_rfl
@[go_sem] theorem t_107 : prog.cellsOf 107 = 1 /\ tl prog 107 = some (false, 1) /\ te prog 107 = some (118, 4, 32) /\ tz prog 107 = some [.sl 4 []] /\ tflat prog 107 = false /\ tbool prog 107 = false := by and_intros <;> kernel_rfl
@[go_sem] theorem t_108 : prog.cellsOf 108 = 1 /\ tl prog 108 = some (true, 1) /\ te prog 108 = none /\ tp prog 108 = some [(0, 1)] /\ tf prog 108 0 = some (0, false, 1) /\ tz prog 108 = some [.sl 4 []] /\ tflat prog 108 = false /\ tbool prog 108 = false := by and_intros <;> kernel_rfl
@[go_sem] theorem tc_109 : prog.cellsOf 109 = 1 := by kernel_rfl
@[go_sem] theorem t_109 : tl prog 109 = some (true, 1) /\ te prog 109 = none /\ tp prog 109 = some [(0, 1)] /\ tf prog 109 0 = some (0, false, 1) /\ tz prog 109 = some [.sl 4 []] /\ tflat prog 109 = false /\ tbool prog 109 = false := by and_intros <;> kernel_rfl
@[go_sem] theorem tc_118 : prog.cellsOf 118 = 4 := by kernel_rfl
@[go_sem] theorem t_118 : tl prog 118 = some (true, 4) /\ te prog 118 = none /\ tp prog 118 = some [(0, 1), (1, 1), (2, 1), (3, 1)] /\ tf prog 118 0 = some (0, false, 1) /\ tf prog 118 1 = some (1, false, 1) /\ tf prog 118 2 = some (2, false, 1) /\ tf prog 118 3 = some (3, false, 1) /\ teq prog 118 = some [0, 0, 0, 0] /\ tz prog 118 = some [.int .i64 0, .int .i64 0, .int .i64 0, .int .i64 0] /\ tflat prog 118 = true /\ tbool prog 118 = false := by and_intros <;> kernel_rfl
@[go_sem] theorem t_119 : prog.cellsOf 119 = 10 /\ tl prog 119 = some (true, 10) /\ te prog 119 = none /\ tp prog 119 = some [(0, 1), (1, 1), (2, 1), (3, 1), (4, 1), (5, 1), (6, 1), (7, 1), (8, 1), (9, 1)] /\ tf prog 119 0 = some (0, false, 1) /\ tf prog 119 1 = some (1, false, 1) /\ tf prog 119 2 = some (2, false, 1) /\ tf prog 119 3 = some (3, false, 1) /\ tf prog 119 4 = some (4, false, 1) /\ tf prog 119 5 = some (5, false, 1) /\ tf prog 119 6 = some (6, false, 1) /\ tf prog 119 7 = some (7, false, 1) /\ tf prog 119 8 = some (8, false, 1) /\ tf prog 119 9 = some (9, false, 1) /\ teq prog 119 = some [0, 0, 0, 0, 0, 0, 0, 0, 0, 1] /\ tz prog 119 = some [.int .i64 0, .int .i64 0, .int .i64 0, .int .i64 0, .int .i64 0, .int .i64 0, .int .i64 0, .int .i64 0, .int .i64 0, .bool false] /\ tflat prog 119 = true /\ tbool prog 119 = false := by and_intros <;> kernel_rfl
@[go_sem] theorem t_120 : prog.cellsOf 120 = 21 /\ tl prog 120 = some (true, 21) /\ te prog 120 = none /\ tp prog 120 = some [(0, 1), (1, 4), (5, 1), (6, 1), (7, 10), (17, 1), (18, 1), (19, 1), (20, 1)] /\ tf prog 120 0 = some (0, false, 1) /\ tf prog 120 1 = some (1, true, 4) /\ tf prog 120 2 = some (5, false, 1) /\ tf prog 120 3 = some (6, false, 1) /\ tf prog 120 4 = some (7, true, 10) /\ tf prog 120 5 = some (17, false, 1) /\ tf prog 120 6 = some (18, false, 1) /\ tf prog 120 7 = some (19, false, 1) /\ tf prog 120 8 = some (20, false, 1) /\ tz prog 120 = some [.bool false, .int .i64 0, .int .i64 0, .int .i64 0, .int .i64 0, .int .i64 0, .int .i64 0, .int .i64 0, .int .i64 0, .int .i64 0, .int .i64 0, .int .i64 0, .int .i64 0, .int .i64 0, .int .i64 0, .int .i64 0, .bool false, .int .i64 0, .int .i64 0, .int .i64 0, .int .i64 0] /\ tflat prog 120 = true /\ tbool prog 120 = false := by and_intros <;> kernel_rfl
@[go_sem] theorem tc_121 : prog.cellsOf 121 = 21 := by kernel_rfl
@[go_sem] theorem t_121 : tl prog 121 = some (true, 21) /\ te prog 121 = none /\ tp prog 121 = some [(0, 1), (1, 4), (5, 1), (6, 1), (7, 10), (17, 1), (18, 1), (19, 1), (20, 1)] /\ tf prog 121 0 = some (0, false, 1) /\ tf prog 121 1 = some (1, true, 4) /\ tf prog 121 2 = some (5, false, 1) /\ tf prog 121 3 = some (6, false, 1) /\ tf prog 121 4 = some (7, true, 10) /\ tf prog 121 5 = some (17, false, 1) /\ tf prog 121 6 = some (18, false, 1) /\ tf prog 121 7 = some (19, false, 1) /\ tf prog 121 8 = some (20, false, 1) /\ teq prog 121 = some [1, 0, 0, 0, 0, 0, 0, 0, 0, 0, 0, 0, 0, 0, 0, 0, 1, 0, 0, 0, 0] /\ tz prog 121 = some [.bool false, .int .i64 0, .int .i64 0, .int .i64 0, .int .i64 0, .int .i64 0, .int .i64 0, .int .i64 0, .int .i64 0, .int .i64 0, .int .i64 0, .int .i64 0, .int .i64 0, .int .i64 0, .int .i64 0, .int .i64 0, .bool false, .int .i64 0, .int .i64 0, .int .i64 0, .int .i64 0] /\ tflat prog 121 = true /\ tbool prog 121 = false := by and_intros <;> kernel_rfl
@[go_sem] theorem t_123 : prog.cellsOf 123 = 7 /\ tl prog 123 = some (true, 7) /\ te prog 123 = none /\ tp prog 123 = some [(0, 1), (1, 1), (2, 1), (3, 1), (4, 1), (5, 1), (6, 1)] /\ tf prog 123 0 = some (0, false, 1) /\ tf prog 123 1 = some (1, false, 1) /\ tf prog 123 2 = some (2, false, 1) /\ tf prog 123 3 = some (3, false, 1) /\ tf prog 123 4 = some (4, false, 1) /\ tf prog 123 5 = some (5, false, 1) /\ tf prog 123 6 = some (6, false, 1) /\ tz prog 123 = some [.int .i64 0, .int .i64 0, .int .i64 0, .int .i64 0, .int .i64 0, .int .i64 0, .int .i64 0] /\ tflat prog 123 = true /\ tbool prog 123 = false := by and_intros <;> kernel_rfl
@[go_sem] theorem t_124 : prog.cellsOf 124 = 7 /\ tl prog 124 = some (true, 7) /\ te prog 124 = none /\ tp prog 124 = some [(0, 1), (1, 1), (2, 1), (3, 1), (4, 1), (5, 1), (6, 1)] /\ tf prog 124 0 = some (0, false, 1) /\ tf prog 124 1 = some (1, false, 1) /\ tf prog 124 2 = some (2, false, 1) /\ tf prog 124 3 = some (3, false, 1) /\ tf prog 124 4 = some (4, false, 1) /\ tf prog 124 5 = some (5, false, 1) /\ tf prog 124 6 = some (6, false, 1) /\ teq prog 124 = some [0, 0, 0, 0, 0, 0, 0] /\ tz prog 124 = some [.int .i64 0, .int .i64 0, .int .i64 0, .int .i64 0, .int .i64 0, .int .i64 0, .int .i64 0] /\ tflat prog 124 = true /\ tbool prog 124 = false := by and_intros <;> kernel_rfl
@[go_sem] theorem tc_126 : prog.cellsOf 126 = 7 := by kernel_rfl
@[go_sem] theorem t_126 : tl prog 126 = some (true, 7) /\ te prog 126 = none /\ tp prog 126 = some [(0, 1), (1, 1), (2, 1), (3, 1), (4, 1), (5, 1), (6, 1)] /\ tf prog 126 0 = some (0, false, 1) /\ tf prog 126 1 = some (1, false, 1) /\ tf prog 126 2 = some (2, false, 1) /\ tf prog 126 3 = some (3, false, 1) /\ tf prog 126 4 = some (4, false, 1) /\ tf prog 126 5 = some (5, false, 1) /\ tf prog 126 6 = some (6, false, 1) /\ teq prog 126 = some [0, 0, 0, 0, 0, 0, 0] /\ tz prog 126 = some [.int .i64 0, .int .i64 0, .int .i64 0, .int .i64 0, .int .i64 0, .int .i64 0, .int .i64 0] /\ tflat prog 126 = true /\ tbool prog 126 = false := by and_intros <;> kernel_rfl
@[go_sem] theorem t_148 : prog.cellsOf 148 = 1 /\ tl prog 148 = some (false, 1) /\ te prog 148 = none /\ tz prog 148 = some [.int .u64 0] /\ tflat prog 148 = true /\ tbool prog 148 = false /\ tkind prog 148 = some .u64 := by and_intros <;> kernel_rfl
@[go_sem] theorem t_155 : prog.cellsOf 155 = 1 /\ tl prog 155 = some (false, 1) /\ te prog 155 = some (257, 2, 16) /\ tz prog 155 = some [.sl 2 []] /\ tflat prog 155 = false /\ tbool prog 155 = false := by and_intros <;> kernel_rfl
@[go_sem] theorem t_156 : prog.cellsOf 156 = 1 /\ tl prog 156 = some (true, 1) /\ te prog 156 = none /\ tp prog 156 = some [(0, 1)] /\ tf prog 156 0 = some (0, false, 1) /\ tz prog 156 = some [.sl 2 []] /\ tflat prog 156 = false /\ tbool prog 156 = false := by and_intros <;> kernel_rfl
@[go_sem] theorem tc_157 : prog.cellsOf 157 = 1 := by kernel_rfl
@[go_sem] theorem t_157 : tl prog 157 = some (true, 1) /\ te prog 157 = none /\ tp prog 157 = some [(0, 1)] /\ tf prog 157 0 = some (0, false, 1) /\ tz prog 157 = some [.sl 2 []] /\ tflat prog 157 = false /\ tbool prog 157 = false := by and_intros <;> kernel_rfl
@[go_sem] theorem t_163 : prog.cellsOf 163 = 1 /\ tl prog 163 = some (false, 1) /\ te prog 163 = some (167, 2, 16) /\ tz prog 163 = some [.sl 2 []] /\ tflat prog 163 = false /\ tbool prog 163 = false := by and_intros <;> kernel_rfl
@[go_sem] theorem t_166 : prog.cellsOf 166 = 2 /\ tl prog 166 = some (true, 2) /\ te prog 166 = none /\ tp prog 166 = some [(0, 1), (1, 1)] /\ tf prog 166 0 = some (0, false, 1) /\ tf prog 166 1 = some (1, false, 1) /\ tz prog 166 = some [.int .i64 0, .int .i64 0] /\ tflat prog 166 = true /\ tbool prog 166 = false := by and_intros <;> kernel_rfl
@[go_sem] theorem t_167 : prog.cellsOf 167 = 2 /\ tl prog 167 = some (true, 2) /\ te prog 167 = none /\ tp prog 167 = some [(0, 1), (1, 1)] /\ tf prog 167 0 = some (0, false, 1) /\ tf prog 167 1 = some (1, false, 1) /\ teq prog 167 = some [0, 0] /\ tz prog 167 = some [.int .i64 0, .int .i64 0] /\ tflat prog 167 = true /\ tbool prog 167 = false := by and_intros <;> kernel_rfl
@[go_sem] theorem t_171 : prog.cellsOf 171 = 1 /\ tl prog 171 = some (true, 1) /\ te prog 171 = none /\ tp prog 171 = some [(0, 1)] /\ tf prog 171 0 = some (0, false, 1) /\ tz prog 171 = some [.sl 2 []] /\ tflat prog 171 = false /\ tbool prog 171 = false := by and_intros <;> kernel_rfl
@[go_sem] theorem t_172 : prog.cellsOf 172 = 1 /\ tl prog 172 = some (true, 1) /\ te prog 172 = none /\ tp prog 172 = some [(0, 1)] /\ tf prog 172 0 = some (0, false, 1) /\ tz prog 172 = some [.sl 2 []] /\ tflat prog 172 = false /\ tbool prog 172 = false := by and_intros <;> kernel_rfl
@[go_sem] theorem t_213 : prog.cellsOf 213 = 1 /\ tl prog 213 = some (true, 1) /\ te prog 213 = none /\ tp prog 213 = some [(0, 1)] /\ tf prog 213 0 = some (0, false, 1) /\ tz prog 213 = some [.sl 1 []] /\ tflat prog 213 = false /\ tbool prog 213 = false := by and_intros <;> kernel_rfl
@[go_sem] theorem t_214 : prog.cellsOf 214 = 1 /\ tl prog 214 = some (true, 1) /\ te prog 214 = none /\ tp prog 214 = some [(0, 1)] /\ tf prog 214 0 = some (0, false, 1) /\ tz prog 214 = some [.sl 1 []] /\ tflat prog 214 = false /\ tbool prog 214 = false := by and_intros <;> kernel_rfl
@[go_sem] theorem tc_220 : prog.cellsOf 220 = 4 := by kernel_rfl
@[go_sem] theorem t_220 : tl prog 220 = some (true, 4) /\ te prog 220 = none /\ tp prog 220 = some [(0, 1), (1, 1), (2, 1), (3, 1)] /\ tf prog 220 0 = some (0, false, 1) /\ tf prog 220 1 = some (1, false, 1) /\ tf prog 220 2 = some (2, false, 1) /\ tf prog 220 3 = some (3, false, 1) /\ teq prog 220 = some [1, 0, 1, 0] /\ tz prog 220 = some [.bool false, .int .i64 0, .bool false, .int .i64 0] /\ tflat prog 220 = true /\ tbool prog 220 = false := by and_intros <;> kernel_rfl
@[go_sem] theorem t_225 : prog.cellsOf 225 = 24 /\ tl prog 225 = some (true, 24) /\ te prog 225 = none /\ ta prog 225 = some (24, 4, 1) /\ tp prog 225 = some [(0, 1), (1, 1), (2, 1), (3, 1), (4, 1), (5, 1), (6, 1), (7, 1), (8, 1), (9, 1), (10, 1), (11, 1), (12, 1), (13, 1), (14, 1), (15, 1), (16, 1), (17, 1), (18, 1), (19, 1), (20, 1), (21, 1), (22, 1), (23, 1)] /\ tz prog 225 = some [.bool false, .bool false, .bool false, .bool false, .bool false, .bool false, .bool false, .bool false, .bool false, .bool false, .bool false, .bool false, .bool false, .bool false, .bool false, .bool false, .bool false, .bool false, .bool false, .bool false, .bool false, .bool false, .bool false, .bool false] /\ tflat prog 225 = true /\ tbool prog 225 = false := by and_intros <;> kernel_rfl
@[go_sem] theorem tc_250 : prog.cellsOf 250 = 1 := by kernel_rfl
@[go_sem] theorem t_250 : tl prog 250 = some (true, 1) /\ te prog 250 = none /\ tp prog 250 = some [(0, 1)] /\ tf prog 250 0 = some (0, false, 1) /\ tz prog 250 = some [.sl 1 []] /\ tflat prog 250 = false /\ tbool prog 250 = false := by and_intros <;> kernel_rfl
@[go_sem] theorem tc_257 : prog.cellsOf 257 = 2 := by kernel_rfl
@[go_sem] theorem t_257 : tl prog 257 = some (true, 2) /\ te prog 257 = none /\ tp prog 257 = some [(0, 1), (1, 1)] /\ tf prog 257 0 = some (0, false, 1) /\ tf prog 257 1 = some (1, false, 1) /\ teq prog 257 = some [0, 0] /\ tz prog 257 = some [.int .i64 0, .int .i64 0] /\ tflat prog 257 = true /\ tbool prog 257 = false := by and_intros <;> kernel_rfl
@[go_sem] theorem t_269 : prog.cellsOf 269 = 1 /\ tl prog 269 = some (false, 1) /\ te prog 269 = some (44, 1, 24) /\ tz prog 269 = some [.sl 1 []] /\ tflat prog 269 = false /\ tbool prog 269 = false := by and_intros <;> kernel_rfl
@[go_sem] theorem t_277 : prog.cellsOf 277 = 3 /\ tl prog 277 = some (true, 3) /\ te prog 277 = none /\ ta prog 277 = some (3, 3, 1) /\ tp prog 277 = some [(0, 1), (1, 1), (2, 1)] /\ tz prog 277 = some [.int .i64 0, .int .i64 0, .int .i64 0] /\ tflat prog 277 = true /\ tbool prog 277 = false := by and_intros <;> kernel_rfl
theorem e2 : enters prog 2 = true := by kernel_rfl
theorem e4 : enters prog 4 = true := by kernel_rfl
theorem e7 : enters prog 7 = true := by kernel_rfl
theorem e9 : enters prog 9 = true := by kernel_rfl
theorem e11 : enters prog 11 = true := by kernel_rfl
theorem e12 : enters prog 12 = true := by kernel_rfl
theorem e13 : enters prog 13 = true := by kernel_rfl
theorem e14 : enters prog 14 = true := by kernel_rfl
theorem e15 : enters prog 15 = true := by kernel_rfl
theorem e16 : enters prog 16 = true := by kernel_rfl
theorem e17 : enters prog 17 = true := by kernel_rfl
theorem e18 : enters prog 18 = true := by kernel_rfl
theorem e19 : enters prog 19 = true := by kernel_rfl
theorem e23 : enters prog 23 = true := by kernel_rfl
theorem e24 : enters prog 24 = true := by kernel_rfl
theorem e25 : enters prog 25 = true := by kernel_rfl
theorem e26 : enters prog 26 = true := by kernel_rfl
theorem e27 : enters prog 27 = true := by kernel_rfl
theorem e28 : enters prog 28 = true := by kernel_rfl
theorem e29 : enters prog 29 = true := by kernel_rfl
theorem e30 : enters prog 30 = true := by kernel_rfl
theorem e31 : enters prog 31 = true := by kernel_rfl
theorem e32 : enters prog 32 = true := by kernel_rfl
theorem e33 : enters prog 33 = true := by kernel_rfl
theorem e34 : enters prog 34 = true := by kernel_rfl
theorem e35 : enters prog 35 = true := by kernel_rfl
theorem e36 : enters prog 36 = true := by kernel_rfl
theorem e37 : enters prog 37 = true := by kernel_rfl
theorem e38 : enters prog 38 = true := by kernel_rfl
theorem e39 : enters prog 39 = true := by kernel_rfl
theorem e40 : enters prog 40 = true := by kernel_rfl
theorem e41 : enters prog 41 = true := by kernel_rfl
theorem e42 : enters prog 42 = true := by kernel_rfl
theorem e43 : enters prog 43 = true := by kernel_rfl
theorem e44 : enters prog 44 = true := by kernel_rfl
theorem e45 : enters prog 45 = true := by kernel_rfl
theorem e46 : enters prog 46 = true := by kernel_rfl
theorem e47 : enters prog 47 = true := by kernel_rfl
theorem e48 : enters prog 48 = true := by kernel_rfl
theorem e51 : enters prog 51 = true := by kernel_rfl
theorem e59 : enters prog 59 = true := by kernel_rfl
theorem e60 : enters prog 60 = true := by kernel_rfl
theorem e61 : enters prog 61 = true := by kernel_rfl
theorem e62 : enters prog 62 = true := by kernel_rfl
theorem e63 : enters prog 63 = true := by kernel_rfl
theorem e64 : enters prog 64 = true := by kernel_rfl
theorem e65 : enters prog 65 = true := by kernel_rfl
theorem e66 : enters prog 66 = true := by kernel_rfl
theorem e67 : enters prog 67 = true := by kernel_rfl
theorem e68 : enters prog 68 = true := by kernel_rfl
theorem e69 : enters prog 69 = true := by kernel_rfl
theorem e70 : enters prog 70 = true := by kernel_rfl
theorem e71 : enters prog 71 = true := by kernel_rfl
theorem e72 : enters prog 72 = true := by kernel_rfl
theorem e73 : enters prog 73 = true := by kernel_rfl
theorem e74 : enters prog 74 = true := by kernel_rfl
theorem e75 : enters prog 75 = true := by kernel_rfl
theorem e76 : enters prog 76 = true := by kernel_rfl
theorem e77 : enters prog 77 = true := by kernel_rfl
theorem e78 : enters prog 78 = true := by kernel_rfl
theorem e79 : enters prog 79 = true := by kernel_rfl
theorem e80 : enters prog 80 = true := by kernel_rfl
theorem e81 : enters prog 81 = true := by kernel_rfl
theorem e82 : enters prog 82 = true := by kernel_rfl
theorem e83 : enters prog 83 = true := by kernel_rfl
theorem e84 : enters prog 84 = true := by kernel_rfl
theorem e85 : enters prog 85 = true := by kernel_rfl
theorem e86 : enters prog 86 = true := by kernel_rfl
theorem e87 : enters prog 87 = true := by kernel_rfl
theorem e88 : enters prog 88 = true := by kernel_rfl
theorem e89 : enters prog 89 = true := by kernel_rfl
theorem e90 : enters prog 90 = true := by kernel_rfl
theorem e91 : enters prog 91 = true := by kernel_rfl
theorem e92 : enters prog 92 = true := by kernel_rfl
theorem e93 : enters prog 93 = true := by kernel_rfl
theorem e94 : enters prog 94 = true := by kernel_rfl
theorem e103 : enters prog 103 = true := by kernel_rfl
theorem e110 : enters prog 110 = true := by kernel_rfl
theorem e111 : enters prog 111 = true := by kernel_rfl
theorem e112 : enters prog 112 = true := by kernel_rfl
theorem e113 : enters prog 113 = true := by kernel_rfl
theorem e114 : enters prog 114 = true := by kernel_rfl
theorem e115 : enters prog 115 = true := by kernel_rfl
theorem e116 : enters prog 116 = true := by kernel_rfl
theorem e117 : enters prog 117 = true := by kernel_rfl
theorem e118 : enters prog 118 = true := by kernel_rfl
theorem e119 : enters prog 119 = true := by kernel_rfl
theorem e120 : enters prog 120 = true := by kernel_rfl
theorem e121 : enters prog 121 = true := by kernel_rfl
theorem e122 : enters prog 122 = true := by kernel_rfl
theorem e123 : enters prog 123 = true := by kernel_rfl
theorem e124 : enters prog 124 = true := by kernel_rfl
theorem e125 : enters prog 125 = true := by kernel_rfl
theorem e126 : enters prog 126 = true := by kernel_rfl
theorem e127 : enters prog 127 = true := by kernel_rfl
theorem e128 : enters prog 128 = true := by kernel_rfl
theorem e129 : enters prog 129 = true := by kernel_rfl
theorem e130 : enters prog 130 = true := by kernel_rfl
theorem e131 : enters prog 131 = true := by kernel_rfl
theorem e132 : enters prog 132 = true := by kernel_rfl
theorem e133 : enters prog 133 = true := by kernel_rfl
theorem e134 : enters prog 134 = true := by kernel_rfl
theorem e135 : enters prog 135 = true := by kernel_rfl
theorem e136 : enters prog 136 = true := by kernel_rfl
theorem e137 : enters prog 137 = true := by kernel_rfl
theorem e138 : enters prog 138 = true := by kernel_rfl
theorem e139 : enters prog 139 = true := by kernel_rfl
theorem e140 : enters prog 140 = true := by kernel_rfl
theorem e141 : enters prog 141 = true := by kernel_rfl
theorem e142 : enters prog 142 = true := by kernel_rfl
theorem e143 : enters prog 143 = true := by kernel_rfl
theorem e144 : enters prog 144 = true := by kernel_rfl
theorem e145 : enters prog 145 = true := by kernel_rfl
theorem e146 : enters prog 146 = true := by kernel_rfl
theorem e147 : enters prog 147 = true := by kernel_rfl
theorem e148 : enters prog 148 = true := by kernel_rfl
theorem e149 : enters prog 149 = true := by kernel_rfl
theorem e150 : enters prog 150 = true := by kernel_rfl
theorem e151 : enters prog 151 = true := by kernel_rfl
theorem e152 : enters prog 152 = true := by kernel_rfl
theorem e153 : enters prog 153 = true := by kernel_rfl
theorem e154 : enters prog 154 = true := by kernel_rfl
theorem e155 : enters prog 155 = true := by kernel_rfl
theorem e156 : enters prog 156 = true := by kernel_rfl
theorem e166 : enters prog 166 = true := by kernel_rfl
theorem e173 : enters prog 173 = true := by kernel_rfl
theorem e174 : enters prog 174 = true := by kernel_rfl
theorem e175 : enters prog 175 = true := by kernel_rfl
theorem e176 : enters prog 176 = true := by kernel_rfl
theorem e177 : enters prog 177 = true := by kernel_rfl
theorem e178 : enters prog 178 = true := by kernel_rfl
theorem e179 : enters prog 179 = true := by kernel_rfl
theorem e180 : enters prog 180 = true := by kernel_rfl
theorem e181 : enters prog 181 = true := by kernel_rfl
theorem e182 : enters prog 182 = true := by kernel_rfl
theorem e183 : enters prog 183 = true := by kernel_rfl
theorem e184 : enters prog 184 = true := by kernel_rfl
theorem e185 : enters prog 185 = true := by kernel_rfl
theorem e186 : enters prog 186 = true := by kernel_rfl
theorem e187 : enters prog 187 = true := by kernel_rfl
theorem e188 : enters prog 188 = true := by kernel_rfl
theorem e189 : enters prog 189 = true := by kernel_rfl
theorem e190 : enters prog 190 = true := by kernel_rfl
theorem e191 : enters prog 191 = true := by kernel_rfl
theorem e192 : enters prog 192 = true := by kernel_rfl
theorem e193 : enters prog 193 = true := by kernel_rfl
theorem e194 : enters prog 194 = true := by kernel_rfl
theorem e195 : enters prog 195 = true := by kernel_rfl
theorem e196 : enters prog 196 = true := by kernel_rfl
theorem e197 : enters prog 197 = true := by kernel_rfl
theorem e198 : enters prog 198 = true := by kernel_rfl
theorem e199 : enters prog 199 = true := by kernel_rfl
theorem e200 : enters prog 200 = true := by kernel_rfl
theorem e201 : enters prog 201 = true := by kernel_rfl
theorem e202 : enters prog 202 = true := by kernel_rfl
theorem e221 : enters prog 221 = true := by kernel_rfl
theorem e222 : enters prog 222 = true := by kernel_rfl
theorem e223 : enters prog 223 = true := by kernel_rfl
theorem e224 : enters prog 224 = true := by kernel_rfl
theorem e225 : enters prog 225 = true := by kernel_rfl
theorem e226 : enters prog 226 = true := by kernel_rfl
theorem e227 : enters prog 227 = true := by kernel_rfl
theorem e228 : enters prog 228 = true := by kernel_rfl
theorem e229 : enters prog 229 = true := by kernel_rfl
theorem e230 : enters prog 230 = true := by kernel_rfl
theorem e231 : enters prog 231 = true := by kernel_rfl
theorem e232 : enters prog 232 = true := by kernel_rfl
theorem e233 : enters prog 233 = true := by kernel_rfl
theorem e234 : enters prog 234 = true := by kernel_rfl
theorem e235 : enters prog 235 = true := by kernel_rfl
theorem e236 : enters prog 236 = true := by kernel_rfl
theorem e237 : enters prog 237 = true := by kernel_rfl
theorem e238 : enters prog 238 = true := by kernel_rfl
theorem e239 : enters prog 239 = true := by kernel_rfl
theorem e240 : enters prog 240 = true := by kernel_rfl
theorem e241 : enters prog 241 = true := by kernel_rfl
theorem e242 : enters prog 242 = true := by kernel_rfl
theorem e250 : enters prog 250 = true := by kernel_rfl
theorem e251 : enters prog 251 = true := by kernel_rfl
theorem e252 : enters prog 252 = true := by kernel_rfl
theorem e253 : enters prog 253 = true := by kernel_rfl
theorem e254 : enters prog 254 = true := by kernel_rfl
theorem e255 : enters prog 255 = true := by kernel_rfl
theorem e256 : enters prog 256 = true := by kernel_rfl
theorem e257 : enters prog 257 = true := by kernel_rfl
theorem e258 : enters prog 258 = true := by kernel_rfl
theorem e259 : enters prog 259 = true := by kernel_rfl
theorem e260 : enters prog 260 = true := by kernel_rfl
theorem e261 : enters prog 261 = true := by kernel_rfl
theorem e262 : enters prog 262 = true := by kernel_rfl
theorem e263 : enters prog 263 = true := by kernel_rfl
theorem e264 : enters prog 264 = true := by kernel_rfl
theorem e265 : enters prog 265 = true := by kernel_rfl
theorem e267 : enters prog 267 = true := by kernel_rfl
theorem e268 : enters prog 268 = true := by kernel_rfl
theorem e269 : enters prog 269 = true := by kernel_rfl
theorem e270 : enters prog 270 = true := by kernel_rfl
theorem e271 : enters prog 271 = true := by kernel_rfl
theorem e272 : enters prog 272 = true := by kernel_rfl
theorem e273 : enters prog 273 = true := by kernel_rfl
theorem mixed : prog.follows .mixedOrders = true := by kernel_rfl
end Go.Proofs.YtebinioiggfplaaGreat.Ty
