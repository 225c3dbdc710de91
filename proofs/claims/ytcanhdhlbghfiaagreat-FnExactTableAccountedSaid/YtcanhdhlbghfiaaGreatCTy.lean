/- Facts on the types of the translation, each closed. Written by wip/tools/gen.py. -/
import Derived.Test.YtcanhdhlbghfiaaGreatChecked
import Derived.Test.YtcanhdhlbghfiaaGreatAbsCode
import Derived.KernelRfl
namespace Go.Proofs.YtcanhdhlbghfiaaGreat.Ty
open Go.Proofs.Tryz Go.Abs Go.Proofs
@[go_sem] theorem tc_3 : prog.cellsOf 3 = 1 := by kernel_rfl
@[go_sem] theorem t_3 : tl prog 3 = some (false, 1) /\ te prog 3 = none /\ tz prog 3 = some [.int .i64 0] /\ tflat prog 3 = true /\ tbool prog 3 = false /\ tkind prog 3 = some .i64 := by and_intros <;> kernel_rfl
@[go_sem] theorem t_4 : prog.cellsOf 4 = 1 /\ tl prog 4 = some (false, 1) /\ te prog 4 = none /\ tz prog 4 = some [.bool false] /\ tflat prog 4 = true /\ tbool prog 4 = true := by and_intros <;> kernel_rfl
@[go_sem] theorem t_22 : prog.cellsOf 22 = 1 /\ tl prog 22 = some (false, 1) /\ te prog 22 = some (3, 1, 8) /\ tz prog 22 = some [.sl 1 []] /\ tflat prog 22 = false /\ tbool prog 22 = false := by and_intros <;> kernel_rfl
@[go_sem] theorem t_23 : prog.cellsOf 23 = 2 /\ tl prog 23 = some (true, 2) /\ te prog 23 = none /\ tp prog 23 = some [(0, 1), (1, 1)] /\ tf prog 23 0 = some (0, false, 1) /\ tf prog 23 1 = some (1, false, 1) /\ tz prog 23 = some [.sl 1 [], .sl 1 []] /\ tflat prog 23 = false /\ tbool prog 23 = false := by and_intros <;> kernel_rfl
@[go_sem] theorem t_24 : prog.cellsOf 24 = 2 /\ tl prog 24 = some (true, 2) /\ te prog 24 = none /\ tp prog 24 = some [(0, 1), (1, 1)] /\ tf prog 24 0 = some (0, false, 1) /\ tf prog 24 1 = some (1, false, 1) /\ tz prog 24 = some [.sl 1 [], .sl 1 []] /\ tflat prog 24 = false /\ tbool prog 24 = false := by and_intros <;> kernel_rfl
@[go_sem] theorem t_25 : prog.cellsOf 25 = 1 /\ tl prog 25 = some (false, 1) /\ te prog 25 = some (373, 1, 24) /\ tz prog 25 = some [.sl 1 []] /\ tflat prog 25 = false /\ tbool prog 25 = false := by and_intros <;> kernel_rfl
@[go_sem] theorem t_26 : prog.cellsOf 26 = 2 /\ tl prog 26 = some (true, 2) /\ te prog 26 = none /\ tp prog 26 = some [(0, 1), (1, 1)] /\ tf prog 26 0 = some (0, false, 1) /\ tf prog 26 1 = some (1, false, 1) /\ tz prog 26 = some [.sl 1 [], .sl 1 []] /\ tflat prog 26 = false /\ tbool prog 26 = false := by and_intros <;> kernel_rfl
@[go_sem] theorem t_27 : prog.cellsOf 27 = 2 /\ tl prog 27 = some (true, 2) /\ te prog 27 = none /\ tp prog 27 = some [(0, 1), (1, 1)] /\ tf prog 27 0 = some (0, false, 1) /\ tf prog 27 1 = some (1, false, 1) /\ tz prog 27 = some [.sl 1 [], .sl 1 []] /\ tflat prog 27 = false /\ tbool prog 27 = false := by and_intros <;> kernel_rfl
@[go_sem] theorem t_28 : prog.cellsOf 28 = 4 /\ tl prog 28 = some (true, 4) /\ te prog 28 = none /\ tp prog 28 = some [(0, 2), (2, 2)] /\ tf prog 28 0 = some (0, true, 2) /\ tf prog 28 1 = some (2, true, 2) /\ tz prog 28 = some [.sl 1 [], .sl 1 [], .sl 1 [], .sl 1 []] /\ tflat prog 28 = false /\ tbool prog 28 = false := by and_intros <;> kernel_rfl
@[go_sem] theorem t_29 : prog.cellsOf 29 = 4 /\ tl prog 29 = some (true, 4) /\ te prog 29 = none /\ tp prog 29 = some [(0, 2), (2, 2)] /\ tf prog 29 0 = some (0, true, 2) /\ tf prog 29 1 = some (2, true, 2) /\ tz prog 29 = some [.sl 1 [], .sl 1 [], .sl 1 [], .sl 1 []] /\ tflat prog 29 = false /\ tbool prog 29 = false := by and_intros <;> kernel_rfl
@[go_sem] theorem t_30 : prog.cellsOf 30 = 1 /\ tl prog 30 = some (false, 1) /\ te prog 30 = some (335, 4, 32) /\ tz prog 30 = some [.sl 4 []] /\ tflat prog 30 = false /\ tbool prog 30 = false := by and_intros <;> kernel_rfl
@[go_sem] theorem t_31 : prog.cellsOf 31 = 2 /\ tl prog 31 = some (true, 2) /\ te prog 31 = none /\ tp prog 31 = some [(0, 1), (1, 1)] /\ tf prog 31 0 = some (0, false, 1) /\ tf prog 31 1 = some (1, false, 1) /\ tz prog 31 = some [.int .i64 0, .sl 4 []] /\ tflat prog 31 = false /\ tbool prog 31 = false := by and_intros <;> kernel_rfl
@[go_sem] theorem t_32 : prog.cellsOf 32 = 2 /\ tl prog 32 = some (true, 2) /\ te prog 32 = none /\ tp prog 32 = some [(0, 1), (1, 1)] /\ tf prog 32 0 = some (0, false, 1) /\ tf prog 32 1 = some (1, false, 1) /\ tz prog 32 = some [.int .i64 0, .sl 4 []] /\ tflat prog 32 = false /\ tbool prog 32 = false := by and_intros <;> kernel_rfl
@[go_sem] theorem t_33 : prog.cellsOf 33 = 1 /\ tl prog 33 = some (false, 1) /\ te prog 33 = some (269, 1, 24) /\ tz prog 33 = some [.sl 1 []] /\ tflat prog 33 = false /\ tbool prog 33 = false := by and_intros <;> kernel_rfl
@[go_sem] theorem t_34 : prog.cellsOf 34 = 8 /\ tl prog 34 = some (true, 8) /\ te prog 34 = none /\ tp prog 34 = some [(0, 4), (4, 2), (6, 1), (7, 1)] /\ tf prog 34 0 = some (0, true, 4) /\ tf prog 34 1 = some (4, true, 2) /\ tf prog 34 2 = some (6, false, 1) /\ tf prog 34 3 = some (7, false, 1) /\ tz prog 34 = some [.sl 1 [], .sl 1 [], .sl 1 [], .sl 1 [], .int .i64 0, .sl 4 [], .sl 1 [], .sl 1 []] /\ tflat prog 34 = false /\ tbool prog 34 = false := by and_intros <;> kernel_rfl
@[go_sem] theorem t_35 : prog.cellsOf 35 = 8 /\ tl prog 35 = some (true, 8) /\ te prog 35 = none /\ tp prog 35 = some [(0, 4), (4, 2), (6, 1), (7, 1)] /\ tf prog 35 0 = some (0, true, 4) /\ tf prog 35 1 = some (4, true, 2) /\ tf prog 35 2 = some (6, false, 1) /\ tf prog 35 3 = some (7, false, 1) /\ tz prog 35 = some [.sl 1 [], .sl 1 [], .sl 1 [], .sl 1 [], .int .i64 0, .sl 4 [], .sl 1 [], .sl 1 []] /\ tflat prog 35 = false /\ tbool prog 35 = false := by and_intros <;> kernel_rfl
@[go_sem] theorem t_36 : prog.cellsOf 36 = 1 /\ tl prog 36 = some (false, 1) /\ te prog 36 = some (205, 3, 24) /\ tz prog 36 = some [.sl 3 []] /\ tflat prog 36 = false /\ tbool prog 36 = false := by and_intros <;> kernel_rfl
@[go_sem] theorem t_37 : prog.cellsOf 37 = 1 /\ tl prog 37 = some (false, 1) /\ te prog 37 = some (182, 32, 368) /\ tz prog 37 = some [.sl 32 []] /\ tflat prog 37 = false /\ tbool prog 37 = false := by and_intros <;> kernel_rfl
@[go_sem] theorem t_38 : prog.cellsOf 38 = 1 /\ tl prog 38 = some (false, 1) /\ te prog 38 = some (160, 1, 24) /\ tz prog 38 = some [.sl 1 []] /\ tflat prog 38 = false /\ tbool prog 38 = false := by and_intros <;> kernel_rfl
@[go_sem] theorem t_39 : prog.cellsOf 39 = 1 /\ tl prog 39 = some (false, 1) /\ te prog 39 = some (185, 6, 80) /\ tz prog 39 = some [.sl 6 []] /\ tflat prog 39 = false /\ tbool prog 39 = false := by and_intros <;> kernel_rfl
@[go_sem] theorem t_40 : prog.cellsOf 40 = 13 /\ tl prog 40 = some (true, 13) /\ te prog 40 = none /\ tp prog 40 = some [(0, 8), (8, 1), (9, 1), (10, 1), (11, 1), (12, 1)] /\ tf prog 40 0 = some (0, true, 8) /\ tf prog 40 1 = some (8, false, 1) /\ tf prog 40 2 = some (9, false, 1) /\ tf prog 40 3 = some (10, false, 1) /\ tf prog 40 4 = some (11, false, 1) /\ tf prog 40 5 = some (12, false, 1) /\ tz prog 40 = some [.sl 1 [], .sl 1 [], .sl 1 [], .sl 1 [], .int .i64 0, .sl 4 [], .sl 1 [], .sl 1 [], .sl 3 [], .sl 32 [], .sl 1 [], .sl 6 [], .int .i64 0] /\ tflat prog 40 = false /\ tbool prog 40 = false := by and_intros <;> kernel_rfl
@[go_sem] theorem t_41 : prog.cellsOf 41 = 13 /\ tl prog 41 = some (true, 13) /\ te prog 41 = none /\ tp prog 41 = some [(0, 8), (8, 1), (9, 1), (10, 1), (11, 1), (12, 1)] /\ tf prog 41 0 = some (0, true, 8) /\ tf prog 41 1 = some (8, false, 1) /\ tf prog 41 2 = some (9, false, 1) /\ tf prog 41 3 = some (10, false, 1) /\ tf prog 41 4 = some (11, false, 1) /\ tf prog 41 5 = some (12, false, 1) /\ tz prog 41 = some [.sl 1 [], .sl 1 [], .sl 1 [], .sl 1 [], .int .i64 0, .sl 4 [], .sl 1 [], .sl 1 [], .sl 3 [], .sl 32 [], .sl 1 [], .sl 6 [], .int .i64 0] /\ tflat prog 41 = false /\ tbool prog 41 = false := by and_intros <;> kernel_rfl
@[go_sem] theorem t_44 : prog.cellsOf 44 = 2 /\ tl prog 44 = some (true, 2) /\ te prog 44 = none /\ tp prog 44 = some [(0, 1), (1, 1)] /\ tf prog 44 0 = some (0, false, 1) /\ tf prog 44 1 = some (1, false, 1) /\ tz prog 44 = some [.sl 1 [], .sl 1 []] /\ tflat prog 44 = false /\ tbool prog 44 = false := by and_intros <;> kernel_rfl
@[go_sem] theorem t_45 : prog.cellsOf 45 = 1 /\ tl prog 45 = some (false, 1) /\ te prog 45 = some (279, 1, 24) /\ tz prog 45 = some [.sl 1 []] /\ tflat prog 45 = false /\ tbool prog 45 = false := by and_intros <;> kernel_rfl
@[go_sem] theorem t_46 : prog.cellsOf 46 = 2 /\ tl prog 46 = some (true, 2) /\ te prog 46 = none /\ tp prog 46 = some [(0, 1), (1, 1)] /\ tf prog 46 0 = some (0, false, 1) /\ tf prog 46 1 = some (1, false, 1) /\ tz prog 46 = some [.sl 1 [], .sl 1 []] /\ tflat prog 46 = false /\ tbool prog 46 = false := by and_intros <;> kernel_rfl
@[go_sem] theorem t_47 : prog.cellsOf 47 = 2 /\ tl prog 47 = some (true, 2) /\ te prog 47 = none /\ tp prog 47 = some [(0, 1), (1, 1)] /\ tf prog 47 0 = some (0, false, 1) /\ tf prog 47 1 = some (1, false, 1) /\ tz prog 47 = some [.sl 1 [], .sl 1 []] /\ tflat prog 47 = false /\ tbool prog 47 = false := by and_intros <;> kernel_rfl
@[go_sem] theorem t_48 : prog.cellsOf 48 = 4 /\ tl prog 48 = some (true, 4) /\ te prog 48 = none /\ tp prog 48 = some [(0, 2), (2, 2)] /\ tf prog 48 0 = some (0, true, 2) /\ tf prog 48 1 = some (2, true, 2) /\ tz prog 48 = some [.sl 1 [], .sl 1 [], .sl 1 [], .sl 1 []] /\ tflat prog 48 = false /\ tbool prog 48 = false := by and_intros <;> kernel_rfl
@[go_sem] theorem t_49 : prog.cellsOf 49 = 4 /\ tl prog 49 = some (true, 4) /\ te prog 49 = none /\ tp prog 49 = some [(0, 2), (2, 2)] /\ tf prog 49 0 = some (0, true, 2) /\ tf prog 49 1 = some (2, true, 2) /\ tz prog 49 = some [.sl 1 [], .sl 1 [], .sl 1 [], .sl 1 []] /\ tflat prog 49 = false /\ tbool prog 49 = false := by and_intros <;> kernel_rfl
@[go_sem] theorem t_50 : prog.cellsOf 50 = 1 /\ tl prog 50 = some (false, 1) /\ te prog 50 = some (139, 4, 32) /\ tz prog 50 = some [.sl 4 []] /\ tflat prog 50 = false /\ tbool prog 50 = false := by and_intros <;> kernel_rfl
@[go_sem] theorem t_51 : prog.cellsOf 51 = 2 /\ tl prog 51 = some (true, 2) /\ te prog 51 = none /\ tp prog 51 = some [(0, 1), (1, 1)] /\ tf prog 51 0 = some (0, false, 1) /\ tf prog 51 1 = some (1, false, 1) /\ tz prog 51 = some [.int .i64 0, .sl 4 []] /\ tflat prog 51 = false /\ tbool prog 51 = false := by and_intros <;> kernel_rfl
@[go_sem] theorem t_52 : prog.cellsOf 52 = 2 /\ tl prog 52 = some (true, 2) /\ te prog 52 = none /\ tp prog 52 = some [(0, 1), (1, 1)] /\ tf prog 52 0 = some (0, false, 1) /\ tf prog 52 1 = some (1, false, 1) /\ tz prog 52 = some [.int .i64 0, .sl 4 []] /\ tflat prog 52 = false /\ tbool prog 52 = false := by and_intros <;> kernel_rfl
@[go_sem] theorem t_53 : prog.cellsOf 53 = 1 /\ tl prog 53 = some (false, 1) /\ te prog 53 = some (210, 1, 24) /\ tz prog 53 = some [.sl 1 []] /\ tflat prog 53 = false /\ tbool prog 53 = false := by and_intros <;> kernel_rfl
@[go_sem] theorem t_54 : prog.cellsOf 54 = 8 /\ tl prog 54 = some (true, 8) /\ te prog 54 = none /\ tp prog 54 = some [(0, 4), (4, 2), (6, 1), (7, 1)] /\ tf prog 54 0 = some (0, true, 4) /\ tf prog 54 1 = some (4, true, 2) /\ tf prog 54 2 = some (6, false, 1) /\ tf prog 54 3 = some (7, false, 1) /\ tz prog 54 = some [.sl 1 [], .sl 1 [], .sl 1 [], .sl 1 [], .int .i64 0, .sl 4 [], .sl 1 [], .sl 1 []] /\ tflat prog 54 = false /\ tbool prog 54 = false := by and_intros <;> kernel_rfl
@[go_sem] theorem t_55 : prog.cellsOf 55 = 8 /\ tl prog 55 = some (true, 8) /\ te prog 55 = none /\ tp prog 55 = some [(0, 4), (4, 2), (6, 1), (7, 1)] /\ tf prog 55 0 = some (0, true, 4) /\ tf prog 55 1 = some (4, true, 2) /\ tf prog 55 2 = some (6, false, 1) /\ tf prog 55 3 = some (7, false, 1) /\ tz prog 55 = some [.sl 1 [], .sl 1 [], .sl 1 [], .sl 1 [], .int .i64 0, .sl 4 [], .sl 1 [], .sl 1 []] /\ tflat prog 55 = false /\ tbool prog 55 = false := by and_intros <;> kernel_rfl
@[go_sem] theorem t_56 : prog.cellsOf 56 = 1 /\ tl prog 56 = some (false, 1) /\ te prog 56 = some (91, 3, 24) /\ tz prog 56 = some [.sl 3 []] /\ tflat prog 56 = false /\ tbool prog 56 = false := by and_intros <;> kernel_rfl
@[go_sem] theorem t_57 : prog.cellsOf 57 = 1 /\ tl prog 57 = some (false, 1) /\ te prog 57 = some (103, 32, 368) /\ tz prog 57 = some [.sl 32 []] /\ tflat prog 57 = false /\ tbool prog 57 = false := by and_intros <;> kernel_rfl
@[go_sem] theorem t_58 : prog.cellsOf 58 = 1 /\ tl prog 58 = some (false, 1) /\ te prog 58 = some (165, 1, 24) /\ tz prog 58 = some [.sl 1 []] /\ tflat prog 58 = false /\ tbool prog 58 = false := by and_intros <;> kernel_rfl
@[go_sem] theorem t_59 : prog.cellsOf 59 = 1 /\ tl prog 59 = some (false, 1) /\ te prog 59 = some (152, 6, 80) /\ tz prog 59 = some [.sl 6 []] /\ tflat prog 59 = false /\ tbool prog 59 = false := by and_intros <;> kernel_rfl
@[go_sem] theorem t_60 : prog.cellsOf 60 = 13 /\ tl prog 60 = some (true, 13) /\ te prog 60 = none /\ tp prog 60 = some [(0, 8), (8, 1), (9, 1), (10, 1), (11, 1), (12, 1)] /\ tf prog 60 0 = some (0, true, 8) /\ tf prog 60 1 = some (8, false, 1) /\ tf prog 60 2 = some (9, false, 1) /\ tf prog 60 3 = some (10, false, 1) /\ tf prog 60 4 = some (11, false, 1) /\ tf prog 60 5 = some (12, false, 1) /\ tz prog 60 = some [.sl 1 [], .sl 1 [], .sl 1 [], .sl 1 [], .int .i64 0, .sl 4 [], .sl 1 [], .sl 1 [], .sl 3 [], .sl 32 [], .sl 1 [], .sl 6 [], .int .i64 0] /\ tflat prog 60 = false /\ tbool prog 60 = false := by and_intros <;> kernel_rfl
@[go_sem] theorem t_61 : prog.cellsOf 61 = 13 /\ tl prog 61 = some (true, 13) /\ te prog 61 = none /\ tp prog 61 = some [(0, 8), (8, 1), (9, 1), (10, 1), (11, 1), (12, 1)] /\ tf prog 61 0 = some (0, true, 8) /\ tf prog 61 1 = some (8, false, 1) /\ tf prog 61 2 = some (9, false, 1) /\ tf prog 61 3 = some (10, false, 1) /\ tf prog 61 4 = some (11, false, 1) /\ tf prog 61 5 = some (12, false, 1) /\ tz prog 61 = some [.sl 1 [], .sl 1 [], .sl 1 [], .sl 1 [], .int .i64 0, .sl 4 [], .sl 1 [], .sl 1 [], .sl 3 [], .sl 32 [], .sl 1 [], .sl 6 [], .int .i64 0] /\ tflat prog 61 = false /\ tbool prog 61 = false := by and_intros <;> kernel_rfl
@[go_sem] theorem t_90 : prog.cellsOf 90 = 3 /\ tl prog 90 = some (true, 3) /\ te prog 90 = none /\ tp prog 90 = some [(0, 1), (1, 1), (2, 1)] /\ tf prog 90 0 = some (0, false, 1) /\ tf prog 90 1 = some (1, false, 1) /\ tf prog 90 2 = some (2, false, 1) /\ tz prog 90 = some [.int .i64 0, .int .i64 0, .int .i64 0] /\ tflat prog 90 = true /\ tbool prog 90 = false := by and_intros <;> kernel_rfl
@[go_sem] theorem t_91 : prog.cellsOf 91 = 3 /\ tl prog 91 = some (true, 3) /\ te prog 91 = none /\ tp prog 91 = some [(0, 1), (1, 1), (2, 1)] /\ tf prog 91 0 = some (0, false, 1) /\ tf prog 91 1 = some (1, false, 1) /\ tf prog 91 2 = some (2, false, 1) /\ teq prog 91 = some [0, 0, 0] /\ tz prog 91 = some [.int .i64 0, .int .i64 0, .int .i64 0] /\ tflat prog 91 = true /\ tbool prog 91 = false := by and_intros <;> kernel_rfl
@[go_sem] theorem t_92 : prog.cellsOf 92 = 1 /\ tl prog 92 = some (false, 1) /\ te prog 92 = some (251, 3, 24) /\ tz prog 92 = some [.sl 3 []] /\ tflat prog 92 = false /\ tbool prog 92 = false := by and_intros <;> kernel_rfl
@[go_sem] theorem t_93 : prog.cellsOf 93 = 2 /\ tl prog 93 = some (true, 2) /\ te prog 93 = none /\ tp prog 93 = some [(0, 1), (1, 1)] /\ tf prog 93 0 = some (0, false, 1) /\ tf prog 93 1 = some (1, false, 1) /\ tz prog 93 = some [.bool false, .sl 3 []] /\ tflat prog 93 = false /\ tbool prog 93 = false := by and_intros <;> kernel_rfl
@[go_sem] theorem t_94 : prog.cellsOf 94 = 2 /\ tl prog 94 = some (true, 2) /\ te prog 94 = none /\ tp prog 94 = some [(0, 1), (1, 1)] /\ tf prog 94 0 = some (0, false, 1) /\ tf prog 94 1 = some (1, false, 1) /\ tz prog 94 = some [.bool false, .sl 3 []] /\ tflat prog 94 = false /\ tbool prog 94 = false := by and_intros <;> kernel_rfl
@[go_sem] theorem t_95 : prog.cellsOf 95 = 3 /\ tl prog 95 = some (true, 3) /\ te prog 95 = none /\ tp prog 95 = some [(0, 1), (1, 1), (2, 1)] /\ tf prog 95 0 = some (0, false, 1) /\ tf prog 95 1 = some (1, false, 1) /\ tf prog 95 2 = some (2, false, 1) /\ tz prog 95 = some [.int .i64 0, .int .i64 0, .int .i64 0] /\ tflat prog 95 = true /\ tbool prog 95 = false := by and_intros <;> kernel_rfl
@[go_sem] theorem t_96 : prog.cellsOf 96 = 3 /\ tl prog 96 = some (true, 3) /\ te prog 96 = none /\ tp prog 96 = some [(0, 1), (1, 1), (2, 1)] /\ tf prog 96 0 = some (0, false, 1) /\ tf prog 96 1 = some (1, false, 1) /\ tf prog 96 2 = some (2, false, 1) /\ teq prog 96 = some [0, 0, 0] /\ tz prog 96 = some [.int .i64 0, .int .i64 0, .int .i64 0] /\ tflat prog 96 = true /\ tbool prog 96 = false := by and_intros <;> kernel_rfl
@[go_sem] theorem t_97 : prog.cellsOf 97 = 10 /\ tl prog 97 = some (true, 10) /\ te prog 97 = none /\ tp prog 97 = some [(0, 1), (1, 1), (2, 1), (3, 1), (4, 1), (5, 1), (6, 1), (7, 1), (8, 1), (9, 1)] /\ tf prog 97 0 = some (0, false, 1) /\ tf prog 97 1 = some (1, false, 1) /\ tf prog 97 2 = some (2, false, 1) /\ tf prog 97 3 = some (3, false, 1) /\ tf prog 97 4 = some (4, false, 1) /\ tf prog 97 5 = some (5, false, 1) /\ tf prog 97 6 = some (6, false, 1) /\ tf prog 97 7 = some (7, false, 1) /\ tf prog 97 8 = some (8, false, 1) /\ tf prog 97 9 = some (9, false, 1) /\ tz prog 97 = some [.int .i64 0, .int .i64 0, .int .i64 0, .int .i64 0, .int .i64 0, .int .i64 0, .int .i64 0, .int .i64 0, .int .i64 0, .bool false] /\ tflat prog 97 = true /\ tbool prog 97 = false := by and_intros <;> kernel_rfl
@[go_sem] theorem t_98 : prog.cellsOf 98 = 10 /\ tl prog 98 = some (true, 10) /\ te prog 98 = none /\ tp prog 98 = some [(0, 1), (1, 1), (2, 1), (3, 1), (4, 1), (5, 1), (6, 1), (7, 1), (8, 1), (9, 1)] /\ tf prog 98 0 = some (0, false, 1) /\ tf prog 98 1 = some (1, false, 1) /\ tf prog 98 2 = some (2, false, 1) /\ tf prog 98 3 = some (3, false, 1) /\ tf prog 98 4 = some (4, false, 1) /\ tf prog 98 5 = some (5, false, 1) /\ tf prog 98 6 = some (6, false, 1) /\ tf prog 98 7 = some (7, false, 1) /\ tf prog 98 8 = some (8, false, 1) /\ tf prog 98 9 = some (9, false, 1) /\ teq prog 98 = some [0, 0, 0, 0, 0, 0, 0, 0, 0, 1] /\ tz prog 98 = some [.int .i64 0, .int .i64 0, .int .i64 0, .int .i64 0, .int .i64 0, .int .i64 0, .int .i64 0, .int .i64 0, .int .i64 0, .bool false] /\ tflat prog 98 = true /\ tbool prog 98 = false := by and_intros <;> kernel_rfl
@[go_sem] theorem t_99 : prog.cellsOf 99 = 1 /\ tl prog 99 = some (false, 1) /\ te prog 99 = some (196, 2, 16) /\ tz prog 99 = some [.sl 2 []] /\ tflat prog 99 = false /\ tbool prog 99 = false := by and_intros <;> kernel_rfl
@[go_sem] theorem t_100 : prog.cellsOf 100 = 1 /\ tl prog 100 = some (false, 1) /\ te prog 100 = some (198, 3, 24) /\ tz prog 100 = some [.sl 3 []] /\ tflat prog 100 = false /\ tbool prog 100 = false := by and_intros <;> kernel_rfl
@[go_sem] theorem t_101 : prog.cellsOf 101 = 1 /\ tl prog 101 = some (false, 1) /\ te prog 101 = some (253, 2, 16) /\ tz prog 101 = some [.sl 2 []] /\ tflat prog 101 = false /\ tbool prog 101 = false := by and_intros <;> kernel_rfl
@[go_sem] theorem t_102 : prog.cellsOf 102 = 32 /\ tl prog 102 = some (true, 32) /\ te prog 102 = none /\ tp prog 102 = some [(0, 1), (1, 2), (3, 1), (4, 1), (5, 1), (6, 1), (7, 1), (8, 1), (9, 1), (10, 1), (11, 3), (14, 1), (15, 1), (16, 10), (26, 1), (27, 1), (28, 1), (29, 1), (30, 1), (31, 1)] /\ tf prog 102 0 = some (0, false, 1) /\ tf prog 102 1 = some (1, true, 2) /\ tf prog 102 2 = some (3, false, 1) /\ tf prog 102 3 = some (4, false, 1) /\ tf prog 102 4 = some (5, false, 1) /\ tf prog 102 5 = some (6, false, 1) /\ tf prog 102 6 = some (7, false, 1) /\ tf prog 102 7 = some (8, false, 1) /\ tf prog 102 8 = some (9, false, 1) /\ tf prog 102 9 = some (10, false, 1) /\ tf prog 102 10 = some (11, true, 3) /\ tf prog 102 11 = some (14, false, 1) /\ tf prog 102 12 = some (15, false, 1) /\ tf prog 102 13 = some (16, true, 10) /\ tf prog 102 14 = some (26, false, 1) /\ tf prog 102 15 = some (27, false, 1) /\ tf prog 102 16 = some (28, false, 1) /\ tf prog 102 17 = some (29, false, 1) /\ tf prog 102 18 = some (30, false, 1) /\ tf prog 102 19 = some (31, false, 1) /\ tz prog 102 = some [.bool false, .bool false, .sl 3 [], .int .i64 0, .int .i64 0, .int .i64 0, .int .i64 0, .int .i64 0, .int .i64 0, .int .i64 0, .int .i64 0, .int .i64 0, .int .i64 0, .int .i64 0, .bool false, .int .i64 0, .int .i64 0, .int .i64 0, .int .i64 0, .int .i64 0, .int .i64 0, .int .i64 0, .int .i64 0, .int .i64 0, .int .i64 0, .bool false, .sl 2 [], .sl 3 [], .sl 2 [], .sl 1 [], .sl 1 [], .sl 1 []] /\ tflat prog 102 = false /\ tbool prog 102 = false := by and_intros <;> kernel_rfl
@[go_sem] theorem t_103 : prog.cellsOf 103 = 32 /\ tl prog 103 = some (true, 32) /\ te prog 103 = none /\ tp prog 103 = some [(0, 1), (1, 2), (3, 1), (4, 1), (5, 1), (6, 1), (7, 1), (8, 1), (9, 1), (10, 1), (11, 3), (14, 1), (15, 1), (16, 10), (26, 1), (27, 1), (28, 1), (29, 1), (30, 1), (31, 1)] /\ tf prog 103 0 = some (0, false, 1) /\ tf prog 103 1 = some (1, true, 2) /\ tf prog 103 2 = some (3, false, 1) /\ tf prog 103 3 = some (4, false, 1) /\ tf prog 103 4 = some (5, false, 1) /\ tf prog 103 5 = some (6, false, 1) /\ tf prog 103 6 = some (7, false, 1) /\ tf prog 103 7 = some (8, false, 1) /\ tf prog 103 8 = some (9, false, 1) /\ tf prog 103 9 = some (10, false, 1) /\ tf prog 103 10 = some (11, true, 3) /\ tf prog 103 11 = some (14, false, 1) /\ tf prog 103 12 = some (15, false, 1) /\ tf prog 103 13 = some (16, true, 10) /\ tf prog 103 14 = some (26, false, 1) /\ tf prog 103 15 = some (27, false, 1) /\ tf prog 103 16 = some (28, false, 1) /\ tf prog 103 17 = some (29, false, 1) /\ tf prog 103 18 = some (30, false, 1) /\ tf prog 103 19 = some (31, false, 1) /\ tz prog 103 = some [.bool false, .bool false, .sl 3 [], .int .i64 0, .int .i64 0, .int .i64 0, .int .i64 0, .int .i64 0, .int .i64 0, .int .i64 0, .int .i64 0, .int .i64 0, .int .i64 0, .int .i64 0, .bool false, .int .i64 0, .int .i64 0, .int .i64 0, .int .i64 0, .int .i64 0, .int .i64 0, .int .i64 0, .int .i64 0, .int .i64 0, .int .i64 0, .bool false, .sl 2 [], .sl 3 [], .sl 2 [], .sl 1 [], .sl 1 [], .sl 1 []] /\ tflat prog 103 = false /\ tbool prog 103 = false := by and_intros <;> kernel_rfl
@[go_sem] theorem t_125 : prog.cellsOf 125 = 1 /\ tl prog 125 = some (false, 1) /\ te prog 125 = some (22, 1, 24) /\ tz prog 125 = some [.sl 1 []] /\ tflat prog 125 = false /\ tbool prog 125 = false := by and_intros <;> kernel_rfl
@[go_sem] theorem t_138 : prog.cellsOf 138 = 4 /\ tl prog 138 = some (true, 4) /\ te prog 138 = none /\ tp prog 138 = some [(0, 1), (1, 1), (2, 1), (3, 1)] /\ tf prog 138 0 = some (0, false, 1) /\ tf prog 138 1 = some (1, false, 1) /\ tf prog 138 2 = some (2, false, 1) /\ tf prog 138 3 = some (3, false, 1) /\ tz prog 138 = some [.bool false, .int .i64 0, .bool false, .int .i64 0] /\ tflat prog 138 = true /\ tbool prog 138 = false := by and_intros <;> kernel_rfl
@[go_sem] theorem t_139 : prog.cellsOf 139 = 4 /\ tl prog 139 = some (true, 4) /\ te prog 139 = none /\ tp prog 139 = some [(0, 1), (1, 1), (2, 1), (3, 1)] /\ tf prog 139 0 = some (0, false, 1) /\ tf prog 139 1 = some (1, false, 1) /\ tf prog 139 2 = some (2, false, 1) /\ tf prog 139 3 = some (3, false, 1) /\ teq prog 139 = some [1, 0, 1, 0] /\ tz prog 139 = some [.bool false, .int .i64 0, .bool false, .int .i64 0] /\ tflat prog 139 = true /\ tbool prog 139 = false := by and_intros <;> kernel_rfl
@[go_sem] theorem t_151 : prog.cellsOf 151 = 6 /\ tl prog 151 = some (true, 6) /\ te prog 151 = none /\ tp prog 151 = some [(0, 1), (1, 1), (2, 1), (3, 1), (4, 1), (5, 1)] /\ tf prog 151 0 = some (0, false, 1) /\ tf prog 151 1 = some (1, false, 1) /\ tf prog 151 2 = some (2, false, 1) /\ tf prog 151 3 = some (3, false, 1) /\ tf prog 151 4 = some (4, false, 1) /\ tf prog 151 5 = some (5, false, 1) /\ tz prog 151 = some [.int .i64 0, .int .i64 0, .int .i64 0, .int .i64 0, .sl 3 [], .sl 2 []] /\ tflat prog 151 = false /\ tbool prog 151 = false := by and_intros <;> kernel_rfl
@[go_sem] theorem t_152 : prog.cellsOf 152 = 6 /\ tl prog 152 = some (true, 6) /\ te prog 152 = none /\ tp prog 152 = some [(0, 1), (1, 1), (2, 1), (3, 1), (4, 1), (5, 1)] /\ tf prog 152 0 = some (0, false, 1) /\ tf prog 152 1 = some (1, false, 1) /\ tf prog 152 2 = some (2, false, 1) /\ tf prog 152 3 = some (3, false, 1) /\ tf prog 152 4 = some (4, false, 1) /\ tf prog 152 5 = some (5, false, 1) /\ tz prog 152 = some [.int .i64 0, .int .i64 0, .int .i64 0, .int .i64 0, .sl 3 [], .sl 2 []] /\ tflat prog 152 = false /\ tbool prog 152 = false := by and_intros <;> kernel_rfl
@[go_sem] theorem t_158 : prog.cellsOf 158 = 1 /\ tl prog 158 = some (false, 1) /\ te prog 158 = some (175, 2, 32) /\ tz prog 158 = some [.sl 2 []] /\ tflat prog 158 = false /\ tbool prog 158 = false := by and_intros <;> kernel_rfl
@[go_sem] theorem t_159 : prog.cellsOf 159 = 1 /\ tl prog 159 = some (true, 1) /\ te prog 159 = none /\ tp prog 159 = some [(0, 1)] /\ tf prog 159 0 = some (0, false, 1) /\ tz prog 159 = some [.sl 2 []] /\ tflat prog 159 = false /\ tbool prog 159 = false := by and_intros <;> kernel_rfl
@[go_sem] theorem tc_160 : prog.cellsOf 160 = 1 := by kernel_rfl
@[go_sem] theorem t_160 : tl prog 160 = some (true, 1) /\ te prog 160 = none /\ tp prog 160 = some [(0, 1)] /\ tf prog 160 0 = some (0, false, 1) /\ tz prog 160 = some [.sl 2 []] /\ tflat prog 160 = false /\ tbool prog 160 = false := by and_intros <;> kernel_rfl
@[go_sem] theorem t_163 : prog.cellsOf 163 = 1 /\ tl prog 163 = some (false, 1) /\ te prog 163 = some (94, 2, 32) /\ tz prog 163 = some [.sl 2 []] /\ tflat prog 163 = false /\ tbool prog 163 = false := by and_intros <;> kernel_rfl
@[go_sem] theorem t_164 : prog.cellsOf 164 = 1 /\ tl prog 164 = some (true, 1) /\ te prog 164 = none /\ tp prog 164 = some [(0, 1)] /\ tf prog 164 0 = some (0, false, 1) /\ tz prog 164 = some [.sl 2 []] /\ tflat prog 164 = false /\ tbool prog 164 = false := by and_intros <;> kernel_rfl
@[go_sem] theorem t_165 : prog.cellsOf 165 = 1 /\ tl prog 165 = some (true, 1) /\ te prog 165 = none /\ tp prog 165 = some [(0, 1)] /\ tf prog 165 0 = some (0, false, 1) /\ tz prog 165 = some [.sl 2 []] /\ tflat prog 165 = false /\ tbool prog 165 = false := by and_intros <;> kernel_rfl
@[go_sem] theorem t_173 : prog.cellsOf 173 = 1 /\ tl prog 173 = some (false, 1) /\ te prog 173 = some (344, 3, 24) /\ tz prog 173 = some [.sl 3 []] /\ tflat prog 173 = false /\ tbool prog 173 = false := by and_intros <;> kernel_rfl
@[go_sem] theorem t_174 : prog.cellsOf 174 = 2 /\ tl prog 174 = some (true, 2) /\ te prog 174 = none /\ tp prog 174 = some [(0, 1), (1, 1)] /\ tf prog 174 0 = some (0, false, 1) /\ tf prog 174 1 = some (1, false, 1) /\ tz prog 174 = some [.bool false, .sl 3 []] /\ tflat prog 174 = false /\ tbool prog 174 = false := by and_intros <;> kernel_rfl
@[go_sem] theorem tc_175 : prog.cellsOf 175 = 2 := by kernel_rfl
@[go_sem] theorem t_175 : tl prog 175 = some (true, 2) /\ te prog 175 = none /\ tp prog 175 = some [(0, 1), (1, 1)] /\ tf prog 175 0 = some (0, false, 1) /\ tf prog 175 1 = some (1, false, 1) /\ tz prog 175 = some [.bool false, .sl 3 []] /\ tflat prog 175 = false /\ tbool prog 175 = false := by and_intros <;> kernel_rfl
@[go_sem] theorem t_176 : prog.cellsOf 176 = 3 /\ tl prog 176 = some (true, 3) /\ te prog 176 = none /\ tp prog 176 = some [(0, 1), (1, 1), (2, 1)] /\ tf prog 176 0 = some (0, false, 1) /\ tf prog 176 1 = some (1, false, 1) /\ tf prog 176 2 = some (2, false, 1) /\ teq prog 176 = some [0, 0, 0] /\ tz prog 176 = some [.int .i64 0, .int .i64 0, .int .i64 0] /\ tflat prog 176 = true /\ tbool prog 176 = false := by and_intros <;> kernel_rfl
@[go_sem] theorem t_177 : prog.cellsOf 177 = 10 /\ tl prog 177 = some (true, 10) /\ te prog 177 = none /\ tp prog 177 = some [(0, 1), (1, 1), (2, 1), (3, 1), (4, 1), (5, 1), (6, 1), (7, 1), (8, 1), (9, 1)] /\ tf prog 177 0 = some (0, false, 1) /\ tf prog 177 1 = some (1, false, 1) /\ tf prog 177 2 = some (2, false, 1) /\ tf prog 177 3 = some (3, false, 1) /\ tf prog 177 4 = some (4, false, 1) /\ tf prog 177 5 = some (5, false, 1) /\ tf prog 177 6 = some (6, false, 1) /\ tf prog 177 7 = some (7, false, 1) /\ tf prog 177 8 = some (8, false, 1) /\ tf prog 177 9 = some (9, false, 1) /\ teq prog 177 = some [0, 0, 0, 0, 0, 0, 0, 0, 0, 1] /\ tz prog 177 = some [.int .i64 0, .int .i64 0, .int .i64 0, .int .i64 0, .int .i64 0, .int .i64 0, .int .i64 0, .int .i64 0, .int .i64 0, .bool false] /\ tflat prog 177 = true /\ tbool prog 177 = false := by and_intros <;> kernel_rfl
@[go_sem] theorem t_178 : prog.cellsOf 178 = 1 /\ tl prog 178 = some (false, 1) /\ te prog 178 = some (338, 2, 16) /\ tz prog 178 = some [.sl 2 []] /\ tflat prog 178 = false /\ tbool prog 178 = false := by and_intros <;> kernel_rfl
@[go_sem] theorem t_179 : prog.cellsOf 179 = 1 /\ tl prog 179 = some (false, 1) /\ te prog 179 = some (340, 3, 24) /\ tz prog 179 = some [.sl 3 []] /\ tflat prog 179 = false /\ tbool prog 179 = false := by and_intros <;> kernel_rfl
@[go_sem] theorem t_180 : prog.cellsOf 180 = 1 /\ tl prog 180 = some (false, 1) /\ te prog 180 = some (342, 2, 16) /\ tz prog 180 = some [.sl 2 []] /\ tflat prog 180 = false /\ tbool prog 180 = false := by and_intros <;> kernel_rfl
@[go_sem] theorem t_181 : prog.cellsOf 181 = 32 /\ tl prog 181 = some (true, 32) /\ te prog 181 = none /\ tp prog 181 = some [(0, 1), (1, 2), (3, 1), (4, 1), (5, 1), (6, 1), (7, 1), (8, 1), (9, 1), (10, 1), (11, 3), (14, 1), (15, 1), (16, 10), (26, 1), (27, 1), (28, 1), (29, 1), (30, 1), (31, 1)] /\ tf prog 181 0 = some (0, false, 1) /\ tf prog 181 1 = some (1, true, 2) /\ tf prog 181 2 = some (3, false, 1) /\ tf prog 181 3 = some (4, false, 1) /\ tf prog 181 4 = some (5, false, 1) /\ tf prog 181 5 = some (6, false, 1) /\ tf prog 181 6 = some (7, false, 1) /\ tf prog 181 7 = some (8, false, 1) /\ tf prog 181 8 = some (9, false, 1) /\ tf prog 181 9 = some (10, false, 1) /\ tf prog 181 10 = some (11, true, 3) /\ tf prog 181 11 = some (14, false, 1) /\ tf prog 181 12 = some (15, false, 1) /\ tf prog 181 13 = some (16, true, 10) /\ tf prog 181 14 = some (26, false, 1) /\ tf prog 181 15 = some (27, false, 1) /\ tf prog 181 16 = some (28, false, 1) /\ tf prog 181 17 = some (29, false, 1) /\ tf prog 181 18 = some (30, false, 1) /\ tf prog 181 19 = some (31, false, 1) /\ tz prog 181 = some [.bool false, .bool false, .sl 3 [], .int .i64 0, .int .i64 0, .int .i64 0, .int .i64 0, .int .i64 0, .int .i64 0, .int .i64 0, .int .i64 0, .int .i64 0, .int .i64 0, .int .i64 0, .bool false, .int .i64 0, .int .i64 0, .int .i64 0, .int .i64 0, .int .i64 0, .int .i64 0, .int .i64 0, .int .i64 0, .int .i64 0, .int .i64 0, .bool false, .sl 2 [], .sl 3 [], .sl 2 [], .sl 1 [], .sl 1 [], .sl 1 []] /\ tflat prog 181 = false /\ tbool prog 181 = false := by and_intros <;> kernel_rfl
@[go_sem] theorem tc_182 : prog.cellsOf 182 = 32 := by kernel_rfl
@[go_sem] theorem t_182 : tl prog 182 = some (true, 32) /\ te prog 182 = none /\ tp prog 182 = some [(0, 1), (1, 2), (3, 1), (4, 1), (5, 1), (6, 1), (7, 1), (8, 1), (9, 1), (10, 1), (11, 3), (14, 1), (15, 1), (16, 10), (26, 1), (27, 1), (28, 1), (29, 1), (30, 1), (31, 1)] /\ tf prog 182 0 = some (0, false, 1) /\ tf prog 182 1 = some (1, true, 2) /\ tf prog 182 2 = some (3, false, 1) /\ tf prog 182 3 = some (4, false, 1) /\ tf prog 182 4 = some (5, false, 1) /\ tf prog 182 5 = some (6, false, 1) /\ tf prog 182 6 = some (7, false, 1) /\ tf prog 182 7 = some (8, false, 1) /\ tf prog 182 8 = some (9, false, 1) /\ tf prog 182 9 = some (10, false, 1) /\ tf prog 182 10 = some (11, true, 3) /\ tf prog 182 11 = some (14, false, 1) /\ tf prog 182 12 = some (15, false, 1) /\ tf prog 182 13 = some (16, true, 10) /\ tf prog 182 14 = some (26, false, 1) /\ tf prog 182 15 = some (27, false, 1) /\ tf prog 182 16 = some (28, false, 1) /\ tf prog 182 17 = some (29, false, 1) /\ tf prog 182 18 = some (30, false, 1) /\ tf prog 182 19 = some (31, false, 1) /\ tz prog 182 = some [.bool false, .bool false, .sl 3 [], .int .i64 0, .int .i64 0, .int .i64 0, .int .i64 0, .int .i64 0, .int .i64 0, .int .i64 0, .int .i64 0, .int .i64 0, .int .i64 0, .int .i64 0, .bool false, .int .i64 0, .int .i64 0, .int .i64 0, .int .i64 0, .int .i64 0, .int .i64 0, .int .i64 0, .int .i64 0, .int .i64 0, .int .i64 0, .bool false, .sl 2 [], .sl 3 [], .sl 2 [], .sl 1 [], .sl 1 [], .sl 1 []] /\ tflat prog 182 = false /\ tbool prog 182 = false := by and_intros <;> kernel_rfl
@[go_sem] theorem t_184 : prog.cellsOf 184 = 6 /\ tl prog 184 = some (true, 6) /\ te prog 184 = none /\ tp prog 184 = some [(0, 1), (1, 1), (2, 1), (3, 1), (4, 1), (5, 1)] /\ tf prog 184 0 = some (0, false, 1) /\ tf prog 184 1 = some (1, false, 1) /\ tf prog 184 2 = some (2, false, 1) /\ tf prog 184 3 = some (3, false, 1) /\ tf prog 184 4 = some (4, false, 1) /\ tf prog 184 5 = some (5, false, 1) /\ tz prog 184 = some [.int .i64 0, .int .i64 0, .int .i64 0, .int .i64 0, .sl 3 [], .sl 2 []] /\ tflat prog 184 = false /\ tbool prog 184 = false := by and_intros <;> kernel_rfl
@[go_sem] theorem tc_185 : prog.cellsOf 185 = 6 := by kernel_rfl
@[go_sem] theorem t_185 : tl prog 185 = some (true, 6) /\ te prog 185 = none /\ tp prog 185 = some [(0, 1), (1, 1), (2, 1), (3, 1), (4, 1), (5, 1)] /\ tf prog 185 0 = some (0, false, 1) /\ tf prog 185 1 = some (1, false, 1) /\ tf prog 185 2 = some (2, false, 1) /\ tf prog 185 3 = some (3, false, 1) /\ tf prog 185 4 = some (4, false, 1) /\ tf prog 185 5 = some (5, false, 1) /\ tz prog 185 = some [.int .i64 0, .int .i64 0, .int .i64 0, .int .i64 0, .sl 3 [], .sl 2 []] /\ tflat prog 185 = false /\ tbool prog 185 = false := by and_intros <;> kernel_rfl
@[go_sem] theorem t_190 : prog.cellsOf 190 = 1 /\ tl prog 190 = some (false, 1) /\ te prog 190 = some (193, 2, 16) /\ tz prog 190 = some [.sl 2 []] /\ tflat prog 190 = false /\ tbool prog 190 = false := by and_intros <;> kernel_rfl
@[go_sem] theorem t_192 : prog.cellsOf 192 = 2 /\ tl prog 192 = some (true, 2) /\ te prog 192 = none /\ tp prog 192 = some [(0, 1), (1, 1)] /\ tf prog 192 0 = some (0, false, 1) /\ tf prog 192 1 = some (1, false, 1) /\ tz prog 192 = some [.int .i64 0, .int .i64 0] /\ tflat prog 192 = true /\ tbool prog 192 = false := by and_intros <;> kernel_rfl
@[go_sem] theorem t_193 : prog.cellsOf 193 = 2 /\ tl prog 193 = some (true, 2) /\ te prog 193 = none /\ tp prog 193 = some [(0, 1), (1, 1)] /\ tf prog 193 0 = some (0, false, 1) /\ tf prog 193 1 = some (1, false, 1) /\ teq prog 193 = some [0, 0] /\ tz prog 193 = some [.int .i64 0, .int .i64 0] /\ tflat prog 193 = true /\ tbool prog 193 = false := by and_intros <;> kernel_rfl
@[go_sem] theorem t_195 : prog.cellsOf 195 = 2 /\ tl prog 195 = some (true, 2) /\ te prog 195 = none /\ tp prog 195 = some [(0, 1), (1, 1)] /\ tf prog 195 0 = some (0, false, 1) /\ tf prog 195 1 = some (1, false, 1) /\ tz prog 195 = some [.int .i64 0, .int .i64 0] /\ tflat prog 195 = true /\ tbool prog 195 = false := by and_intros <;> kernel_rfl
@[go_sem] theorem t_196 : prog.cellsOf 196 = 2 /\ tl prog 196 = some (true, 2) /\ te prog 196 = none /\ tp prog 196 = some [(0, 1), (1, 1)] /\ tf prog 196 0 = some (0, false, 1) /\ tf prog 196 1 = some (1, false, 1) /\ teq prog 196 = some [0, 0] /\ tz prog 196 = some [.int .i64 0, .int .i64 0] /\ tflat prog 196 = true /\ tbool prog 196 = false := by and_intros <;> kernel_rfl
@[go_sem] theorem t_197 : prog.cellsOf 197 = 3 /\ tl prog 197 = some (true, 3) /\ te prog 197 = none /\ tp prog 197 = some [(0, 1), (1, 1), (2, 1)] /\ tf prog 197 0 = some (0, false, 1) /\ tf prog 197 1 = some (1, false, 1) /\ tf prog 197 2 = some (2, false, 1) /\ tz prog 197 = some [.int .i64 0, .bool false, .int .i64 0] /\ tflat prog 197 = true /\ tbool prog 197 = false := by and_intros <;> kernel_rfl
@[go_sem] theorem t_198 : prog.cellsOf 198 = 3 /\ tl prog 198 = some (true, 3) /\ te prog 198 = none /\ tp prog 198 = some [(0, 1), (1, 1), (2, 1)] /\ tf prog 198 0 = some (0, false, 1) /\ tf prog 198 1 = some (1, false, 1) /\ tf prog 198 2 = some (2, false, 1) /\ teq prog 198 = some [0, 1, 0] /\ tz prog 198 = some [.int .i64 0, .bool false, .int .i64 0] /\ tflat prog 198 = true /\ tbool prog 198 = false := by and_intros <;> kernel_rfl
@[go_sem] theorem tc_205 : prog.cellsOf 205 = 3 := by kernel_rfl
@[go_sem] theorem t_205 : tl prog 205 = some (true, 3) /\ te prog 205 = none /\ tp prog 205 = some [(0, 1), (1, 1), (2, 1)] /\ tf prog 205 0 = some (0, false, 1) /\ tf prog 205 1 = some (1, false, 1) /\ tf prog 205 2 = some (2, false, 1) /\ teq prog 205 = some [0, 0, 0] /\ tz prog 205 = some [.int .i64 0, .int .i64 0, .int .i64 0] /\ tflat prog 205 = true /\ tbool prog 205 = false := by and_intros <;> kernel_rfl
@[go_sem] theorem t_209 : prog.cellsOf 209 = 1 /\ tl prog 209 = some (true, 1) /\ te prog 209 = none /\ tp prog 209 = some [(0, 1)] /\ tf prog 209 0 = some (0, false, 1) /\ tz prog 209 = some [.sl 2 []] /\ tflat prog 209 = false /\ tbool prog 209 = false := by and_intros <;> kernel_rfl
@[go_sem] theorem t_210 : prog.cellsOf 210 = 1 /\ tl prog 210 = some (true, 1) /\ te prog 210 = none /\ tp prog 210 = some [(0, 1)] /\ tf prog 210 0 = some (0, false, 1) /\ tz prog 210 = some [.sl 2 []] /\ tflat prog 210 = false /\ tbool prog 210 = false := by and_intros <;> kernel_rfl
@[go_sem] theorem t_250 : prog.cellsOf 250 = 3 /\ tl prog 250 = some (true, 3) /\ te prog 250 = none /\ tp prog 250 = some [(0, 1), (1, 1), (2, 1)] /\ tf prog 250 0 = some (0, false, 1) /\ tf prog 250 1 = some (1, false, 1) /\ tf prog 250 2 = some (2, false, 1) /\ tz prog 250 = some [.int .i64 0, .int .i64 0, .int .i64 0] /\ tflat prog 250 = true /\ tbool prog 250 = false := by and_intros <;> kernel_rfl
@[go_sem] theorem t_251 : prog.cellsOf 251 = 3 /\ tl prog 251 = some (true, 3) /\ te prog 251 = none /\ tp prog 251 = some [(0, 1), (1, 1), (2, 1)] /\ tf prog 251 0 = some (0, false, 1) /\ tf prog 251 1 = some (1, false, 1) /\ tf prog 251 2 = some (2, false, 1) /\ teq prog 251 = some [0, 0, 0] /\ tz prog 251 = some [.int .i64 0, .int .i64 0, .int .i64 0] /\ tflat prog 251 = true /\ tbool prog 251 = false := by and_intros <;> kernel_rfl
@[go_sem] theorem t_252 : prog.cellsOf 252 = 2 /\ tl prog 252 = some (true, 2) /\ te prog 252 = none /\ tp prog 252 = some [(0, 1), (1, 1)] /\ tf prog 252 0 = some (0, false, 1) /\ tf prog 252 1 = some (1, false, 1) /\ tz prog 252 = some [.bool false, .int .i64 0] /\ tflat prog 252 = true /\ tbool prog 252 = false := by and_intros <;> kernel_rfl
@[go_sem] theorem t_253 : prog.cellsOf 253 = 2 /\ tl prog 253 = some (true, 2) /\ te prog 253 = none /\ tp prog 253 = some [(0, 1), (1, 1)] /\ tf prog 253 0 = some (0, false, 1) /\ tf prog 253 1 = some (1, false, 1) /\ teq prog 253 = some [1, 0] /\ tz prog 253 = some [.bool false, .int .i64 0] /\ tflat prog 253 = true /\ tbool prog 253 = false := by and_intros <;> kernel_rfl
@[go_sem] theorem t_267 : prog.cellsOf 267 = 1 /\ tl prog 267 = some (false, 1) /\ te prog 267 = some (376, 2, 16) /\ tz prog 267 = some [.sl 2 []] /\ tflat prog 267 = false /\ tbool prog 267 = false := by and_intros <;> kernel_rfl
@[go_sem] theorem t_268 : prog.cellsOf 268 = 1 /\ tl prog 268 = some (true, 1) /\ te prog 268 = none /\ tp prog 268 = some [(0, 1)] /\ tf prog 268 0 = some (0, false, 1) /\ tz prog 268 = some [.sl 2 []] /\ tflat prog 268 = false /\ tbool prog 268 = false := by and_intros <;> kernel_rfl
@[go_sem] theorem tc_269 : prog.cellsOf 269 = 1 := by kernel_rfl
@[go_sem] theorem t_269 : tl prog 269 = some (true, 1) /\ te prog 269 = none /\ tp prog 269 = some [(0, 1)] /\ tf prog 269 0 = some (0, false, 1) /\ tz prog 269 = some [.sl 2 []] /\ tflat prog 269 = false /\ tbool prog 269 = false := by and_intros <;> kernel_rfl
@[go_sem] theorem t_278 : prog.cellsOf 278 = 1 /\ tl prog 278 = some (true, 1) /\ te prog 278 = none /\ tp prog 278 = some [(0, 1)] /\ tf prog 278 0 = some (0, false, 1) /\ tz prog 278 = some [.sl 1 []] /\ tflat prog 278 = false /\ tbool prog 278 = false := by and_intros <;> kernel_rfl
@[go_sem] theorem t_279 : prog.cellsOf 279 = 1 /\ tl prog 279 = some (true, 1) /\ te prog 279 = none /\ tp prog 279 = some [(0, 1)] /\ tf prog 279 0 = some (0, false, 1) /\ tz prog 279 = some [.sl 1 []] /\ tflat prog 279 = false /\ tbool prog 279 = false := by and_intros <;> kernel_rfl
@[go_sem] theorem t_296 : prog.cellsOf 296 = 24 /\ tl prog 296 = some (true, 24) /\ te prog 296 = none /\ ta prog 296 = some (24, 4, 1) /\ tp prog 296 = some [(0, 1), (1, 1), (2, 1), (3, 1), (4, 1), (5, 1), (6, 1), (7, 1), (8, 1), (9, 1), (10, 1), (11, 1), (12, 1), (13, 1), (14, 1), (15, 1), (16, 1), (17, 1), (18, 1), (19, 1), (20, 1), (21, 1), (22, 1), (23, 1)] /\ tz prog 296 = some [.bool false, .bool false, .bool false, .bool false, .bool false, .bool false, .bool false, .bool false, .bool false, .bool false, .bool false, .bool false, .bool false, .bool false, .bool false, .bool false, .bool false, .bool false, .bool false, .bool false, .bool false, .bool false, .bool false, .bool false] /\ tflat prog 296 = true /\ tbool prog 296 = false := by and_intros <;> kernel_rfl
@[go_sem] theorem t_324 : prog.cellsOf 324 = 1 /\ tl prog 324 = some (false, 1) /\ te prog 324 = none /\ tz prog 324 = some [.int .u64 0] /\ tflat prog 324 = true /\ tbool prog 324 = false /\ tkind prog 324 = some .u64 := by and_intros <;> kernel_rfl
@[go_sem] theorem tc_335 : prog.cellsOf 335 = 4 := by kernel_rfl
@[go_sem] theorem t_335 : tl prog 335 = some (true, 4) /\ te prog 335 = none /\ tp prog 335 = some [(0, 1), (1, 1), (2, 1), (3, 1)] /\ tf prog 335 0 = some (0, false, 1) /\ tf prog 335 1 = some (1, false, 1) /\ tf prog 335 2 = some (2, false, 1) /\ tf prog 335 3 = some (3, false, 1) /\ teq prog 335 = some [1, 0, 1, 0] /\ tz prog 335 = some [.bool false, .int .i64 0, .bool false, .int .i64 0] /\ tflat prog 335 = true /\ tbool prog 335 = false := by and_intros <;> kernel_rfl
@[go_sem] theorem tc_338 : prog.cellsOf 338 = 2 := by kernel_rfl
@[go_sem] theorem t_338 : tl prog 338 = some (true, 2) /\ te prog 338 = none /\ tp prog 338 = some [(0, 1), (1, 1)] /\ tf prog 338 0 = some (0, false, 1) /\ tf prog 338 1 = some (1, false, 1) /\ teq prog 338 = some [0, 0] /\ tz prog 338 = some [.int .i64 0, .int .i64 0] /\ tflat prog 338 = true /\ tbool prog 338 = false := by and_intros <;> kernel_rfl
@[go_sem] theorem tc_340 : prog.cellsOf 340 = 3 := by kernel_rfl
@[go_sem] theorem t_340 : tl prog 340 = some (true, 3) /\ te prog 340 = none /\ tp prog 340 = some [(0, 1), (1, 1), (2, 1)] /\ tf prog 340 0 = some (0, false, 1) /\ tf prog 340 1 = some (1, false, 1) /\ tf prog 340 2 = some (2, false, 1) /\ teq prog 340 = some [0, 1, 0] /\ tz prog 340 = some [.int .i64 0, .bool false, .int .i64 0] /\ tflat prog 340 = true /\ tbool prog 340 = false := by and_intros <;> kernel_rfl
@[go_sem] theorem tc_342 : prog.cellsOf 342 = 2 := by kernel_rfl
@[go_sem] theorem t_342 : tl prog 342 = some (true, 2) /\ te prog 342 = none /\ tp prog 342 = some [(0, 1), (1, 1)] /\ tf prog 342 0 = some (0, false, 1) /\ tf prog 342 1 = some (1, false, 1) /\ teq prog 342 = some [1, 0] /\ tz prog 342 = some [.bool false, .int .i64 0] /\ tflat prog 342 = true /\ tbool prog 342 = false := by and_intros <;> kernel_rfl
@[go_sem] theorem tc_344 : prog.cellsOf 344 = 3 := by kernel_rfl
@[go_sem] theorem t_344 : tl prog 344 = some (true, 3) /\ te prog 344 = none /\ tp prog 344 = some [(0, 1), (1, 1), (2, 1)] /\ tf prog 344 0 = some (0, false, 1) /\ tf prog 344 1 = some (1, false, 1) /\ tf prog 344 2 = some (2, false, 1) /\ teq prog 344 = some [0, 0, 0] /\ tz prog 344 = some [.int .i64 0, .int .i64 0, .int .i64 0] /\ tflat prog 344 = true /\ tbool prog 344 = false := by and_intros <;> kernel_rfl
@[go_sem] theorem tc_373 : prog.cellsOf 373 = 1 := by kernel_rfl
@[go_sem] theorem t_373 : tl prog 373 = some (true, 1) /\ te prog 373 = none /\ tp prog 373 = some [(0, 1)] /\ tf prog 373 0 = some (0, false, 1) /\ tz prog 373 = some [.sl 1 []] /\ tflat prog 373 = false /\ tbool prog 373 = false := by and_intros <;> kernel_rfl
@[go_sem] theorem tc_376 : prog.cellsOf 376 = 2 := by kernel_rfl
@[go_sem] theorem t_376 : tl prog 376 = some (true, 2) /\ te prog 376 = none /\ tp prog 376 = some [(0, 1), (1, 1)] /\ tf prog 376 0 = some (0, false, 1) /\ tf prog 376 1 = some (1, false, 1) /\ teq prog 376 = some [0, 0] /\ tz prog 376 = some [.int .i64 0, .int .i64 0] /\ tflat prog 376 = true /\ tbool prog 376 = false := by and_intros <;> kernel_rfl
@[go_sem] theorem t_377 : prog.cellsOf 377 = 1 /\ tl prog 377 = some (false, 1) /\ te prog 377 = some (45, 1, 24) /\ tz prog 377 = some [.sl 1 []] /\ tflat prog 377 = false /\ tbool prog 377 = false := by and_intros <;> kernel_rfl
@[go_sem] theorem t_393 : prog.cellsOf 393 = 3 /\ tl prog 393 = some (true, 3) /\ te prog 393 = none /\ ta prog 393 = some (3, 3, 1) /\ tp prog 393 = some [(0, 1), (1, 1), (2, 1)] /\ tz prog 393 = some [.int .i64 0, .int .i64 0, .int .i64 0] /\ tflat prog 393 = true /\ tbool prog 393 = false := by and_intros <;> kernel_rfl
theorem e2 : enters prog 2 = true := by kernel_rfl
theorem e4 : enters prog 4 = true := by kernel_rfl
theorem e13 : enters prog 13 = true := by kernel_rfl
theorem e14 : enters prog 14 = true := by kernel_rfl
theorem e15 : enters prog 15 = true := by kernel_rfl
theorem e16 : enters prog 16 = true := by kernel_rfl
theorem e17 : enters prog 17 = true := by kernel_rfl
theorem e25 : enters prog 25 = true := by kernel_rfl
theorem e30 : enters prog 30 = true := by kernel_rfl
theorem e31 : enters prog 31 = true := by kernel_rfl
theorem e32 : enters prog 32 = true := by kernel_rfl
theorem e33 : enters prog 33 = true := by kernel_rfl
theorem e34 : enters prog 34 = true := by kernel_rfl
theorem e35 : enters prog 35 = true := by kernel_rfl
theorem e36 : enters prog 36 = true := by kernel_rfl
theorem e37 : enters prog 37 = true := by kernel_rfl
theorem e38 : enters prog 38 = true := by kernel_rfl
theorem e41 : enters prog 41 = true := by kernel_rfl
theorem e42 : enters prog 42 = true := by kernel_rfl
theorem e44 : enters prog 44 = true := by kernel_rfl
theorem e46 : enters prog 46 = true := by kernel_rfl
theorem e48 : enters prog 48 = true := by kernel_rfl
theorem e49 : enters prog 49 = true := by kernel_rfl
theorem e51 : enters prog 51 = true := by kernel_rfl
theorem e52 : enters prog 52 = true := by kernel_rfl
theorem e53 : enters prog 53 = true := by kernel_rfl
theorem e54 : enters prog 54 = true := by kernel_rfl
theorem e55 : enters prog 55 = true := by kernel_rfl
theorem e56 : enters prog 56 = true := by kernel_rfl
theorem e57 : enters prog 57 = true := by kernel_rfl
theorem e58 : enters prog 58 = true := by kernel_rfl
theorem e59 : enters prog 59 = true := by kernel_rfl
theorem e60 : enters prog 60 = true := by kernel_rfl
theorem e61 : enters prog 61 = true := by kernel_rfl
theorem e62 : enters prog 62 = true := by kernel_rfl
theorem e63 : enters prog 63 = true := by kernel_rfl
theorem e64 : enters prog 64 = true := by kernel_rfl
theorem e65 : enters prog 65 = true := by kernel_rfl
theorem e66 : enters prog 66 = true := by kernel_rfl
theorem e67 : enters prog 67 = true := by kernel_rfl
theorem e68 : enters prog 68 = true := by kernel_rfl
theorem e69 : enters prog 69 = true := by kernel_rfl
theorem e70 : enters prog 70 = true := by kernel_rfl
theorem e71 : enters prog 71 = true := by kernel_rfl
theorem e72 : enters prog 72 = true := by kernel_rfl
theorem e73 : enters prog 73 = true := by kernel_rfl
theorem e74 : enters prog 74 = true := by kernel_rfl
theorem e75 : enters prog 75 = true := by kernel_rfl
theorem e76 : enters prog 76 = true := by kernel_rfl
theorem e77 : enters prog 77 = true := by kernel_rfl
theorem e78 : enters prog 78 = true := by kernel_rfl
theorem e80 : enters prog 80 = true := by kernel_rfl
theorem e89 : enters prog 89 = true := by kernel_rfl
theorem e92 : enters prog 92 = true := by kernel_rfl
theorem e94 : enters prog 94 = true := by kernel_rfl
theorem e97 : enters prog 97 = true := by kernel_rfl
theorem e98 : enters prog 98 = true := by kernel_rfl
theorem e99 : enters prog 99 = true := by kernel_rfl
theorem e100 : enters prog 100 = true := by kernel_rfl
theorem e102 : enters prog 102 = true := by kernel_rfl
theorem e103 : enters prog 103 = true := by kernel_rfl
theorem e104 : enters prog 104 = true := by kernel_rfl
theorem e105 : enters prog 105 = true := by kernel_rfl
theorem e106 : enters prog 106 = true := by kernel_rfl
theorem e107 : enters prog 107 = true := by kernel_rfl
theorem e108 : enters prog 108 = true := by kernel_rfl
theorem e109 : enters prog 109 = true := by kernel_rfl
theorem e110 : enters prog 110 = true := by kernel_rfl
theorem e113 : enters prog 113 = true := by kernel_rfl
theorem e114 : enters prog 114 = true := by kernel_rfl
theorem e115 : enters prog 115 = true := by kernel_rfl
theorem e118 : enters prog 118 = true := by kernel_rfl
theorem e121 : enters prog 121 = true := by kernel_rfl
theorem e124 : enters prog 124 = true := by kernel_rfl
theorem e125 : enters prog 125 = true := by kernel_rfl
theorem e130 : enters prog 130 = true := by kernel_rfl
theorem e131 : enters prog 131 = true := by kernel_rfl
theorem e132 : enters prog 132 = true := by kernel_rfl
theorem e133 : enters prog 133 = true := by kernel_rfl
theorem e134 : enters prog 134 = true := by kernel_rfl
theorem e135 : enters prog 135 = true := by kernel_rfl
theorem e136 : enters prog 136 = true := by kernel_rfl
theorem e137 : enters prog 137 = true := by kernel_rfl
theorem e138 : enters prog 138 = true := by kernel_rfl
theorem e139 : enters prog 139 = true := by kernel_rfl
theorem e140 : enters prog 140 = true := by kernel_rfl
theorem e141 : enters prog 141 = true := by kernel_rfl
theorem e142 : enters prog 142 = true := by kernel_rfl
theorem e143 : enters prog 143 = true := by kernel_rfl
theorem e144 : enters prog 144 = true := by kernel_rfl
theorem e145 : enters prog 145 = true := by kernel_rfl
theorem e146 : enters prog 146 = true := by kernel_rfl
theorem e147 : enters prog 147 = true := by kernel_rfl
theorem e148 : enters prog 148 = true := by kernel_rfl
theorem e149 : enters prog 149 = true := by kernel_rfl
theorem e150 : enters prog 150 = true := by kernel_rfl
theorem e151 : enters prog 151 = true := by kernel_rfl
theorem e152 : enters prog 152 = true := by kernel_rfl
theorem e153 : enters prog 153 = true := by kernel_rfl
theorem e154 : enters prog 154 = true := by kernel_rfl
theorem e155 : enters prog 155 = true := by kernel_rfl
theorem e156 : enters prog 156 = true := by kernel_rfl
theorem e157 : enters prog 157 = true := by kernel_rfl
theorem e158 : enters prog 158 = true := by kernel_rfl
theorem e159 : enters prog 159 = true := by kernel_rfl
theorem e160 : enters prog 160 = true := by kernel_rfl
theorem e161 : enters prog 161 = true := by kernel_rfl
theorem e162 : enters prog 162 = true := by kernel_rfl
theorem e163 : enters prog 163 = true := by kernel_rfl
theorem e164 : enters prog 164 = true := by kernel_rfl
theorem e165 : enters prog 165 = true := by kernel_rfl
theorem e166 : enters prog 166 = true := by kernel_rfl
theorem e167 : enters prog 167 = true := by kernel_rfl
theorem e168 : enters prog 168 = true := by kernel_rfl
theorem e169 : enters prog 169 = true := by kernel_rfl
theorem e170 : enters prog 170 = true := by kernel_rfl
theorem e171 : enters prog 171 = true := by kernel_rfl
theorem e172 : enters prog 172 = true := by kernel_rfl
theorem e173 : enters prog 173 = true := by kernel_rfl
theorem e174 : enters prog 174 = true := by kernel_rfl
theorem e175 : enters prog 175 = true := by kernel_rfl
theorem e176 : enters prog 176 = true := by kernel_rfl
theorem e177 : enters prog 177 = true := by kernel_rfl
theorem e178 : enters prog 178 = true := by kernel_rfl
theorem e179 : enters prog 179 = true := by kernel_rfl
theorem e180 : enters prog 180 = true := by kernel_rfl
theorem e181 : enters prog 181 = true := by kernel_rfl
theorem e182 : enters prog 182 = true := by kernel_rfl
theorem e183 : enters prog 183 = true := by kernel_rfl
theorem e184 : enters prog 184 = true := by kernel_rfl
theorem e185 : enters prog 185 = true := by kernel_rfl
theorem e186 : enters prog 186 = true := by kernel_rfl
theorem e187 : enters prog 187 = true := by kernel_rfl
theorem e188 : enters prog 188 = true := by kernel_rfl
theorem e189 : enters prog 189 = true := by kernel_rfl
theorem e190 : enters prog 190 = true := by kernel_rfl
theorem e201 : enters prog 201 = true := by kernel_rfl
theorem e202 : enters prog 202 = true := by kernel_rfl
theorem e203 : enters prog 203 = true := by kernel_rfl
theorem e204 : enters prog 204 = true := by kernel_rfl
theorem e206 : enters prog 206 = true := by kernel_rfl
theorem e207 : enters prog 207 = true := by kernel_rfl
theorem e212 : enters prog 212 = true := by kernel_rfl
theorem e213 : enters prog 213 = true := by kernel_rfl
theorem e214 : enters prog 214 = true := by kernel_rfl
theorem e215 : enters prog 215 = true := by kernel_rfl
theorem e216 : enters prog 216 = true := by kernel_rfl
theorem e217 : enters prog 217 = true := by kernel_rfl
theorem e218 : enters prog 218 = true := by kernel_rfl
theorem e219 : enters prog 219 = true := by kernel_rfl
theorem e220 : enters prog 220 = true := by kernel_rfl
theorem e221 : enters prog 221 = true := by kernel_rfl
theorem e222 : enters prog 222 = true := by kernel_rfl
theorem e223 : enters prog 223 = true := by kernel_rfl
theorem e224 : enters prog 224 = true := by kernel_rfl
theorem e225 : enters prog 225 = true := by kernel_rfl
theorem e226 : enters prog 226 = true := by kernel_rfl
theorem e227 : enters prog 227 = true := by kernel_rfl
theorem e228 : enters prog 228 = true := by kernel_rfl
theorem e229 : enters prog 229 = true := by kernel_rfl
theorem e234 : enters prog 234 = true := by kernel_rfl
theorem e235 : enters prog 235 = true := by kernel_rfl
theorem e236 : enters prog 236 = true := by kernel_rfl
theorem e242 : enters prog 242 = true := by kernel_rfl
theorem e248 : enters prog 248 = true := by kernel_rfl
theorem e255 : enters prog 255 = true := by kernel_rfl
theorem e256 : enters prog 256 = true := by kernel_rfl
theorem e257 : enters prog 257 = true := by kernel_rfl
theorem e258 : enters prog 258 = true := by kernel_rfl
theorem e259 : enters prog 259 = true := by kernel_rfl
theorem e260 : enters prog 260 = true := by kernel_rfl
theorem e261 : enters prog 261 = true := by kernel_rfl
theorem e262 : enters prog 262 = true := by kernel_rfl
theorem e263 : enters prog 263 = true := by kernel_rfl
theorem e264 : enters prog 264 = true := by kernel_rfl
theorem e265 : enters prog 265 = true := by kernel_rfl
theorem e266 : enters prog 266 = true := by kernel_rfl
theorem e267 : enters prog 267 = true := by kernel_rfl
theorem e268 : enters prog 268 = true := by kernel_rfl
theorem e269 : enters prog 269 = true := by kernel_rfl
theorem e270 : enters prog 270 = true := by kernel_rfl
theorem e271 : enters prog 271 = true := by kernel_rfl
theorem e272 : enters prog 272 = true := by kernel_rfl
theorem e273 : enters prog 273 = true := by kernel_rfl
theorem e274 : enters prog 274 = true := by kernel_rfl
theorem e275 : enters prog 275 = true := by kernel_rfl
theorem e276 : enters prog 276 = true := by kernel_rfl
theorem e277 : enters prog 277 = true := by kernel_rfl
theorem e278 : enters prog 278 = true := by kernel_rfl
theorem e279 : enters prog 279 = true := by kernel_rfl
theorem e280 : enters prog 280 = true := by kernel_rfl
theorem e281 : enters prog 281 = true := by kernel_rfl
theorem e282 : enters prog 282 = true := by kernel_rfl
theorem e283 : enters prog 283 = true := by kernel_rfl
theorem e284 : enters prog 284 = true := by kernel_rfl
theorem e285 : enters prog 285 = true := by kernel_rfl
theorem e286 : enters prog 286 = true := by kernel_rfl
theorem e287 : enters prog 287 = true := by kernel_rfl
theorem e288 : enters prog 288 = true := by kernel_rfl
theorem e289 : enters prog 289 = true := by kernel_rfl
theorem e290 : enters prog 290 = true := by kernel_rfl
theorem e291 : enters prog 291 = true := by kernel_rfl
theorem e292 : enters prog 292 = true := by kernel_rfl
theorem e293 : enters prog 293 = true := by kernel_rfl
theorem e294 : enters prog 294 = true := by kernel_rfl
theorem e295 : enters prog 295 = true := by kernel_rfl
theorem e296 : enters prog 296 = true := by kernel_rfl
theorem e297 : enters prog 297 = true := by kernel_rfl
theorem e298 : enters prog 298 = true := by kernel_rfl
theorem e299 : enters prog 299 = true := by kernel_rfl
theorem e300 : enters prog 300 = true := by kernel_rfl
theorem e301 : enters prog 301 = true := by kernel_rfl
theorem e302 : enters prog 302 = true := by kernel_rfl
theorem e303 : enters prog 303 = true := by kernel_rfl
theorem e304 : enters prog 304 = true := by kernel_rfl
theorem e305 : enters prog 305 = true := by kernel_rfl
theorem e306 : enters prog 306 = true := by kernel_rfl
theorem e307 : enters prog 307 = true := by kernel_rfl
theorem e308 : enters prog 308 = true := by kernel_rfl
theorem e309 : enters prog 309 = true := by kernel_rfl
theorem e310 : enters prog 310 = true := by kernel_rfl
theorem e311 : enters prog 311 = true := by kernel_rfl
theorem e312 : enters prog 312 = true := by kernel_rfl
theorem e313 : enters prog 313 = true := by kernel_rfl
theorem e314 : enters prog 314 = true := by kernel_rfl
theorem e315 : enters prog 315 = true := by kernel_rfl
theorem e316 : enters prog 316 = true := by kernel_rfl
theorem e317 : enters prog 317 = true := by kernel_rfl
theorem e318 : enters prog 318 = true := by kernel_rfl
theorem e319 : enters prog 319 = true := by kernel_rfl
theorem e324 : enters prog 324 = true := by kernel_rfl
theorem e325 : enters prog 325 = true := by kernel_rfl
theorem e326 : enters prog 326 = true := by kernel_rfl
theorem e327 : enters prog 327 = true := by kernel_rfl
theorem e328 : enters prog 328 = true := by kernel_rfl
theorem e334 : enters prog 334 = true := by kernel_rfl
theorem e335 : enters prog 335 = true := by kernel_rfl
theorem e336 : enters prog 336 = true := by kernel_rfl
theorem e337 : enters prog 337 = true := by kernel_rfl
theorem e340 : enters prog 340 = true := by kernel_rfl
theorem e341 : enters prog 341 = true := by kernel_rfl
theorem e342 : enters prog 342 = true := by kernel_rfl
theorem e343 : enters prog 343 = true := by kernel_rfl
theorem e344 : enters prog 344 = true := by kernel_rfl
theorem e353 : enters prog 353 = true := by kernel_rfl
theorem e354 : enters prog 354 = true := by kernel_rfl
theorem e355 : enters prog 355 = true := by kernel_rfl
theorem e356 : enters prog 356 = true := by kernel_rfl
theorem e357 : enters prog 357 = true := by kernel_rfl
theorem e358 : enters prog 358 = true := by kernel_rfl
theorem e359 : enters prog 359 = true := by kernel_rfl
theorem e360 : enters prog 360 = true := by kernel_rfl
theorem e361 : enters prog 361 = true := by kernel_rfl
theorem e362 : enters prog 362 = true := by kernel_rfl
theorem e363 : enters prog 363 = true := by kernel_rfl
theorem e364 : enters prog 364 = true := by kernel_rfl
theorem e365 : enters prog 365 = true := by kernel_rfl
theorem e366 : enters prog 366 = true := by kernel_rfl
theorem e367 : enters prog 367 = true := by kernel_rfl
theorem e368 : enters prog 368 = true := by kernel_rfl
theorem e369 : enters prog 369 = true := by kernel_rfl
theorem e370 : enters prog 370 = true := by kernel_rfl
theorem e371 : enters prog 371 = true := by kernel_rfl
theorem e372 : enters prog 372 = true := by kernel_rfl
theorem e373 : enters prog 373 = true := by kernel_rfl
theorem e374 : enters prog 374 = true := by kernel_rfl
theorem e375 : enters prog 375 = true := by kernel_rfl
theorem e376 : enters prog 376 = true := by kernel_rfl
theorem e377 : enters prog 377 = true := by kernel_rfl
theorem e378 : enters prog 378 = true := by kernel_rfl
theorem e379 : enters prog 379 = true := by kernel_rfl
theorem e380 : enters prog 380 = true := by kernel_rfl
theorem e381 : enters prog 381 = true := by kernel_rfl
theorem e382 : enters prog 382 = true := by kernel_rfl
theorem e383 : enters prog 383 = true := by kernel_rfl
theorem e384 : enters prog 384 = true := by kernel_rfl
theorem e385 : enters prog 385 = true := by kernel_rfl
theorem e390 : enters prog 390 = true := by kernel_rfl
theorem e392 : enters prog 392 = true := by kernel_rfl
theorem e406 : enters prog 406 = true := by kernel_rfl
theorem e407 : enters prog 407 = true := by kernel_rfl
theorem e408 : enters prog 408 = true := by kernel_rfl
theorem e409 : enters prog 409 = true := by kernel_rfl
theorem e410 : enters prog 410 = true := by kernel_rfl
theorem e411 : enters prog 411 = true := by kernel_rfl
theorem e412 : enters prog 412 = true := by kernel_rfl
theorem e413 : enters prog 413 = true := by kernel_rfl
theorem e414 : enters prog 414 = true := by kernel_rfl
theorem e415 : enters prog 415 = true := by kernel_rfl
theorem e416 : enters prog 416 = true := by kernel_rfl
theorem e417 : enters prog 417 = true := by kernel_rfl
theorem e418 : enters prog 418 = true := by kernel_rfl
theorem e434 : enters prog 434 = true := by kernel_rfl
theorem e435 : enters prog 435 = true := by kernel_rfl
theorem e436 : enters prog 436 = true := by kernel_rfl
theorem mixed : prog.follows .mixedOrders = true := by kernel_rfl
end Go.Proofs.YtcanhdhlbghfiaaGreat.Ty
