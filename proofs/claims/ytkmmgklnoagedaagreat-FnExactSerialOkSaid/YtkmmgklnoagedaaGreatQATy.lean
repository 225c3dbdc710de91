import Derived.Test.YtkmmgklnoagedaaGreatChecked
import Derived.Test.YtkmmgklnoagedaaGreatQAbsCode
import Derived.KernelRfl
/- Facts on the types of the translation, each jt. Written by wip/tools/gen.py. -/
namespace Go.Proofs.YtkmmgklnoagedaaGreat.Ty
open Go.Proofs.Tryz Go.Abs Go.Proofs
@[go_sem] theorem t_2 : prog.cellsOf 2 = 1 /\ tl prog 2 = some (false, 1) /\ te prog 2 = none /\ tz prog 2 = some [.int .i64 0] /\ tflat prog 2 = true /\ tbool prog 2 = false /\ tkind prog 2 = some .i64 := by and_intros <;> kernel_rfl
@[go_sem] theorem tc_3 : prog.cellsOf 3 = 1 := by kernel_rfl
@[go_sem] theorem t_3 : tl prog 3 = some (false, 1) /\ te prog 3 = none /\ tz prog 3 = some [.int .i64 0] /\ tflat prog 3 = true /\ tbool prog 3 = false /\ tkind prog 3 = some .i64 := by and_intros <;> kernel_rfl
@[go_sem] theorem t_4 : prog.cellsOf 4 = 1 /\ tl prog 4 = some (false, 1) /\ te prog 4 = none /\ tz prog 4 = some [.bool false] /\ tflat prog 4 = true /\ tbool prog 4 = true := by and_intros <;> kernel_rfl
@[go_sem] theorem t_22 : prog.cellsOf 22 = 1 /\ tl prog 22 = some (false, 1) /\ te prog 22 = some (79, 1, 24) /\ tz prog 22 = some [.sl 1 []] /\ tflat prog 22 = false /\ tbool prog 22 = false := by and_intros <;> kernel_rfl
@[go_sem] theorem t_24 : prog.cellsOf 24 = 1 /\ tl prog 24 = some (false, 1) /\ te prog 24 = some (3, 1, 8) /\ tz prog 24 = some [.sl 1 []] /\ tflat prog 24 = false /\ tbool prog 24 = false := by and_intros <;> kernel_rfl
@[go_sem] theorem t_26 : prog.cellsOf 26 = 2 /\ tl prog 26 = some (true, 2) /\ te prog 26 = none /\ tp prog 26 = some [(0, 1), (1, 1)] /\ tf prog 26 0 = some (0, false, 1) /\ tf prog 26 1 = some (1, false, 1) /\ tz prog 26 = some [.sl 1 [], .sl 1 []] /\ tflat prog 26 = false /\ tbool prog 26 = false := by and_intros <;> kernel_rfl
@[go_sem] theorem t_27 : prog.cellsOf 27 = 1 /\ tl prog 27 = some (false, 1) /\ te prog 27 = some (314, 1, 24) /\ tz prog 27 = some [.sl 1 []] /\ tflat prog 27 = false /\ tbool prog 27 = false := by and_intros <;> kernel_rfl
@[go_sem] theorem t_29 : prog.cellsOf 29 = 2 /\ tl prog 29 = some (true, 2) /\ te prog 29 = none /\ tp prog 29 = some [(0, 1), (1, 1)] /\ tf prog 29 0 = some (0, false, 1) /\ tf prog 29 1 = some (1, false, 1) /\ tz prog 29 = some [.sl 1 [], .sl 1 []] /\ tflat prog 29 = false /\ tbool prog 29 = false := by and_intros <;> kernel_rfl
@[go_sem] theorem t_31 : prog.cellsOf 31 = 4 /\ tl prog 31 = some (true, 4) /\ te prog 31 = none /\ tp prog 31 = some [(0, 2), (2, 2)] /\ tf prog 31 0 = some (0, true, 2) /\ tf prog 31 1 = some (2, true, 2) /\ tz prog 31 = some [.sl 1 [], .sl 1 [], .sl 1 [], .sl 1 []] /\ tflat prog 31 = false /\ tbool prog 31 = false := by and_intros <;> kernel_rfl
@[go_sem] theorem t_32 : prog.cellsOf 32 = 1 /\ tl prog 32 = some (false, 1) /\ te prog 32 = some (299, 4, 32) /\ tz prog 32 = some [.sl 4 []] /\ tflat prog 32 = false /\ tbool prog 32 = false := by and_intros <;> kernel_rfl
@[go_sem] theorem t_34 : prog.cellsOf 34 = 2 /\ tl prog 34 = some (true, 2) /\ te prog 34 = none /\ tp prog 34 = some [(0, 1), (1, 1)] /\ tf prog 34 0 = some (0, false, 1) /\ tf prog 34 1 = some (1, false, 1) /\ tz prog 34 = some [.int .i64 0, .sl 4 []] /\ tflat prog 34 = false /\ tbool prog 34 = false := by and_intros <;> kernel_rfl
@[go_sem] theorem t_35 : prog.cellsOf 35 = 1 /\ tl prog 35 = some (false, 1) /\ te prog 35 = some (231, 1, 24) /\ tz prog 35 = some [.sl 1 []] /\ tflat prog 35 = false /\ tbool prog 35 = false := by and_intros <;> kernel_rfl
@[go_sem] theorem t_37 : prog.cellsOf 37 = 8 /\ tl prog 37 = some (true, 8) /\ te prog 37 = none /\ tp prog 37 = some [(0, 4), (4, 2), (6, 1), (7, 1)] /\ tf prog 37 0 = some (0, true, 4) /\ tf prog 37 1 = some (4, true, 2) /\ tf prog 37 2 = some (6, false, 1) /\ tf prog 37 3 = some (7, false, 1) /\ tz prog 37 = some [.sl 1 [], .sl 1 [], .sl 1 [], .sl 1 [], .int .i64 0, .sl 4 [], .sl 1 [], .sl 1 []] /\ tflat prog 37 = false /\ tbool prog 37 = false := by and_intros <;> kernel_rfl
@[go_sem] theorem t_38 : prog.cellsOf 38 = 1 /\ tl prog 38 = some (false, 1) /\ te prog 38 = some (111, 3, 24) /\ tz prog 38 = some [.sl 3 []] /\ tflat prog 38 = false /\ tbool prog 38 = false := by and_intros <;> kernel_rfl
@[go_sem] theorem t_39 : prog.cellsOf 39 = 1 /\ tl prog 39 = some (false, 1) /\ te prog 39 = some (152, 32, 368) /\ tz prog 39 = some [.sl 32 []] /\ tflat prog 39 = false /\ tbool prog 39 = false := by and_intros <;> kernel_rfl
@[go_sem] theorem t_40 : prog.cellsOf 40 = 1 /\ tl prog 40 = some (false, 1) /\ te prog 40 = some (85, 1, 24) /\ tz prog 40 = some [.sl 1 []] /\ tflat prog 40 = false /\ tbool prog 40 = false := by and_intros <;> kernel_rfl
@[go_sem] theorem t_41 : prog.cellsOf 41 = 1 /\ tl prog 41 = some (false, 1) /\ te prog 41 = some (155, 6, 80) /\ tz prog 41 = some [.sl 6 []] /\ tflat prog 41 = false /\ tbool prog 41 = false := by and_intros <;> kernel_rfl
@[go_sem] theorem t_43 : prog.cellsOf 43 = 13 /\ tl prog 43 = some (true, 13) /\ te prog 43 = none /\ tp prog 43 = some [(0, 8), (8, 1), (9, 1), (10, 1), (11, 1), (12, 1)] /\ tf prog 43 0 = some (0, true, 8) /\ tf prog 43 1 = some (8, false, 1) /\ tf prog 43 2 = some (9, false, 1) /\ tf prog 43 3 = some (10, false, 1) /\ tf prog 43 4 = some (11, false, 1) /\ tf prog 43 5 = some (12, false, 1) /\ tz prog 43 = some [.sl 1 [], .sl 1 [], .sl 1 [], .sl 1 [], .int .i64 0, .sl 4 [], .sl 1 [], .sl 1 [], .sl 3 [], .sl 32 [], .sl 1 [], .sl 6 [], .int .i64 0] /\ tflat prog 43 = false /\ tbool prog 43 = false := by and_intros <;> kernel_rfl
@[go_sem] theorem t_51 : prog.cellsOf 51 = 2 /\ tl prog 51 = some (true, 2) /\ te prog 51 = none /\ tp prog 51 = some [(0, 1), (1, 1)] /\ tf prog 51 0 = some (0, false, 1) /\ tf prog 51 1 = some (1, false, 1) /\ tz prog 51 = some [.sl 1 [], .sl 1 []] /\ tflat prog 51 = false /\ tbool prog 51 = false := by and_intros <;> kernel_rfl
@[go_sem] theorem t_52 : prog.cellsOf 52 = 1 /\ tl prog 52 = some (false, 1) /\ te prog 52 = some (345, 1, 24) /\ tz prog 52 = some [.sl 1 []] /\ tflat prog 52 = false /\ tbool prog 52 = false := by and_intros <;> kernel_rfl
@[go_sem] theorem t_54 : prog.cellsOf 54 = 2 /\ tl prog 54 = some (true, 2) /\ te prog 54 = none /\ tp prog 54 = some [(0, 1), (1, 1)] /\ tf prog 54 0 = some (0, false, 1) /\ tf prog 54 1 = some (1, false, 1) /\ tz prog 54 = some [.sl 1 [], .sl 1 []] /\ tflat prog 54 = false /\ tbool prog 54 = false := by and_intros <;> kernel_rfl
@[go_sem] theorem t_56 : prog.cellsOf 56 = 4 /\ tl prog 56 = some (true, 4) /\ te prog 56 = none /\ tp prog 56 = some [(0, 2), (2, 2)] /\ tf prog 56 0 = some (0, true, 2) /\ tf prog 56 1 = some (2, true, 2) /\ tz prog 56 = some [.sl 1 [], .sl 1 [], .sl 1 [], .sl 1 []] /\ tflat prog 56 = false /\ tbool prog 56 = false := by and_intros <;> kernel_rfl
@[go_sem] theorem t_57 : prog.cellsOf 57 = 1 /\ tl prog 57 = some (false, 1) /\ te prog 57 = some (317, 4, 32) /\ tz prog 57 = some [.sl 4 []] /\ tflat prog 57 = false /\ tbool prog 57 = false := by and_intros <;> kernel_rfl
@[go_sem] theorem t_59 : prog.cellsOf 59 = 2 /\ tl prog 59 = some (true, 2) /\ te prog 59 = none /\ tp prog 59 = some [(0, 1), (1, 1)] /\ tf prog 59 0 = some (0, false, 1) /\ tf prog 59 1 = some (1, false, 1) /\ tz prog 59 = some [.int .i64 0, .sl 4 []] /\ tflat prog 59 = false /\ tbool prog 59 = false := by and_intros <;> kernel_rfl
@[go_sem] theorem t_60 : prog.cellsOf 60 = 1 /\ tl prog 60 = some (false, 1) /\ te prog 60 = some (254, 1, 24) /\ tz prog 60 = some [.sl 1 []] /\ tflat prog 60 = false /\ tbool prog 60 = false := by and_intros <;> kernel_rfl
@[go_sem] theorem t_62 : prog.cellsOf 62 = 8 /\ tl prog 62 = some (true, 8) /\ te prog 62 = none /\ tp prog 62 = some [(0, 4), (4, 2), (6, 1), (7, 1)] /\ tf prog 62 0 = some (0, true, 4) /\ tf prog 62 1 = some (4, true, 2) /\ tf prog 62 2 = some (6, false, 1) /\ tf prog 62 3 = some (7, false, 1) /\ tz prog 62 = some [.sl 1 [], .sl 1 [], .sl 1 [], .sl 1 [], .int .i64 0, .sl 4 [], .sl 1 [], .sl 1 []] /\ tflat prog 62 = false /\ tbool prog 62 = false := by and_intros <;> kernel_rfl
@[go_sem] theorem t_63 : prog.cellsOf 63 = 1 /\ tl prog 63 = some (false, 1) /\ te prog 63 = some (194, 3, 24) /\ tz prog 63 = some [.sl 3 []] /\ tflat prog 63 = false /\ tbool prog 63 = false := by and_intros <;> kernel_rfl
@[go_sem] theorem t_64 : prog.cellsOf 64 = 1 /\ tl prog 64 = some (false, 1) /\ te prog 64 = some (178, 32, 368) /\ tz prog 64 = some [.sl 32 []] /\ tflat prog 64 = false /\ tbool prog 64 = false := by and_intros <;> kernel_rfl
@[go_sem] theorem t_65 : prog.cellsOf 65 = 1 /\ tl prog 65 = some (false, 1) /\ te prog 65 = some (181, 6, 80) /\ tz prog 65 = some [.sl 6 []] /\ tflat prog 65 = false /\ tbool prog 65 = false := by and_intros <;> kernel_rfl
@[go_sem] theorem t_67 : prog.cellsOf 67 = 13 /\ tl prog 67 = some (true, 13) /\ te prog 67 = none /\ tp prog 67 = some [(0, 8), (8, 1), (9, 1), (10, 1), (11, 1), (12, 1)] /\ tf prog 67 0 = some (0, true, 8) /\ tf prog 67 1 = some (8, false, 1) /\ tf prog 67 2 = some (9, false, 1) /\ tf prog 67 3 = some (10, false, 1) /\ tf prog 67 4 = some (11, false, 1) /\ tf prog 67 5 = some (12, false, 1) /\ tz prog 67 = some [.sl 1 [], .sl 1 [], .sl 1 [], .sl 1 [], .int .i64 0, .sl 4 [], .sl 1 [], .sl 1 [], .sl 3 [], .sl 32 [], .sl 1 [], .sl 6 [], .int .i64 0] /\ tflat prog 67 = false /\ tbool prog 67 = false := by and_intros <;> kernel_rfl
@[go_sem] theorem oX : te prog 72 = some (125, 2, 16) := by kernel_rfl
@[go_sem] theorem t_72 : prog.cellsOf 72 = 1 /\ tl prog 72 = some (false, 1) /\ tz prog 72 = some [.sl 2 []] /\ tflat prog 72 = false /\ tbool prog 72 = false := by and_intros <;> kernel_rfl
@[go_sem] theorem t_77 : prog.cellsOf 77 = 1 /\ tl prog 77 = some (false, 1) /\ te prog 77 = some (171, 2, 32) /\ tz prog 77 = some [.sl 2 []] /\ tflat prog 77 = false /\ tbool prog 77 = false := by and_intros <;> kernel_rfl
@[go_sem] theorem oY : prog.cellsOf 79 = 1 := by kernel_rfl
@[go_sem] theorem t_79 : tl prog 79 = some (true, 1) /\ te prog 79 = none /\ tp prog 79 = some [(0, 1)] /\ tf prog 79 0 = some (0, false, 1) /\ tz prog 79 = some [.sl 2 []] /\ tflat prog 79 = false /\ tbool prog 79 = false := by and_intros <;> kernel_rfl
@[go_sem] theorem t_83 : prog.cellsOf 83 = 1 /\ tl prog 83 = some (false, 1) /\ te prog 83 = some (130, 2, 32) /\ tz prog 83 = some [.sl 2 []] /\ tflat prog 83 = false /\ tbool prog 83 = false := by and_intros <;> kernel_rfl
@[go_sem] theorem t_85 : prog.cellsOf 85 = 1 /\ tl prog 85 = some (true, 1) /\ te prog 85 = none /\ tp prog 85 = some [(0, 1)] /\ tf prog 85 0 = some (0, false, 1) /\ tz prog 85 = some [.sl 2 []] /\ tflat prog 85 = false /\ tbool prog 85 = false := by and_intros <;> kernel_rfl
@[go_sem] theorem o8 : prog.cellsOf 111 = 3 /\ tl prog 111 = some (true, 3) /\ te prog 111 = none /\ tp prog 111 = some [(0, 1), (1, 1), (2, 1)] /\ tf prog 111 0 = some (0, false, 1) /\ tf prog 111 1 = some (1, false, 1) /\ tf prog 111 2 = some (2, false, 1) /\ teq prog 111 = some [0, 0, 0] /\ tz prog 111 = some [.int .i64 0, .int .i64 0, .int .i64 0] /\ tflat prog 111 = true /\ tbool prog 111 = false := by and_intros <;> kernel_rfl
@[go_sem] theorem o9 : prog.cellsOf 113 = 3 /\ tl prog 113 = some (true, 3) /\ te prog 113 = none /\ tp prog 113 = some [(0, 1), (1, 1), (2, 1)] /\ tf prog 113 0 = some (0, false, 1) /\ tf prog 113 1 = some (1, false, 1) /\ tf prog 113 2 = some (2, false, 1) /\ teq prog 113 = some [0, 0, 0] /\ tz prog 113 = some [.int .i64 0, .int .i64 0, .int .i64 0] /\ tflat prog 113 = true /\ tbool prog 113 = false := by and_intros <;> kernel_rfl
@[go_sem] theorem pd : prog.cellsOf 116 = 1 /\ tl prog 116 = some (false, 1) /\ te prog 116 = some (24, 1, 24) /\ tz prog 116 = some [.sl 1 []] /\ tflat prog 116 = false /\ tbool prog 116 = false := by and_intros <;> kernel_rfl
@[go_sem] theorem pe : prog.cellsOf 125 = 2 /\ tl prog 125 = some (true, 2) /\ te prog 125 = none /\ tp prog 125 = some [(0, 1), (1, 1)] /\ tf prog 125 0 = some (0, false, 1) /\ tf prog 125 1 = some (1, false, 1) /\ teq prog 125 = some [0, 0] /\ tz prog 125 = some [.int .i64 0, .int .i64 0] /\ tflat prog 125 = true /\ tbool prog 125 = false := by and_intros <;> kernel_rfl
@[go_sem] theorem pf : prog.cellsOf 128 = 1 /\ tl prog 128 = some (false, 1) /\ te prog 128 = some (217, 3, 24) /\ tz prog 128 = some [.sl 3 []] /\ tflat prog 128 = false /\ tbool prog 128 = false := by and_intros <;> kernel_rfl
@[go_sem] theorem pj : prog.cellsOf 130 = 2 /\ tl prog 130 = some (true, 2) /\ te prog 130 = none /\ tp prog 130 = some [(0, 1), (1, 1)] /\ tf prog 130 0 = some (0, false, 1) /\ tf prog 130 1 = some (1, false, 1) /\ tz prog 130 = some [.bool false, .sl 3 []] /\ tflat prog 130 = false /\ tbool prog 130 = false := by and_intros <;> kernel_rfl
@[go_sem] theorem pk : prog.cellsOf 147 = 10 /\ tl prog 147 = some (true, 10) /\ te prog 147 = none /\ tp prog 147 = some [(0, 1), (1, 1), (2, 1), (3, 1), (4, 1), (5, 1), (6, 1), (7, 1), (8, 1), (9, 1)] /\ tf prog 147 0 = some (0, false, 1) /\ tf prog 147 1 = some (1, false, 1) /\ tf prog 147 2 = some (2, false, 1) /\ tf prog 147 3 = some (3, false, 1) /\ tf prog 147 4 = some (4, false, 1) /\ tf prog 147 5 = some (5, false, 1) /\ tf prog 147 6 = some (6, false, 1) /\ tf prog 147 7 = some (7, false, 1) /\ tf prog 147 8 = some (8, false, 1) /\ tf prog 147 9 = some (9, false, 1) /\ teq prog 147 = some [0, 0, 0, 0, 0, 0, 0, 0, 0, 1] /\ tz prog 147 = some [.int .i64 0, .int .i64 0, .int .i64 0, .int .i64 0, .int .i64 0, .int .i64 0, .int .i64 0, .int .i64 0, .int .i64 0, .bool false] /\ tflat prog 147 = true /\ tbool prog 147 = false := by and_intros <;> kernel_rfl
@[go_sem] theorem po : prog.cellsOf 148 = 1 /\ tl prog 148 = some (false, 1) /\ te prog 148 = some (243, 2, 16) /\ tz prog 148 = some [.sl 2 []] /\ tflat prog 148 = false /\ tbool prog 148 = false := by and_intros <;> kernel_rfl
@[go_sem] theorem pp : prog.cellsOf 149 = 1 /\ tl prog 149 = some (false, 1) /\ te prog 149 = some (245, 3, 24) /\ tz prog 149 = some [.sl 3 []] /\ tflat prog 149 = false /\ tbool prog 149 = false := by and_intros <;> kernel_rfl
@[go_sem] theorem pq : prog.cellsOf 150 = 1 /\ tl prog 150 = some (false, 1) /\ te prog 150 = some (247, 2, 16) /\ tz prog 150 = some [.sl 2 []] /\ tflat prog 150 = false /\ tbool prog 150 = false := by and_intros <;> kernel_rfl
@[go_sem] theorem pr : prog.cellsOf 152 = 32 /\ tl prog 152 = some (true, 32) /\ te prog 152 = none /\ tp prog 152 = some [(0, 1), (1, 2), (3, 1), (4, 1), (5, 1), (6, 1), (7, 1), (8, 1), (9, 1), (10, 1), (11, 3), (14, 1), (15, 1), (16, 10), (26, 1), (27, 1), (28, 1), (29, 1), (30, 1), (31, 1)] /\ tf prog 152 0 = some (0, false, 1) /\ tf prog 152 1 = some (1, true, 2) /\ tf prog 152 2 = some (3, false, 1) /\ tf prog 152 3 = some (4, false, 1) /\ tf prog 152 4 = some (5, false, 1) /\ tf prog 152 5 = some (6, false, 1) /\ tf prog 152 6 = some (7, false, 1) /\ tf prog 152 7 = some (8, false, 1) /\ tf prog 152 8 = some (9, false, 1) /\ tf prog 152 9 = some (10, false, 1) /\ tf prog 152 10 = some (11, true, 3) /\ tf prog 152 11 = some (14, false, 1) /\ tf prog 152 12 = some (15, false, 1) /\ tf prog 152 13 = some (16, true, 10) /\ tf prog 152 14 = some (26, false, 1) /\ tf prog 152 15 = some (27, false, 1) /\ tf prog 152 16 = some (28, false, 1) /\ tf prog 152 17 = some (29, false, 1) /\ tf prog 152 18 = some (30, false, 1) /\ tf prog 152 19 = some (31, false, 1) /\ tz prog 152 = some [.bool false, .bool false, .sl 3 [], .int .i64 0, .int .i64 0, .int .i64 0, .int .i64 0, .int .i64 0, .int .i64 0, .int .i64 0, .int .i64 0, .int .i64 0, .int .i64 0, .int .i64 0, .bool false, .int .i64 0, .int .i64 0, .int .i64 0, .int .i64 0, .int .i64 0, .int .i64 0, .int .i64 0, .int .i64 0, .int .i64 0, .int .i64 0, .bool false, .sl 2 [], .sl 3 [], .sl 2 [], .sl 1 [], .sl 1 [], .sl 1 []] /\ tflat prog 152 = false /\ tbool prog 152 = false := by and_intros <;> kernel_rfl
@[go_sem] theorem pu : prog.cellsOf 155 = 6 /\ tl prog 155 = some (true, 6) /\ te prog 155 = none /\ tp prog 155 = some [(0, 1), (1, 1), (2, 1), (3, 1), (4, 1), (5, 1)] /\ tf prog 155 0 = some (0, false, 1) /\ tf prog 155 1 = some (1, false, 1) /\ tf prog 155 2 = some (2, false, 1) /\ tf prog 155 3 = some (3, false, 1) /\ tf prog 155 4 = some (4, false, 1) /\ tf prog 155 5 = some (5, false, 1) /\ tz prog 155 = some [.int .i64 0, .int .i64 0, .int .i64 0, .int .i64 0, .sl 3 [], .sl 2 []] /\ tflat prog 155 = false /\ tbool prog 155 = false := by and_intros <;> kernel_rfl
@[go_sem] theorem pw : prog.cellsOf 169 = 1 /\ tl prog 169 = some (false, 1) /\ te prog 169 = some (326, 3, 24) /\ tz prog 169 = some [.sl 3 []] /\ tflat prog 169 = false /\ tbool prog 169 = false := by and_intros <;> kernel_rfl
@[go_sem] theorem oz : prog.cellsOf 171 = 2 := by kernel_rfl
@[go_sem] theorem px : tl prog 171 = some (true, 2) /\ te prog 171 = none /\ tp prog 171 = some [(0, 1), (1, 1)] /\ tf prog 171 0 = some (0, false, 1) /\ tf prog 171 1 = some (1, false, 1) /\ tz prog 171 = some [.bool false, .sl 3 []] /\ tflat prog 171 = false /\ tbool prog 171 = false := by and_intros <;> kernel_rfl
@[go_sem] theorem py : prog.cellsOf 172 = 3 /\ tl prog 172 = some (true, 3) /\ te prog 172 = none /\ tp prog 172 = some [(0, 1), (1, 1), (2, 1)] /\ tf prog 172 0 = some (0, false, 1) /\ tf prog 172 1 = some (1, false, 1) /\ tf prog 172 2 = some (2, false, 1) /\ teq prog 172 = some [0, 0, 0] /\ tz prog 172 = some [.int .i64 0, .int .i64 0, .int .i64 0] /\ tflat prog 172 = true /\ tbool prog 172 = false := by and_intros <;> kernel_rfl
@[go_sem] theorem pz : prog.cellsOf 173 = 10 /\ tl prog 173 = some (true, 10) /\ te prog 173 = none /\ tp prog 173 = some [(0, 1), (1, 1), (2, 1), (3, 1), (4, 1), (5, 1), (6, 1), (7, 1), (8, 1), (9, 1)] /\ tf prog 173 0 = some (0, false, 1) /\ tf prog 173 1 = some (1, false, 1) /\ tf prog 173 2 = some (2, false, 1) /\ tf prog 173 3 = some (3, false, 1) /\ tf prog 173 4 = some (4, false, 1) /\ tf prog 173 5 = some (5, false, 1) /\ tf prog 173 6 = some (6, false, 1) /\ tf prog 173 7 = some (7, false, 1) /\ tf prog 173 8 = some (8, false, 1) /\ tf prog 173 9 = some (9, false, 1) /\ teq prog 173 = some [0, 0, 0, 0, 0, 0, 0, 0, 0, 1] /\ tz prog 173 = some [.int .i64 0, .int .i64 0, .int .i64 0, .int .i64 0, .int .i64 0, .int .i64 0, .int .i64 0, .int .i64 0, .int .i64 0, .bool false] /\ tflat prog 173 = true /\ tbool prog 173 = false := by and_intros <;> kernel_rfl
@[go_sem] theorem pA : prog.cellsOf 174 = 1 /\ tl prog 174 = some (false, 1) /\ te prog 174 = some (320, 2, 16) /\ tz prog 174 = some [.sl 2 []] /\ tflat prog 174 = false /\ tbool prog 174 = false := by and_intros <;> kernel_rfl
@[go_sem] theorem pB : prog.cellsOf 175 = 1 /\ tl prog 175 = some (false, 1) /\ te prog 175 = some (322, 3, 24) /\ tz prog 175 = some [.sl 3 []] /\ tflat prog 175 = false /\ tbool prog 175 = false := by and_intros <;> kernel_rfl
@[go_sem] theorem pC : prog.cellsOf 176 = 1 /\ tl prog 176 = some (false, 1) /\ te prog 176 = some (324, 2, 16) /\ tz prog 176 = some [.sl 2 []] /\ tflat prog 176 = false /\ tbool prog 176 = false := by and_intros <;> kernel_rfl
@[go_sem] theorem oA : prog.cellsOf 178 = 32 := by kernel_rfl
@[go_sem] theorem pD : tl prog 178 = some (true, 32) /\ te prog 178 = none /\ tp prog 178 = some [(0, 1), (1, 2), (3, 1), (4, 1), (5, 1), (6, 1), (7, 1), (8, 1), (9, 1), (10, 1), (11, 3), (14, 1), (15, 1), (16, 10), (26, 1), (27, 1), (28, 1), (29, 1), (30, 1), (31, 1)] /\ tf prog 178 0 = some (0, false, 1) /\ tf prog 178 1 = some (1, true, 2) /\ tf prog 178 2 = some (3, false, 1) /\ tf prog 178 3 = some (4, false, 1) /\ tf prog 178 4 = some (5, false, 1) /\ tf prog 178 5 = some (6, false, 1) /\ tf prog 178 6 = some (7, false, 1) /\ tf prog 178 7 = some (8, false, 1) /\ tf prog 178 8 = some (9, false, 1) /\ tf prog 178 9 = some (10, false, 1) /\ tf prog 178 10 = some (11, true, 3) /\ tf prog 178 11 = some (14, false, 1) /\ tf prog 178 12 = some (15, false, 1) /\ tf prog 178 13 = some (16, true, 10) /\ tf prog 178 14 = some (26, false, 1) /\ tf prog 178 15 = some (27, false, 1) /\ tf prog 178 16 = some (28, false, 1) /\ tf prog 178 17 = some (29, false, 1) /\ tf prog 178 18 = some (30, false, 1) /\ tf prog 178 19 = some (31, false, 1) /\ tz prog 178 = some [.bool false, .bool false, .sl 3 [], .int .i64 0, .int .i64 0, .int .i64 0, .int .i64 0, .int .i64 0, .int .i64 0, .int .i64 0, .int .i64 0, .int .i64 0, .int .i64 0, .int .i64 0, .bool false, .int .i64 0, .int .i64 0, .int .i64 0, .int .i64 0, .int .i64 0, .int .i64 0, .int .i64 0, .int .i64 0, .int .i64 0, .int .i64 0, .bool false, .sl 2 [], .sl 3 [], .sl 2 [], .sl 1 [], .sl 1 [], .sl 1 []] /\ tflat prog 178 = false /\ tbool prog 178 = false := by and_intros <;> kernel_rfl
@[go_sem] theorem oB : prog.cellsOf 181 = 6 := by kernel_rfl
@[go_sem] theorem pE : tl prog 181 = some (true, 6) /\ te prog 181 = none /\ tp prog 181 = some [(0, 1), (1, 1), (2, 1), (3, 1), (4, 1), (5, 1)] /\ tf prog 181 0 = some (0, false, 1) /\ tf prog 181 1 = some (1, false, 1) /\ tf prog 181 2 = some (2, false, 1) /\ tf prog 181 3 = some (3, false, 1) /\ tf prog 181 4 = some (4, false, 1) /\ tf prog 181 5 = some (5, false, 1) /\ tz prog 181 = some [.int .i64 0, .int .i64 0, .int .i64 0, .int .i64 0, .sl 3 [], .sl 2 []] /\ tflat prog 181 = false /\ tbool prog 181 = false := by and_intros <;> kernel_rfl
@[go_sem] theorem oC : prog.cellsOf 194 = 3 := by kernel_rfl
@[go_sem] theorem pF : tl prog 194 = some (true, 3) /\ te prog 194 = none /\ tp prog 194 = some [(0, 1), (1, 1), (2, 1)] /\ tf prog 194 0 = some (0, false, 1) /\ tf prog 194 1 = some (1, false, 1) /\ tf prog 194 2 = some (2, false, 1) /\ teq prog 194 = some [0, 0, 0] /\ tz prog 194 = some [.int .i64 0, .int .i64 0, .int .i64 0] /\ tflat prog 194 = true /\ tbool prog 194 = false := by and_intros <;> kernel_rfl
@[go_sem] theorem pG : prog.cellsOf 217 = 3 /\ tl prog 217 = some (true, 3) /\ te prog 217 = none /\ tp prog 217 = some [(0, 1), (1, 1), (2, 1)] /\ tf prog 217 0 = some (0, false, 1) /\ tf prog 217 1 = some (1, false, 1) /\ tf prog 217 2 = some (2, false, 1) /\ teq prog 217 = some [0, 0, 0] /\ tz prog 217 = some [.int .i64 0, .int .i64 0, .int .i64 0] /\ tflat prog 217 = true /\ tbool prog 217 = false := by and_intros <;> kernel_rfl
@[go_sem] theorem pH : prog.cellsOf 229 = 1 /\ tl prog 229 = some (false, 1) /\ te prog 229 = some (268, 2, 16) /\ tz prog 229 = some [.sl 2 []] /\ tflat prog 229 = false /\ tbool prog 229 = false := by and_intros <;> kernel_rfl
@[go_sem] theorem pI : prog.cellsOf 231 = 1 /\ tl prog 231 = some (true, 1) /\ te prog 231 = none /\ tp prog 231 = some [(0, 1)] /\ tf prog 231 0 = some (0, false, 1) /\ tz prog 231 = some [.sl 2 []] /\ tflat prog 231 = false /\ tbool prog 231 = false := by and_intros <;> kernel_rfl
@[go_sem] theorem pJ : prog.cellsOf 243 = 2 /\ tl prog 243 = some (true, 2) /\ te prog 243 = none /\ tp prog 243 = some [(0, 1), (1, 1)] /\ tf prog 243 0 = some (0, false, 1) /\ tf prog 243 1 = some (1, false, 1) /\ teq prog 243 = some [0, 0] /\ tz prog 243 = some [.int .i64 0, .int .i64 0] /\ tflat prog 243 = true /\ tbool prog 243 = false := by and_intros <;> kernel_rfl
@[go_sem] theorem pK : prog.cellsOf 245 = 3 /\ tl prog 245 = some (true, 3) /\ te prog 245 = none /\ tp prog 245 = some [(0, 1), (1, 1), (2, 1)] /\ tf prog 245 0 = some (0, false, 1) /\ tf prog 245 1 = some (1, false, 1) /\ tf prog 245 2 = some (2, false, 1) /\ teq prog 245 = some [0, 1, 0] /\ tz prog 245 = some [.int .i64 0, .bool false, .int .i64 0] /\ tflat prog 245 = true /\ tbool prog 245 = false := by and_intros <;> kernel_rfl
@[go_sem] theorem pL : prog.cellsOf 247 = 2 /\ tl prog 247 = some (true, 2) /\ te prog 247 = none /\ tp prog 247 = some [(0, 1), (1, 1)] /\ tf prog 247 0 = some (0, false, 1) /\ tf prog 247 1 = some (1, false, 1) /\ teq prog 247 = some [1, 0] /\ tz prog 247 = some [.bool false, .int .i64 0] /\ tflat prog 247 = true /\ tbool prog 247 = false := by and_intros <;> kernel_rfl
@[go_sem] theorem pM : prog.cellsOf 252 = 1 /\ tl prog 252 = some (false, 1) /\ te prog 252 = some (352, 2, 16) /\ tz prog 252 = some [.sl 2 []] /\ tflat prog 252 = false /\ tbool prog 252 = false := by and_intros <;> kernel_rfl
@[go_sem] theorem oD : prog.cellsOf 254 = 1 := by kernel_rfl
@[go_sem] theorem pN : tl prog 254 = some (true, 1) /\ te prog 254 = none /\ tp prog 254 = some [(0, 1)] /\ tf prog 254 0 = some (0, false, 1) /\ tz prog 254 = some [.sl 2 []] /\ tflat prog 254 = false /\ tbool prog 254 = false := by and_intros <;> kernel_rfl
@[go_sem] theorem pO : prog.cellsOf 268 = 2 /\ tl prog 268 = some (true, 2) /\ te prog 268 = none /\ tp prog 268 = some [(0, 1), (1, 1)] /\ tf prog 268 0 = some (0, false, 1) /\ tf prog 268 1 = some (1, false, 1) /\ teq prog 268 = some [0, 0] /\ tz prog 268 = some [.int .i64 0, .int .i64 0] /\ tflat prog 268 = true /\ tbool prog 268 = false := by and_intros <;> kernel_rfl
@[go_sem] theorem pP : prog.cellsOf 299 = 4 /\ tl prog 299 = some (true, 4) /\ te prog 299 = none /\ tp prog 299 = some [(0, 1), (1, 1), (2, 1), (3, 1)] /\ tf prog 299 0 = some (0, false, 1) /\ tf prog 299 1 = some (1, false, 1) /\ tf prog 299 2 = some (2, false, 1) /\ tf prog 299 3 = some (3, false, 1) /\ teq prog 299 = some [1, 0, 1, 0] /\ tz prog 299 = some [.bool false, .int .i64 0, .bool false, .int .i64 0] /\ tflat prog 299 = true /\ tbool prog 299 = false := by and_intros <;> kernel_rfl
@[go_sem] theorem pQ : prog.cellsOf 314 = 1 /\ tl prog 314 = some (true, 1) /\ te prog 314 = none /\ tp prog 314 = some [(0, 1)] /\ tf prog 314 0 = some (0, false, 1) /\ tz prog 314 = some [.sl 1 []] /\ tflat prog 314 = false /\ tbool prog 314 = false := by and_intros <;> kernel_rfl
@[go_sem] theorem oE : prog.cellsOf 317 = 4 := by kernel_rfl
@[go_sem] theorem pR : tl prog 317 = some (true, 4) /\ te prog 317 = none /\ tp prog 317 = some [(0, 1), (1, 1), (2, 1), (3, 1)] /\ tf prog 317 0 = some (0, false, 1) /\ tf prog 317 1 = some (1, false, 1) /\ tf prog 317 2 = some (2, false, 1) /\ tf prog 317 3 = some (3, false, 1) /\ teq prog 317 = some [1, 0, 1, 0] /\ tz prog 317 = some [.bool false, .int .i64 0, .bool false, .int .i64 0] /\ tflat prog 317 = true /\ tbool prog 317 = false := by and_intros <;> kernel_rfl
@[go_sem] theorem oF : prog.cellsOf 320 = 2 := by kernel_rfl
@[go_sem] theorem pS : tl prog 320 = some (true, 2) /\ te prog 320 = none /\ tp prog 320 = some [(0, 1), (1, 1)] /\ tf prog 320 0 = some (0, false, 1) /\ tf prog 320 1 = some (1, false, 1) /\ teq prog 320 = some [0, 0] /\ tz prog 320 = some [.int .i64 0, .int .i64 0] /\ tflat prog 320 = true /\ tbool prog 320 = false := by and_intros <;> kernel_rfl
@[go_sem] theorem oG : prog.cellsOf 322 = 3 := by kernel_rfl
@[go_sem] theorem pT : tl prog 322 = some (true, 3) /\ te prog 322 = none /\ tp prog 322 = some [(0, 1), (1, 1), (2, 1)] /\ tf prog 322 0 = some (0, false, 1) /\ tf prog 322 1 = some (1, false, 1) /\ tf prog 322 2 = some (2, false, 1) /\ teq prog 322 = some [0, 1, 0] /\ tz prog 322 = some [.int .i64 0, .bool false, .int .i64 0] /\ tflat prog 322 = true /\ tbool prog 322 = false := by and_intros <;> kernel_rfl
@[go_sem] theorem lI : prog.cellsOf 324 = 2 := by kernel_rfl
@[go_sem] theorem pU : tl prog 324 = some (true, 2) /\ te prog 324 = none /\ tp prog 324 = some [(0, 1), (1, 1)] /\ tf prog 324 0 = some (0, false, 1) /\ tf prog 324 1 = some (1, false, 1) /\ teq prog 324 = some [1, 0] /\ tz prog 324 = some [.bool false, .int .i64 0] /\ tflat prog 324 = true /\ tbool prog 324 = false := by and_intros <;> kernel_rfl
@[go_sem] theorem lJ : prog.cellsOf 326 = 3 := by kernel_rfl
@[go_sem] theorem pV : tl prog 326 = some (true, 3) /\ te prog 326 = none /\ tp prog 326 = some [(0, 1), (1, 1), (2, 1)] /\ tf prog 326 0 = some (0, false, 1) /\ tf prog 326 1 = some (1, false, 1) /\ tf prog 326 2 = some (2, false, 1) /\ teq prog 326 = some [0, 0, 0] /\ tz prog 326 = some [.int .i64 0, .int .i64 0, .int .i64 0] /\ tflat prog 326 = true /\ tbool prog 326 = false := by and_intros <;> kernel_rfl
@[go_sem] theorem pW : prog.cellsOf 332 = 24 /\ tl prog 332 = some (true, 24) /\ te prog 332 = none /\ ta prog 332 = some (24, 4, 1) /\ tp prog 332 = some [(0, 1), (1, 1), (2, 1), (3, 1), (4, 1), (5, 1), (6, 1), (7, 1), (8, 1), (9, 1), (10, 1), (11, 1), (12, 1), (13, 1), (14, 1), (15, 1), (16, 1), (17, 1), (18, 1), (19, 1), (20, 1), (21, 1), (22, 1), (23, 1)] /\ tz prog 332 = some [.bool false, .bool false, .bool false, .bool false, .bool false, .bool false, .bool false, .bool false, .bool false, .bool false, .bool false, .bool false, .bool false, .bool false, .bool false, .bool false, .bool false, .bool false, .bool false, .bool false, .bool false, .bool false, .bool false, .bool false] /\ tflat prog 332 = true /\ tbool prog 332 = false := by and_intros <;> kernel_rfl
@[go_sem] theorem lK : prog.cellsOf 345 = 1 := by kernel_rfl
@[go_sem] theorem pX : tl prog 345 = some (true, 1) /\ te prog 345 = none /\ tp prog 345 = some [(0, 1)] /\ tf prog 345 0 = some (0, false, 1) /\ tz prog 345 = some [.sl 1 []] /\ tflat prog 345 = false /\ tbool prog 345 = false := by and_intros <;> kernel_rfl
@[go_sem] theorem oH : prog.cellsOf 352 = 2 := by kernel_rfl
@[go_sem] theorem pY : tl prog 352 = some (true, 2) /\ te prog 352 = none /\ tp prog 352 = some [(0, 1), (1, 1)] /\ tf prog 352 0 = some (0, false, 1) /\ tf prog 352 1 = some (1, false, 1) /\ teq prog 352 = some [0, 0] /\ tz prog 352 = some [.int .i64 0, .int .i64 0] /\ tflat prog 352 = true /\ tbool prog 352 = false := by and_intros <;> kernel_rfl
@[go_sem] theorem pZ : prog.cellsOf 362 = 1 /\ tl prog 362 = some (false, 1) /\ te prog 362 = some (27, 1, 24) /\ tz prog 362 = some [.sl 1 []] /\ tflat prog 362 = false /\ tbool prog 362 = false := by and_intros <;> kernel_rfl
@[go_sem] theorem p3 : prog.cellsOf 366 = 3 /\ tl prog 366 = some (true, 3) /\ te prog 366 = none /\ ta prog 366 = some (3, 3, 1) /\ tp prog 366 = some [(0, 1), (1, 1), (2, 1)] /\ tz prog 366 = some [.int .i64 0, .int .i64 0, .int .i64 0] /\ tflat prog 366 = true /\ tbool prog 366 = false := by and_intros <;> kernel_rfl
theorem e2 : enters prog 2 = true := by kernel_rfl
theorem e3 : enters prog 3 = true := by kernel_rfl
theorem e4 : enters prog 4 = true := by kernel_rfl
theorem e6 : enters prog 6 = true := by kernel_rfl
theorem e8 : enters prog 8 = true := by kernel_rfl
theorem e10 : enters prog 10 = true := by kernel_rfl
theorem e11 : enters prog 11 = true := by kernel_rfl
theorem e15 : enters prog 15 = true := by kernel_rfl
theorem e16 : enters prog 16 = true := by kernel_rfl
theorem e17 : enters prog 17 = true := by kernel_rfl
theorem e18 : enters prog 18 = true := by kernel_rfl
theorem e19 : enters prog 19 = true := by kernel_rfl
theorem e20 : enters prog 20 = true := by kernel_rfl
theorem e24 : enters prog 24 = true := by kernel_rfl
theorem e25 : enters prog 25 = true := by kernel_rfl
theorem e28 : enters prog 28 = true := by kernel_rfl
theorem e29 : enters prog 29 = true := by kernel_rfl
theorem e32 : enters prog 32 = true := by kernel_rfl
theorem e33 : enters prog 33 = true := by kernel_rfl
theorem e34 : enters prog 34 = true := by kernel_rfl
theorem e35 : enters prog 35 = true := by kernel_rfl
theorem e36 : enters prog 36 = true := by kernel_rfl
theorem e47 : enters prog 47 = true := by kernel_rfl
theorem e48 : enters prog 48 = true := by kernel_rfl
theorem e49 : enters prog 49 = true := by kernel_rfl
theorem e50 : enters prog 50 = true := by kernel_rfl
theorem e51 : enters prog 51 = true := by kernel_rfl
theorem e52 : enters prog 52 = true := by kernel_rfl
theorem e53 : enters prog 53 = true := by kernel_rfl
theorem e54 : enters prog 54 = true := by kernel_rfl
theorem e55 : enters prog 55 = true := by kernel_rfl
theorem e56 : enters prog 56 = true := by kernel_rfl
theorem e57 : enters prog 57 = true := by kernel_rfl
theorem e58 : enters prog 58 = true := by kernel_rfl
theorem e59 : enters prog 59 = true := by kernel_rfl
theorem e60 : enters prog 60 = true := by kernel_rfl
theorem e61 : enters prog 61 = true := by kernel_rfl
theorem e62 : enters prog 62 = true := by kernel_rfl
theorem e63 : enters prog 63 = true := by kernel_rfl
theorem e64 : enters prog 64 = true := by kernel_rfl
theorem e65 : enters prog 65 = true := by kernel_rfl
theorem e66 : enters prog 66 = true := by kernel_rfl
theorem e67 : enters prog 67 = true := by kernel_rfl
theorem e68 : enters prog 68 = true := by kernel_rfl
theorem e69 : enters prog 69 = true := by kernel_rfl
theorem e70 : enters prog 70 = true := by kernel_rfl
theorem e71 : enters prog 71 = true := by kernel_rfl
theorem e73 : enters prog 73 = true := by kernel_rfl
theorem e74 : enters prog 74 = true := by kernel_rfl
theorem e80 : enters prog 80 = true := by kernel_rfl
theorem e81 : enters prog 81 = true := by kernel_rfl
theorem e82 : enters prog 82 = true := by kernel_rfl
theorem e83 : enters prog 83 = true := by kernel_rfl
theorem e84 : enters prog 84 = true := by kernel_rfl
theorem e85 : enters prog 85 = true := by kernel_rfl
theorem e91 : enters prog 91 = true := by kernel_rfl
theorem e92 : enters prog 92 = true := by kernel_rfl
theorem e93 : enters prog 93 = true := by kernel_rfl
theorem e94 : enters prog 94 = true := by kernel_rfl
theorem e95 : enters prog 95 = true := by kernel_rfl
theorem e96 : enters prog 96 = true := by kernel_rfl
theorem e97 : enters prog 97 = true := by kernel_rfl
theorem e98 : enters prog 98 = true := by kernel_rfl
theorem e116 : enters prog 116 = true := by kernel_rfl
theorem e117 : enters prog 117 = true := by kernel_rfl
theorem e118 : enters prog 118 = true := by kernel_rfl
theorem e119 : enters prog 119 = true := by kernel_rfl
theorem e120 : enters prog 120 = true := by kernel_rfl
theorem e121 : enters prog 121 = true := by kernel_rfl
theorem e122 : enters prog 122 = true := by kernel_rfl
theorem e123 : enters prog 123 = true := by kernel_rfl
theorem e124 : enters prog 124 = true := by kernel_rfl
theorem e125 : enters prog 125 = true := by kernel_rfl
theorem e126 : enters prog 126 = true := by kernel_rfl
theorem e127 : enters prog 127 = true := by kernel_rfl
theorem e128 : enters prog 128 = true := by kernel_rfl
theorem e129 : enters prog 129 = true := by kernel_rfl
theorem e130 : enters prog 130 = true := by kernel_rfl
theorem e131 : enters prog 131 = true := by kernel_rfl
theorem e132 : enters prog 132 = true := by kernel_rfl
theorem e133 : enters prog 133 = true := by kernel_rfl
theorem e134 : enters prog 134 = true := by kernel_rfl
theorem e135 : enters prog 135 = true := by kernel_rfl
theorem e136 : enters prog 136 = true := by kernel_rfl
theorem e137 : enters prog 137 = true := by kernel_rfl
theorem e138 : enters prog 138 = true := by kernel_rfl
theorem e139 : enters prog 139 = true := by kernel_rfl
theorem e140 : enters prog 140 = true := by kernel_rfl
theorem e141 : enters prog 141 = true := by kernel_rfl
theorem e142 : enters prog 142 = true := by kernel_rfl
theorem e143 : enters prog 143 = true := by kernel_rfl
theorem e144 : enters prog 144 = true := by kernel_rfl
theorem e145 : enters prog 145 = true := by kernel_rfl
theorem e146 : enters prog 146 = true := by kernel_rfl
theorem e147 : enters prog 147 = true := by kernel_rfl
theorem e148 : enters prog 148 = true := by kernel_rfl
theorem e149 : enters prog 149 = true := by kernel_rfl
theorem e150 : enters prog 150 = true := by kernel_rfl
theorem e151 : enters prog 151 = true := by kernel_rfl
theorem e152 : enters prog 152 = true := by kernel_rfl
theorem e153 : enters prog 153 = true := by kernel_rfl
theorem e154 : enters prog 154 = true := by kernel_rfl
theorem e155 : enters prog 155 = true := by kernel_rfl
theorem e156 : enters prog 156 = true := by kernel_rfl
theorem e157 : enters prog 157 = true := by kernel_rfl
theorem e158 : enters prog 158 = true := by kernel_rfl
theorem e160 : enters prog 160 = true := by kernel_rfl
theorem e161 : enters prog 161 = true := by kernel_rfl
theorem e162 : enters prog 162 = true := by kernel_rfl
theorem e163 : enters prog 163 = true := by kernel_rfl
theorem e164 : enters prog 164 = true := by kernel_rfl
theorem e165 : enters prog 165 = true := by kernel_rfl
theorem e166 : enters prog 166 = true := by kernel_rfl
theorem e167 : enters prog 167 = true := by kernel_rfl
theorem e171 : enters prog 171 = true := by kernel_rfl
theorem e172 : enters prog 172 = true := by kernel_rfl
theorem e173 : enters prog 173 = true := by kernel_rfl
theorem e174 : enters prog 174 = true := by kernel_rfl
theorem e175 : enters prog 175 = true := by kernel_rfl
theorem e176 : enters prog 176 = true := by kernel_rfl
theorem e180 : enters prog 180 = true := by kernel_rfl
theorem e181 : enters prog 181 = true := by kernel_rfl
theorem e182 : enters prog 182 = true := by kernel_rfl
theorem e183 : enters prog 183 = true := by kernel_rfl
theorem e184 : enters prog 184 = true := by kernel_rfl
theorem e185 : enters prog 185 = true := by kernel_rfl
theorem e186 : enters prog 186 = true := by kernel_rfl
theorem e187 : enters prog 187 = true := by kernel_rfl
theorem e188 : enters prog 188 = true := by kernel_rfl
theorem e189 : enters prog 189 = true := by kernel_rfl
theorem e190 : enters prog 190 = true := by kernel_rfl
theorem e199 : enters prog 199 = true := by kernel_rfl
theorem e200 : enters prog 200 = true := by kernel_rfl
theorem e201 : enters prog 201 = true := by kernel_rfl
theorem e202 : enters prog 202 = true := by kernel_rfl
theorem e203 : enters prog 203 = true := by kernel_rfl
theorem e204 : enters prog 204 = true := by kernel_rfl
theorem e205 : enters prog 205 = true := by kernel_rfl
theorem e206 : enters prog 206 = true := by kernel_rfl
theorem e207 : enters prog 207 = true := by kernel_rfl
theorem e208 : enters prog 208 = true := by kernel_rfl
theorem e209 : enters prog 209 = true := by kernel_rfl
theorem e210 : enters prog 210 = true := by kernel_rfl
theorem e211 : enters prog 211 = true := by kernel_rfl
theorem e212 : enters prog 212 = true := by kernel_rfl
theorem e213 : enters prog 213 = true := by kernel_rfl
theorem e214 : enters prog 214 = true := by kernel_rfl
theorem e215 : enters prog 215 = true := by kernel_rfl
theorem e216 : enters prog 216 = true := by kernel_rfl
theorem e217 : enters prog 217 = true := by kernel_rfl
theorem e218 : enters prog 218 = true := by kernel_rfl
theorem e219 : enters prog 219 = true := by kernel_rfl
theorem e220 : enters prog 220 = true := by kernel_rfl
theorem e221 : enters prog 221 = true := by kernel_rfl
theorem e222 : enters prog 222 = true := by kernel_rfl
theorem e223 : enters prog 223 = true := by kernel_rfl
theorem e224 : enters prog 224 = true := by kernel_rfl
theorem e225 : enters prog 225 = true := by kernel_rfl
theorem e226 : enters prog 226 = true := by kernel_rfl
theorem e227 : enters prog 227 = true := by kernel_rfl
theorem e228 : enters prog 228 = true := by kernel_rfl
theorem e229 : enters prog 229 = true := by kernel_rfl
theorem e230 : enters prog 230 = true := by kernel_rfl
theorem e231 : enters prog 231 = true := by kernel_rfl
theorem e232 : enters prog 232 = true := by kernel_rfl
theorem e233 : enters prog 233 = true := by kernel_rfl
theorem e234 : enters prog 234 = true := by kernel_rfl
theorem e235 : enters prog 235 = true := by kernel_rfl
theorem e236 : enters prog 236 = true := by kernel_rfl
theorem e237 : enters prog 237 = true := by kernel_rfl
theorem e238 : enters prog 238 = true := by kernel_rfl
theorem e239 : enters prog 239 = true := by kernel_rfl
theorem e240 : enters prog 240 = true := by kernel_rfl
theorem e241 : enters prog 241 = true := by kernel_rfl
theorem e242 : enters prog 242 = true := by kernel_rfl
theorem e243 : enters prog 243 = true := by kernel_rfl
theorem e244 : enters prog 244 = true := by kernel_rfl
theorem e245 : enters prog 245 = true := by kernel_rfl
theorem e246 : enters prog 246 = true := by kernel_rfl
theorem e247 : enters prog 247 = true := by kernel_rfl
theorem e248 : enters prog 248 = true := by kernel_rfl
theorem e249 : enters prog 249 = true := by kernel_rfl
theorem e250 : enters prog 250 = true := by kernel_rfl
theorem e251 : enters prog 251 = true := by kernel_rfl
theorem e252 : enters prog 252 = true := by kernel_rfl
theorem e253 : enters prog 253 = true := by kernel_rfl
theorem e254 : enters prog 254 = true := by kernel_rfl
theorem e255 : enters prog 255 = true := by kernel_rfl
theorem e256 : enters prog 256 = true := by kernel_rfl
theorem e257 : enters prog 257 = true := by kernel_rfl
theorem e258 : enters prog 258 = true := by kernel_rfl
theorem e259 : enters prog 259 = true := by kernel_rfl
theorem e260 : enters prog 260 = true := by kernel_rfl
theorem e261 : enters prog 261 = true := by kernel_rfl
theorem e262 : enters prog 262 = true := by kernel_rfl
theorem e263 : enters prog 263 = true := by kernel_rfl
theorem e264 : enters prog 264 = true := by kernel_rfl
theorem e265 : enters prog 265 = true := by kernel_rfl
theorem e266 : enters prog 266 = true := by kernel_rfl
theorem e267 : enters prog 267 = true := by kernel_rfl
theorem e268 : enters prog 268 = true := by kernel_rfl
theorem e271 : enters prog 271 = true := by kernel_rfl
theorem e273 : enters prog 273 = true := by kernel_rfl
theorem e274 : enters prog 274 = true := by kernel_rfl
theorem e275 : enters prog 275 = true := by kernel_rfl
theorem e276 : enters prog 276 = true := by kernel_rfl
theorem e277 : enters prog 277 = true := by kernel_rfl
theorem e278 : enters prog 278 = true := by kernel_rfl
theorem e279 : enters prog 279 = true := by kernel_rfl
theorem e282 : enters prog 282 = true := by kernel_rfl
theorem e283 : enters prog 283 = true := by kernel_rfl
theorem e284 : enters prog 284 = true := by kernel_rfl
theorem e285 : enters prog 285 = true := by kernel_rfl
theorem e286 : enters prog 286 = true := by kernel_rfl
theorem e287 : enters prog 287 = true := by kernel_rfl
theorem e288 : enters prog 288 = true := by kernel_rfl
theorem e289 : enters prog 289 = true := by kernel_rfl
theorem e290 : enters prog 290 = true := by kernel_rfl
theorem e291 : enters prog 291 = true := by kernel_rfl
theorem e292 : enters prog 292 = true := by kernel_rfl
theorem e293 : enters prog 293 = true := by kernel_rfl
theorem e294 : enters prog 294 = true := by kernel_rfl
theorem e295 : enters prog 295 = true := by kernel_rfl
theorem e296 : enters prog 296 = true := by kernel_rfl
theorem e297 : enters prog 297 = true := by kernel_rfl
theorem e298 : enters prog 298 = true := by kernel_rfl
theorem e299 : enters prog 299 = true := by kernel_rfl
theorem e300 : enters prog 300 = true := by kernel_rfl
theorem e301 : enters prog 301 = true := by kernel_rfl
theorem e302 : enters prog 302 = true := by kernel_rfl
theorem e303 : enters prog 303 = true := by kernel_rfl
theorem e304 : enters prog 304 = true := by kernel_rfl
theorem e305 : enters prog 305 = true := by kernel_rfl
theorem e306 : enters prog 306 = true := by kernel_rfl
theorem e307 : enters prog 307 = true := by kernel_rfl
theorem e308 : enters prog 308 = true := by kernel_rfl
theorem e309 : enters prog 309 = true := by kernel_rfl
theorem e310 : enters prog 310 = true := by kernel_rfl
theorem e311 : enters prog 311 = true := by kernel_rfl
theorem e312 : enters prog 312 = true := by kernel_rfl
theorem e313 : enters prog 313 = true := by kernel_rfl
theorem e314 : enters prog 314 = true := by kernel_rfl
theorem e315 : enters prog 315 = true := by kernel_rfl
theorem e316 : enters prog 316 = true := by kernel_rfl
theorem e317 : enters prog 317 = true := by kernel_rfl
theorem e318 : enters prog 318 = true := by kernel_rfl
theorem e319 : enters prog 319 = true := by kernel_rfl
theorem e320 : enters prog 320 = true := by kernel_rfl
theorem e321 : enters prog 321 = true := by kernel_rfl
theorem e322 : enters prog 322 = true := by kernel_rfl
theorem e323 : enters prog 323 = true := by kernel_rfl
theorem e324 : enters prog 324 = true := by kernel_rfl
theorem e325 : enters prog 325 = true := by kernel_rfl
theorem e326 : enters prog 326 = true := by kernel_rfl
theorem e329 : enters prog 329 = true := by kernel_rfl
theorem e330 : enters prog 330 = true := by kernel_rfl
theorem e331 : enters prog 331 = true := by kernel_rfl
theorem e332 : enters prog 332 = true := by kernel_rfl
theorem e333 : enters prog 333 = true := by kernel_rfl
theorem e334 : enters prog 334 = true := by kernel_rfl
theorem e335 : enters prog 335 = true := by kernel_rfl
theorem e336 : enters prog 336 = true := by kernel_rfl
theorem e337 : enters prog 337 = true := by kernel_rfl
theorem e338 : enters prog 338 = true := by kernel_rfl
theorem e339 : enters prog 339 = true := by kernel_rfl
theorem e340 : enters prog 340 = true := by kernel_rfl
theorem e341 : enters prog 341 = true := by kernel_rfl
theorem e342 : enters prog 342 = true := by kernel_rfl
theorem e343 : enters prog 343 = true := by kernel_rfl
theorem e344 : enters prog 344 = true := by kernel_rfl
theorem e345 : enters prog 345 = true := by kernel_rfl
theorem e346 : enters prog 346 = true := by kernel_rfl
theorem e347 : enters prog 347 = true := by kernel_rfl
theorem e348 : enters prog 348 = true := by kernel_rfl
theorem e349 : enters prog 349 = true := by kernel_rfl
theorem e350 : enters prog 350 = true := by kernel_rfl
theorem e351 : enters prog 351 = true := by kernel_rfl
theorem e352 : enters prog 352 = true := by kernel_rfl
theorem e353 : enters prog 353 = true := by kernel_rfl
theorem e354 : enters prog 354 = true := by kernel_rfl
theorem e355 : enters prog 355 = true := by kernel_rfl
theorem e359 : enters prog 359 = true := by kernel_rfl
theorem e360 : enters prog 360 = true := by kernel_rfl
theorem e361 : enters prog 361 = true := by kernel_rfl
theorem e362 : enters prog 362 = true := by kernel_rfl
theorem e363 : enters prog 363 = true := by kernel_rfl
theorem e364 : enters prog 364 = true := by kernel_rfl
theorem e365 : enters prog 365 = true := by kernel_rfl
theorem e366 : enters prog 366 = true := by kernel_rfl
theorem e367 : enters prog 367 = true := by kernel_rfl
theorem e368 : enters prog 368 = true := by kernel_rfl
theorem e369 : enters prog 369 = true := by kernel_rfl
theorem e370 : enters prog 370 = true := by kernel_rfl
theorem o269 : isOverlaps prog 269 := ⟨f269, 72, 4, _, func269, by kernel_rfl, by kernel_rfl, by kernel_rfl, by kernel_rfl, oX⟩
theorem aa : prog.follows .mixedOrders = true := by kernel_rfl
end Go.Proofs.YtkmmgklnoagedaaGreat.Ty
