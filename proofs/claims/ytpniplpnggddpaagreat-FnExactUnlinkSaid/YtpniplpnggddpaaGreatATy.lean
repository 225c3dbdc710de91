/- Facts on the types of the translation, each closed. Written by wip/tools/gen.py. -/
import Derived.Test.YtpniplpnggddpaaGreatChecked
import Derived.Test.YtpniplpnggddpaaGreatAbsCode
import Derived.KernelRfl
namespace Go.Proofs.YtpniplpnggddpaaGreat.Ty
open Go.Proofs.Tryz Go.Abs Go.Proofs
@[go_sem] theorem tc_3 : prog.cellsOf 3 = 1 := by kernel_rfl
@[go_sem] theorem t_3 : tl prog 3 = some (false, 1) /\ te prog 3 = none /\ tz prog 3 = some [.int .i64 0] /\ tflat prog 3 = true /\ tbool prog 3 = false /\ tkind prog 3 = some .i64 := by and_intros <;> kernel_rfl
@[go_sem] theorem t_4 : prog.cellsOf 4 = 1 /\ tl prog 4 = some (false, 1) /\ te prog 4 = none /\ tz prog 4 = some [.bool false] /\ tflat prog 4 = true /\ tbool prog 4 = true := by and_intros <;> kernel_rfl
@[go_sem] theorem t_5 : prog.cellsOf 5 = 1 /\ tl prog 5 = some (false, 1) /\ te prog 5 = none /\ tz prog 5 = some [.int .u8 0] /\ tflat prog 5 = true /\ tbool prog 5 = false /\ tkind prog 5 = some .u8 := by and_intros <;> kernel_rfl
@[go_sem] theorem t_9 : prog.cellsOf 9 = 1 /\ tl prog 9 = some (false, 1) /\ te prog 9 = none /\ tz prog 9 = some [.str .empty] /\ tflat prog 9 = true /\ tbool prog 9 = false /\ tstr prog 9 = true := by and_intros <;> kernel_rfl
@[go_sem] theorem t_22 : prog.cellsOf 22 = 1 /\ tl prog 22 = some (false, 1) /\ te prog 22 = some (3, 1, 8) /\ tz prog 22 = some [.sl 1 []] /\ tflat prog 22 = false /\ tbool prog 22 = false := by and_intros <;> kernel_rfl
@[go_sem] theorem t_23 : prog.cellsOf 23 = 2 /\ tl prog 23 = some (true, 2) /\ te prog 23 = none /\ tp prog 23 = some [(0, 1), (1, 1)] /\ tf prog 23 0 = some (0, false, 1) /\ tf prog 23 1 = some (1, false, 1) /\ tz prog 23 = some [.sl 1 [], .sl 1 []] /\ tflat prog 23 = false /\ tbool prog 23 = false := by and_intros <;> kernel_rfl
@[go_sem] theorem t_24 : prog.cellsOf 24 = 2 /\ tl prog 24 = some (true, 2) /\ te prog 24 = none /\ tp prog 24 = some [(0, 1), (1, 1)] /\ tf prog 24 0 = some (0, false, 1) /\ tf prog 24 1 = some (1, false, 1) /\ tz prog 24 = some [.sl 1 [], .sl 1 []] /\ tflat prog 24 = false /\ tbool prog 24 = false := by and_intros <;> kernel_rfl
@[go_sem] theorem t_25 : prog.cellsOf 25 = 1 /\ tl prog 25 = some (false, 1) /\ te prog 25 = some (105, 1, 24) /\ tz prog 25 = some [.sl 1 []] /\ tflat prog 25 = false /\ tbool prog 25 = false := by and_intros <;> kernel_rfl
@[go_sem] theorem t_26 : prog.cellsOf 26 = 2 /\ tl prog 26 = some (true, 2) /\ te prog 26 = none /\ tp prog 26 = some [(0, 1), (1, 1)] /\ tf prog 26 0 = some (0, false, 1) /\ tf prog 26 1 = some (1, false, 1) /\ tz prog 26 = some [.sl 1 [], .sl 1 []] /\ tflat prog 26 = false /\ tbool prog 26 = false := by and_intros <;> kernel_rfl
@[go_sem] theorem t_27 : prog.cellsOf 27 = 2 /\ tl prog 27 = some (true, 2) /\ te prog 27 = none /\ tp prog 27 = some [(0, 1), (1, 1)] /\ tf prog 27 0 = some (0, false, 1) /\ tf prog 27 1 = some (1, false, 1) /\ tz prog 27 = some [.sl 1 [], .sl 1 []] /\ tflat prog 27 = false /\ tbool prog 27 = false := by and_intros <;> kernel_rfl
@[go_sem] theorem t_28 : prog.cellsOf 28 = 4 /\ tl prog 28 = some (true, 4) /\ te prog 28 = none /\ tp prog 28 = some [(0, 2), (2, 2)] /\ tf prog 28 0 = some (0, true, 2) /\ tf prog 28 1 = some (2, true, 2) /\ tz prog 28 = some [.sl 1 [], .sl 1 [], .sl 1 [], .sl 1 []] /\ tflat prog 28 = false /\ tbool prog 28 = false := by and_intros <;> kernel_rfl
@[go_sem] theorem t_29 : prog.cellsOf 29 = 4 /\ tl prog 29 = some (true, 4) /\ te prog 29 = none /\ tp prog 29 = some [(0, 2), (2, 2)] /\ tf prog 29 0 = some (0, true, 2) /\ tf prog 29 1 = some (2, true, 2) /\ tz prog 29 = some [.sl 1 [], .sl 1 [], .sl 1 [], .sl 1 []] /\ tflat prog 29 = false /\ tbool prog 29 = false := by and_intros <;> kernel_rfl
@[go_sem] theorem t_31 : prog.cellsOf 31 = 2 /\ tl prog 31 = some (true, 2) /\ te prog 31 = none /\ tp prog 31 = some [(0, 1), (1, 1)] /\ tf prog 31 0 = some (0, false, 1) /\ tf prog 31 1 = some (1, false, 1) /\ tz prog 31 = some [.sl 1 [], .sl 1 []] /\ tflat prog 31 = false /\ tbool prog 31 = false := by and_intros <;> kernel_rfl
@[go_sem] theorem t_32 : prog.cellsOf 32 = 1 /\ tl prog 32 = some (false, 1) /\ te prog 32 = some (90, 1, 24) /\ tz prog 32 = some [.sl 1 []] /\ tflat prog 32 = false /\ tbool prog 32 = false := by and_intros <;> kernel_rfl
@[go_sem] theorem t_33 : prog.cellsOf 33 = 2 /\ tl prog 33 = some (true, 2) /\ te prog 33 = none /\ tp prog 33 = some [(0, 1), (1, 1)] /\ tf prog 33 0 = some (0, false, 1) /\ tf prog 33 1 = some (1, false, 1) /\ tz prog 33 = some [.sl 1 [], .sl 1 []] /\ tflat prog 33 = false /\ tbool prog 33 = false := by and_intros <;> kernel_rfl
@[go_sem] theorem t_34 : prog.cellsOf 34 = 2 /\ tl prog 34 = some (true, 2) /\ te prog 34 = none /\ tp prog 34 = some [(0, 1), (1, 1)] /\ tf prog 34 0 = some (0, false, 1) /\ tf prog 34 1 = some (1, false, 1) /\ tz prog 34 = some [.sl 1 [], .sl 1 []] /\ tflat prog 34 = false /\ tbool prog 34 = false := by and_intros <;> kernel_rfl
@[go_sem] theorem t_35 : prog.cellsOf 35 = 4 /\ tl prog 35 = some (true, 4) /\ te prog 35 = none /\ tp prog 35 = some [(0, 2), (2, 2)] /\ tf prog 35 0 = some (0, true, 2) /\ tf prog 35 1 = some (2, true, 2) /\ tz prog 35 = some [.sl 1 [], .sl 1 [], .sl 1 [], .sl 1 []] /\ tflat prog 35 = false /\ tbool prog 35 = false := by and_intros <;> kernel_rfl
@[go_sem] theorem t_36 : prog.cellsOf 36 = 4 /\ tl prog 36 = some (true, 4) /\ te prog 36 = none /\ tp prog 36 = some [(0, 2), (2, 2)] /\ tf prog 36 0 = some (0, true, 2) /\ tf prog 36 1 = some (2, true, 2) /\ tz prog 36 = some [.sl 1 [], .sl 1 [], .sl 1 [], .sl 1 []] /\ tflat prog 36 = false /\ tbool prog 36 = false := by and_intros <;> kernel_rfl
@[go_sem] theorem t_43 : prog.cellsOf 43 = 3 /\ tl prog 43 = some (true, 3) /\ te prog 43 = none /\ tp prog 43 = some [(0, 1), (1, 1), (2, 1)] /\ tf prog 43 0 = some (0, false, 1) /\ tf prog 43 1 = some (1, false, 1) /\ tf prog 43 2 = some (2, false, 1) /\ tz prog 43 = some [.int .i64 0, .int .i64 0, .int .i64 0] /\ tflat prog 43 = true /\ tbool prog 43 = false := by and_intros <;> kernel_rfl
@[go_sem] theorem t_44 : prog.cellsOf 44 = 3 /\ tl prog 44 = some (true, 3) /\ te prog 44 = none /\ tp prog 44 = some [(0, 1), (1, 1), (2, 1)] /\ tf prog 44 0 = some (0, false, 1) /\ tf prog 44 1 = some (1, false, 1) /\ tf prog 44 2 = some (2, false, 1) /\ teq prog 44 = some [0, 0, 0] /\ tz prog 44 = some [.int .i64 0, .int .i64 0, .int .i64 0] /\ tflat prog 44 = true /\ tbool prog 44 = false := by and_intros <;> kernel_rfl
@[go_sem] theorem t_46 : prog.cellsOf 46 = 3 /\ tl prog 46 = some (true, 3) /\ te prog 46 = none /\ tp prog 46 = some [(0, 1), (1, 1), (2, 1)] /\ tf prog 46 0 = some (0, false, 1) /\ tf prog 46 1 = some (1, false, 1) /\ tf prog 46 2 = some (2, false, 1) /\ teq prog 46 = some [0, 0, 0] /\ tz prog 46 = some [.int .i64 0, .int .i64 0, .int .i64 0] /\ tflat prog 46 = true /\ tbool prog 46 = false := by and_intros <;> kernel_rfl
@[go_sem] theorem t_49 : prog.cellsOf 49 = 3 /\ tl prog 49 = some (true, 3) /\ te prog 49 = none /\ tp prog 49 = some [(0, 1), (1, 1), (2, 1)] /\ tf prog 49 0 = some (0, false, 1) /\ tf prog 49 1 = some (1, false, 1) /\ tf prog 49 2 = some (2, false, 1) /\ tz prog 49 = some [.int .i64 0, .int .i64 0, .int .i64 0] /\ tflat prog 49 = true /\ tbool prog 49 = false := by and_intros <;> kernel_rfl
@[go_sem] theorem t_50 : prog.cellsOf 50 = 3 /\ tl prog 50 = some (true, 3) /\ te prog 50 = none /\ tp prog 50 = some [(0, 1), (1, 1), (2, 1)] /\ tf prog 50 0 = some (0, false, 1) /\ tf prog 50 1 = some (1, false, 1) /\ tf prog 50 2 = some (2, false, 1) /\ teq prog 50 = some [0, 0, 0] /\ tz prog 50 = some [.int .i64 0, .int .i64 0, .int .i64 0] /\ tflat prog 50 = true /\ tbool prog 50 = false := by and_intros <;> kernel_rfl
@[go_sem] theorem t_51 : prog.cellsOf 51 = 3 /\ tl prog 51 = some (true, 3) /\ te prog 51 = none /\ tp prog 51 = some [(0, 1), (1, 1), (2, 1)] /\ tf prog 51 0 = some (0, false, 1) /\ tf prog 51 1 = some (1, false, 1) /\ tf prog 51 2 = some (2, false, 1) /\ teq prog 51 = some [0, 0, 0] /\ tz prog 51 = some [.int .i64 0, .int .i64 0, .int .i64 0] /\ tflat prog 51 = true /\ tbool prog 51 = false := by and_intros <;> kernel_rfl
@[go_sem] theorem t_89 : prog.cellsOf 89 = 1 /\ tl prog 89 = some (true, 1) /\ te prog 89 = none /\ tp prog 89 = some [(0, 1)] /\ tf prog 89 0 = some (0, false, 1) /\ tz prog 89 = some [.sl 1 []] /\ tflat prog 89 = false /\ tbool prog 89 = false := by and_intros <;> kernel_rfl
@[go_sem] theorem t_90 : prog.cellsOf 90 = 1 /\ tl prog 90 = some (true, 1) /\ te prog 90 = none /\ tp prog 90 = some [(0, 1)] /\ tf prog 90 0 = some (0, false, 1) /\ tz prog 90 = some [.sl 1 []] /\ tflat prog 90 = false /\ tbool prog 90 = false := by and_intros <;> kernel_rfl
@[go_sem] theorem t_97 : prog.cellsOf 97 = 1 /\ tl prog 97 = some (false, 1) /\ te prog 97 = none /\ tz prog 97 = some [.int .u64 0] /\ tflat prog 97 = true /\ tbool prog 97 = false /\ tkind prog 97 = some .u64 := by and_intros <;> kernel_rfl
@[go_sem] theorem t_98 : prog.cellsOf 98 = 1 /\ tl prog 98 = some (false, 1) /\ te prog 98 = some (5, 1, 1) /\ tz prog 98 = some [.sl 1 []] /\ tflat prog 98 = false /\ tbool prog 98 = false := by and_intros <;> kernel_rfl
@[go_sem] theorem tc_105 : prog.cellsOf 105 = 1 := by kernel_rfl
@[go_sem] theorem t_105 : tl prog 105 = some (true, 1) /\ te prog 105 = none /\ tp prog 105 = some [(0, 1)] /\ tf prog 105 0 = some (0, false, 1) /\ tz prog 105 = some [.sl 1 []] /\ tflat prog 105 = false /\ tbool prog 105 = false := by and_intros <;> kernel_rfl
@[go_sem] theorem t_110 : prog.cellsOf 110 = 24 /\ tl prog 110 = some (true, 24) /\ te prog 110 = none /\ ta prog 110 = some (24, 4, 1) /\ tp prog 110 = some [(0, 1), (1, 1), (2, 1), (3, 1), (4, 1), (5, 1), (6, 1), (7, 1), (8, 1), (9, 1), (10, 1), (11, 1), (12, 1), (13, 1), (14, 1), (15, 1), (16, 1), (17, 1), (18, 1), (19, 1), (20, 1), (21, 1), (22, 1), (23, 1)] /\ tz prog 110 = some [.bool false, .bool false, .bool false, .bool false, .bool false, .bool false, .bool false, .bool false, .bool false, .bool false, .bool false, .bool false, .bool false, .bool false, .bool false, .bool false, .bool false, .bool false, .bool false, .bool false, .bool false, .bool false, .bool false, .bool false] /\ tflat prog 110 = true /\ tbool prog 110 = false := by and_intros <;> kernel_rfl
@[go_sem] theorem t_115 : prog.cellsOf 115 = 1 /\ tl prog 115 = some (false, 1) /\ te prog 115 = some (32, 1, 24) /\ tz prog 115 = some [.sl 1 []] /\ tflat prog 115 = false /\ tbool prog 115 = false := by and_intros <;> kernel_rfl
@[go_sem] theorem t_117 : prog.cellsOf 117 = 3 /\ tl prog 117 = some (true, 3) /\ te prog 117 = none /\ ta prog 117 = some (3, 3, 1) /\ tp prog 117 = some [(0, 1), (1, 1), (2, 1)] /\ tz prog 117 = some [.int .i64 0, .int .i64 0, .int .i64 0] /\ tflat prog 117 = true /\ tbool prog 117 = false := by and_intros <;> kernel_rfl
theorem e2 : enters prog 2 = true := by kernel_rfl
theorem e3 : enters prog 3 = true := by kernel_rfl
theorem e4 : enters prog 4 = true := by kernel_rfl
theorem e7 : enters prog 7 = true := by kernel_rfl
theorem e8 : enters prog 8 = true := by kernel_rfl
theorem e9 : enters prog 9 = true := by kernel_rfl
theorem e10 : enters prog 10 = true := by kernel_rfl
theorem e11 : enters prog 11 = true := by kernel_rfl
theorem e12 : enters prog 12 = true := by kernel_rfl
theorem e13 : enters prog 13 = true := by kernel_rfl
theorem e14 : enters prog 14 = true := by kernel_rfl
theorem e15 : enters prog 15 = true := by kernel_rfl
theorem e16 : enters prog 16 = true := by kernel_rfl
theorem e17 : enters prog 17 = true := by kernel_rfl
theorem e18 : enters prog 18 = true := by kernel_rfl
theorem e19 : enters prog 19 = true := by kernel_rfl
theorem e20 : enters prog 20 = true := by kernel_rfl
theorem e21 : enters prog 21 = true := by kernel_rfl
theorem e22 : enters prog 22 = true := by kernel_rfl
theorem e23 : enters prog 23 = true := by kernel_rfl
theorem e24 : enters prog 24 = true := by kernel_rfl
theorem e25 : enters prog 25 = true := by kernel_rfl
theorem e26 : enters prog 26 = true := by kernel_rfl
theorem e27 : enters prog 27 = true := by kernel_rfl
theorem e28 : enters prog 28 = true := by kernel_rfl
theorem e29 : enters prog 29 = true := by kernel_rfl
theorem e30 : enters prog 30 = true := by kernel_rfl
theorem e31 : enters prog 31 = true := by kernel_rfl
theorem e32 : enters prog 32 = true := by kernel_rfl
theorem e33 : enters prog 33 = true := by kernel_rfl
theorem e34 : enters prog 34 = true := by kernel_rfl
theorem e35 : enters prog 35 = true := by kernel_rfl
theorem e36 : enters prog 36 = true := by kernel_rfl
theorem e37 : enters prog 37 = true := by kernel_rfl
theorem e38 : enters prog 38 = true := by kernel_rfl
theorem e39 : enters prog 39 = true := by kernel_rfl
theorem e40 : enters prog 40 = true := by kernel_rfl
theorem e41 : enters prog 41 = true := by kernel_rfl
theorem e42 : enters prog 42 = true := by kernel_rfl
theorem e43 : enters prog 43 = true := by kernel_rfl
theorem e44 : enters prog 44 = true := by kernel_rfl
theorem e45 : enters prog 45 = true := by kernel_rfl
theorem e46 : enters prog 46 = true := by kernel_rfl
theorem e47 : enters prog 47 = true := by kernel_rfl
theorem e48 : enters prog 48 = true := by kernel_rfl
theorem e49 : enters prog 49 = true := by kernel_rfl
theorem e50 : enters prog 50 = true := by kernel_rfl
theorem e51 : enters prog 51 = true := by kernel_rfl
theorem e52 : enters prog 52 = true := by kernel_rfl
theorem e53 : enters prog 53 = true := by kernel_rfl
theorem e54 : enters prog 54 = true := by kernel_rfl
theorem e55 : enters prog 55 = true := by kernel_rfl
theorem e56 : enters prog 56 = true := by kernel_rfl
theorem e57 : enters prog 57 = true := by kernel_rfl
theorem e58 : enters prog 58 = true := by kernel_rfl
theorem e59 : enters prog 59 = true := by kernel_rfl
theorem e60 : enters prog 60 = true := by kernel_rfl
theorem e61 : enters prog 61 = true := by kernel_rfl
theorem e62 : enters prog 62 = true := by kernel_rfl
theorem e63 : enters prog 63 = true := by kernel_rfl
theorem e64 : enters prog 64 = true := by kernel_rfl
theorem e65 : enters prog 65 = true := by kernel_rfl
theorem e66 : enters prog 66 = true := by kernel_rfl
theorem e67 : enters prog 67 = true := by kernel_rfl
theorem e68 : enters prog 68 = true := by kernel_rfl
theorem e69 : enters prog 69 = true := by kernel_rfl
theorem e70 : enters prog 70 = true := by kernel_rfl
theorem e71 : enters prog 71 = true := by kernel_rfl
theorem e72 : enters prog 72 = true := by kernel_rfl
theorem e73 : enters prog 73 = true := by kernel_rfl
theorem e74 : enters prog 74 = true := by kernel_rfl
theorem e75 : enters prog 75 = true := by kernel_rfl
theorem e76 : enters prog 76 = true := by kernel_rfl
theorem e77 : enters prog 77 = true := by kernel_rfl
theorem e78 : enters prog 78 = true := by kernel_rfl
theorem e79 : enters prog 79 = true := by kernel_rfl
theorem e80 : enters prog 80 = true := by kernel_rfl
theorem e81 : enters prog 81 = true := by kernel_rfl
theorem e82 : enters prog 82 = true := by kernel_rfl
theorem e83 : enters prog 83 = true := by kernel_rfl
theorem e84 : enters prog 84 = true := by kernel_rfl
theorem e85 : enters prog 85 = true := by kernel_rfl
theorem e86 : enters prog 86 = true := by kernel_rfl
theorem e87 : enters prog 87 = true := by kernel_rfl
theorem e88 : enters prog 88 = true := by kernel_rfl
theorem e89 : enters prog 89 = true := by kernel_rfl
theorem e90 : enters prog 90 = true := by kernel_rfl
theorem e91 : enters prog 91 = true := by kernel_rfl
theorem e92 : enters prog 92 = true := by kernel_rfl
theorem e93 : enters prog 93 = true := by kernel_rfl
theorem e94 : enters prog 94 = true := by kernel_rfl
theorem e95 : enters prog 95 = true := by kernel_rfl
theorem e96 : enters prog 96 = true := by kernel_rfl
theorem e97 : enters prog 97 = true := by kernel_rfl
theorem e98 : enters prog 98 = true := by kernel_rfl
theorem e99 : enters prog 99 = true := by kernel_rfl
theorem e100 : enters prog 100 = true := by kernel_rfl
theorem e101 : enters prog 101 = true := by kernel_rfl
theorem e102 : enters prog 102 = true := by kernel_rfl
theorem e103 : enters prog 103 = true := by kernel_rfl
theorem e104 : enters prog 104 = true := by kernel_rfl
theorem e105 : enters prog 105 = true := by kernel_rfl
theorem e106 : enters prog 106 = true := by kernel_rfl
theorem e107 : enters prog 107 = true := by kernel_rfl
theorem e108 : enters prog 108 = true := by kernel_rfl
theorem e109 : enters prog 109 = true := by kernel_rfl
theorem e110 : enters prog 110 = true := by kernel_rfl
theorem e111 : enters prog 111 = true := by kernel_rfl
theorem e112 : enters prog 112 = true := by kernel_rfl
theorem e113 : enters prog 113 = true := by kernel_rfl
theorem e114 : enters prog 114 = true := by kernel_rfl
theorem e115 : enters prog 115 = true := by kernel_rfl
theorem e116 : enters prog 116 = true := by kernel_rfl
theorem e117 : enters prog 117 = true := by kernel_rfl
theorem e118 : enters prog 118 = true := by kernel_rfl
theorem e119 : enters prog 119 = true := by kernel_rfl
theorem e120 : enters prog 120 = true := by kernel_rfl
theorem e121 : enters prog 121 = true := by kernel_rfl
theorem e122 : enters prog 122 = true := by kernel_rfl
theorem e123 : enters prog 123 = true := by kernel_rfl
theorem e124 : enters prog 124 = true := by kernel_rfl
theorem e125 : enters prog 125 = true := by kernel_rfl
theorem e126 : enters prog 126 = true := by kernel_rfl
theorem e127 : enters prog 127 = true := by kernel_rfl
theorem e128 : enters prog 128 = true := by kernel_rfl
theorem e129 : enters prog 129 = true := by kernel_rfl
theorem e130 : enters prog 130 = true := by kernel_rfl
theorem e131 : enters prog 131 = true := by kernel_rfl
theorem e132 : enters prog 132 = true := by kernel_rfl
theorem e133 : enters prog 133 = true := by kernel_rfl
theorem e134 : enters prog 134 = true := by kernel_rfl
theorem e135 : enters prog 135 = true := by kernel_rfl
theorem e136 : enters prog 136 = true := by kernel_rfl
theorem e137 : enters prog 137 = true := by kernel_rfl
theorem e138 : enters prog 138 = true := by kernel_rfl
theorem e139 : enters prog 139 = true := by kernel_rfl
theorem e140 : enters prog 140 = true := by kernel_rfl
theorem mixed : prog.follows .mixedOrders = true := by kernel_rfl
end Go.Proofs.YtpniplpnggddpaaGreat.Ty
