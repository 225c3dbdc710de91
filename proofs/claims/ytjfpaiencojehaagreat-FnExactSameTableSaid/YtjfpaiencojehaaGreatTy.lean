/- Facts on the types of the translation, each closed. Written by wip/tools/gen.py. -/
import Derived.Test.YtjfpaiencojehaaGreatChecked
import Derived.Test.YtjfpaiencojehaaGreatAbsCode
import Derived.KernelRfl
namespace Go.Proofs.YtjfpaiencojehaaGreat.Ty
open Go.Abs Go.Proofs
@[go_sem] theorem tc_2 : Tryz.prog.cellsOf 2 = 1 := by kernel_rfl
@[go_sem] theorem tl_2 : tl Tryz.prog 2 = some (false, 1) := by kernel_rfl
@[go_sem] theorem te_2 : te Tryz.prog 2 = none := by kernel_rfl
@[go_sem] theorem tz_2 : tz Tryz.prog 2 = some [.int .i64 0] := by kernel_rfl
@[go_sem] theorem tflat_2 : tflat Tryz.prog 2 = true := by kernel_rfl
@[go_sem] theorem tbool_2 : tbool Tryz.prog 2 = false := by kernel_rfl
@[go_sem] theorem tkind_2 : tkind Tryz.prog 2 = some .i64 := by kernel_rfl
@[go_sem] theorem tc_3 : Tryz.prog.cellsOf 3 = 1 := by kernel_rfl
@[go_sem] theorem tl_3 : tl Tryz.prog 3 = some (false, 1) := by kernel_rfl
@[go_sem] theorem te_3 : te Tryz.prog 3 = none := by kernel_rfl
@[go_sem] theorem tz_3 : tz Tryz.prog 3 = some [.int .i64 0] := by kernel_rfl
@[go_sem] theorem tflat_3 : tflat Tryz.prog 3 = true := by kernel_rfl
@[go_sem] theorem tbool_3 : tbool Tryz.prog 3 = false := by kernel_rfl
@[go_sem] theorem tkind_3 : tkind Tryz.prog 3 = some .i64 := by kernel_rfl
@[go_sem] theorem tc_4 : Tryz.prog.cellsOf 4 = 1 := by kernel_rfl
@[go_sem] theorem tl_4 : tl Tryz.prog 4 = some (false, 1) := by kernel_rfl
@[go_sem] theorem te_4 : te Tryz.prog 4 = none := by kernel_rfl
@[go_sem] theorem tz_4 : tz Tryz.prog 4 = some [.bool false] := by kernel_rfl
@[go_sem] theorem tflat_4 : tflat Tryz.prog 4 = true := by kernel_rfl
@[go_sem] theorem tbool_4 : tbool Tryz.prog 4 = true := by kernel_rfl
@[go_sem] theorem tc_5 : Tryz.prog.cellsOf 5 = 1 := by kernel_rfl
@[go_sem] theorem tl_5 : tl Tryz.prog 5 = some (false, 1) := by kernel_rfl
@[go_sem] theorem te_5 : te Tryz.prog 5 = none := by kernel_rfl
@[go_sem] theorem tz_5 : tz Tryz.prog 5 = some [.int .u8 0] := by kernel_rfl
@[go_sem] theorem tflat_5 : tflat Tryz.prog 5 = true := by kernel_rfl
@[go_sem] theorem tbool_5 : tbool Tryz.prog 5 = false := by kernel_rfl
@[go_sem] theorem tkind_5 : tkind Tryz.prog 5 = some .u8 := by kernel_rfl
@[go_sem] theorem tc_6 : Tryz.prog.cellsOf 6 = 1 := by kernel_rfl
@[go_sem] theorem tl_6 : tl Tryz.prog 6 = some (false, 1) := by kernel_rfl
@[go_sem] theorem te_6 : te Tryz.prog 6 = none := by kernel_rfl
@[go_sem] theorem tz_6 : tz Tryz.prog 6 = some [.int .u8 0] := by kernel_rfl
@[go_sem] theorem tflat_6 : tflat Tryz.prog 6 = true := by kernel_rfl
@[go_sem] theorem tbool_6 : tbool Tryz.prog 6 = false := by kernel_rfl
@[go_sem] theorem tkind_6 : tkind Tryz.prog 6 = some .u8 := by kernel_rfl
@[go_sem] theorem tc_7 : Tryz.prog.cellsOf 7 = 4 := by kernel_rfl
@[go_sem] theorem tl_7 : tl Tryz.prog 7 = some (true, 4) := by kernel_rfl
@[go_sem] theorem te_7 : te Tryz.prog 7 = none := by kernel_rfl
@[go_sem] theorem tp_7 : tp Tryz.prog 7 = some [(0, 1), (1, 1), (2, 1), (3, 1)] := by kernel_rfl
@[go_sem] theorem tf_7_0 : tf Tryz.prog 7 0 = some (0, false, 1) := by kernel_rfl
@[go_sem] theorem tf_7_1 : tf Tryz.prog 7 1 = some (1, false, 1) := by kernel_rfl
@[go_sem] theorem tf_7_2 : tf Tryz.prog 7 2 = some (2, false, 1) := by kernel_rfl
@[go_sem] theorem tf_7_3 : tf Tryz.prog 7 3 = some (3, false, 1) := by kernel_rfl
@[go_sem] theorem tz_7 : tz Tryz.prog 7 = some [.int .i64 0, .int .i64 0, .bool false, .int .u8 0] := by kernel_rfl
@[go_sem] theorem tflat_7 : tflat Tryz.prog 7 = true := by kernel_rfl
@[go_sem] theorem tbool_7 : tbool Tryz.prog 7 = false := by kernel_rfl
@[go_sem] theorem tc_8 : Tryz.prog.cellsOf 8 = 4 := by kernel_rfl
@[go_sem] theorem tl_8 : tl Tryz.prog 8 = some (true, 4) := by kernel_rfl
@[go_sem] theorem te_8 : te Tryz.prog 8 = none := by kernel_rfl
@[go_sem] theorem tp_8 : tp Tryz.prog 8 = some [(0, 1), (1, 1), (2, 1), (3, 1)] := by kernel_rfl
@[go_sem] theorem tf_8_0 : tf Tryz.prog 8 0 = some (0, false, 1) := by kernel_rfl
@[go_sem] theorem tf_8_1 : tf Tryz.prog 8 1 = some (1, false, 1) := by kernel_rfl
@[go_sem] theorem tf_8_2 : tf Tryz.prog 8 2 = some (2, false, 1) := by kernel_rfl
@[go_sem] theorem tf_8_3 : tf Tryz.prog 8 3 = some (3, false, 1) := by kernel_rfl
@[go_sem] theorem tz_8 : tz Tryz.prog 8 = some [.int .i64 0, .int .i64 0, .bool false, .int .u8 0] := by kernel_rfl
@[go_sem] theorem tflat_8 : tflat Tryz.prog 8 = true := by kernel_rfl
@[go_sem] theorem tbool_8 : tbool Tryz.prog 8 = false := by kernel_rfl
@[go_sem] theorem tc_9 : Tryz.prog.cellsOf 9 = 1 := by kernel_rfl
@[go_sem] theorem tl_9 : tl Tryz.prog 9 = some (false, 1) := by kernel_rfl
@[go_sem] theorem te_9 : te Tryz.prog 9 = none := by kernel_rfl
@[go_sem] theorem tz_9 : tz Tryz.prog 9 = some [.str .empty] := by kernel_rfl
@[go_sem] theorem tflat_9 : tflat Tryz.prog 9 = true := by kernel_rfl
@[go_sem] theorem tbool_9 : tbool Tryz.prog 9 = false := by kernel_rfl
@[go_sem] theorem tstr_9 : tstr Tryz.prog 9 = true := by kernel_rfl
@[go_sem] theorem tc_10 : Tryz.prog.cellsOf 10 = 1 := by kernel_rfl
@[go_sem] theorem tl_10 : tl Tryz.prog 10 = some (false, 1) := by kernel_rfl
@[go_sem] theorem te_10 : te Tryz.prog 10 = none := by kernel_rfl
@[go_sem] theorem tz_10 : tz Tryz.prog 10 = some [.str .empty] := by kernel_rfl
@[go_sem] theorem tflat_10 : tflat Tryz.prog 10 = true := by kernel_rfl
@[go_sem] theorem tbool_10 : tbool Tryz.prog 10 = false := by kernel_rfl
@[go_sem] theorem tstr_10 : tstr Tryz.prog 10 = true := by kernel_rfl
@[go_sem] theorem tc_11 : Tryz.prog.cellsOf 11 = 1 := by kernel_rfl
@[go_sem] theorem tl_11 : tl Tryz.prog 11 = some (false, 1) := by kernel_rfl
@[go_sem] theorem te_11 : te Tryz.prog 11 = none := by kernel_rfl
@[go_sem] theorem tz_11 : tz Tryz.prog 11 = some [.str .empty] := by kernel_rfl
@[go_sem] theorem tflat_11 : tflat Tryz.prog 11 = true := by kernel_rfl
@[go_sem] theorem tbool_11 : tbool Tryz.prog 11 = false := by kernel_rfl
@[go_sem] theorem tstr_11 : tstr Tryz.prog 11 = true := by kernel_rfl
@[go_sem] theorem tc_12 : Tryz.prog.cellsOf 12 = 1 := by kernel_rfl
@[go_sem] theorem tl_12 : tl Tryz.prog 12 = some (false, 1) := by kernel_rfl
@[go_sem] theorem te_12 : te Tryz.prog 12 = none := by kernel_rfl
@[go_sem] theorem tz_12 : tz Tryz.prog 12 = some [.int .u64 0] := by kernel_rfl
@[go_sem] theorem tflat_12 : tflat Tryz.prog 12 = true := by kernel_rfl
@[go_sem] theorem tbool_12 : tbool Tryz.prog 12 = false := by kernel_rfl
@[go_sem] theorem tkind_12 : tkind Tryz.prog 12 = some .u64 := by kernel_rfl
@[go_sem] theorem tc_13 : Tryz.prog.cellsOf 13 = 2 := by kernel_rfl
@[go_sem] theorem tl_13 : tl Tryz.prog 13 = some (true, 2) := by kernel_rfl
@[go_sem] theorem te_13 : te Tryz.prog 13 = none := by kernel_rfl
@[go_sem] theorem tp_13 : tp Tryz.prog 13 = some [(0, 1), (1, 1)] := by kernel_rfl
@[go_sem] theorem tf_13_0 : tf Tryz.prog 13 0 = some (0, false, 1) := by kernel_rfl
@[go_sem] theorem tf_13_1 : tf Tryz.prog 13 1 = some (1, false, 1) := by kernel_rfl
@[go_sem] theorem tz_13 : tz Tryz.prog 13 = some [.str .empty, .int .u64 0] := by kernel_rfl
@[go_sem] theorem tflat_13 : tflat Tryz.prog 13 = true := by kernel_rfl
@[go_sem] theorem tbool_13 : tbool Tryz.prog 13 = false := by kernel_rfl
@[go_sem] theorem tc_14 : Tryz.prog.cellsOf 14 = 2 := by kernel_rfl
@[go_sem] theorem tl_14 : tl Tryz.prog 14 = some (true, 2) := by kernel_rfl
@[go_sem] theorem te_14 : te Tryz.prog 14 = none := by kernel_rfl
@[go_sem] theorem tp_14 : tp Tryz.prog 14 = some [(0, 1), (1, 1)] := by kernel_rfl
@[go_sem] theorem tf_14_0 : tf Tryz.prog 14 0 = some (0, false, 1) := by kernel_rfl
@[go_sem] theorem tf_14_1 : tf Tryz.prog 14 1 = some (1, false, 1) := by kernel_rfl
@[go_sem] theorem tz_14 : tz Tryz.prog 14 = some [.str .empty, .int .u64 0] := by kernel_rfl
@[go_sem] theorem tflat_14 : tflat Tryz.prog 14 = true := by kernel_rfl
@[go_sem] theorem tbool_14 : tbool Tryz.prog 14 = false := by kernel_rfl
@[go_sem] theorem tc_15 : Tryz.prog.cellsOf 15 = 1 := by kernel_rfl
@[go_sem] theorem tl_15 : tl Tryz.prog 15 = some (false, 1) := by kernel_rfl
@[go_sem] theorem te_15 : te Tryz.prog 15 = none := by kernel_rfl
@[go_sem] theorem tbool_15 : tbool Tryz.prog 15 = false := by kernel_rfl
@[go_sem] theorem tc_16 : Tryz.prog.cellsOf 16 = 1 := by kernel_rfl
@[go_sem] theorem tl_16 : tl Tryz.prog 16 = some (false, 1) := by kernel_rfl
@[go_sem] theorem te_16 : te Tryz.prog 16 = none := by kernel_rfl
@[go_sem] theorem tbool_16 : tbool Tryz.prog 16 = false := by kernel_rfl
@[go_sem] theorem tc_17 : Tryz.prog.cellsOf 17 = 1 := by kernel_rfl
@[go_sem] theorem tl_17 : tl Tryz.prog 17 = some (false, 1) := by kernel_rfl
@[go_sem] theorem te_17 : te Tryz.prog 17 = none := by kernel_rfl
@[go_sem] theorem tbool_17 : tbool Tryz.prog 17 = false := by kernel_rfl
@[go_sem] theorem tc_18 : Tryz.prog.cellsOf 18 = 1 := by kernel_rfl
@[go_sem] theorem tl_18 : tl Tryz.prog 18 = some (true, 1) := by kernel_rfl
@[go_sem] theorem te_18 : te Tryz.prog 18 = none := by kernel_rfl
@[go_sem] theorem tp_18 : tp Tryz.prog 18 = some [(0, 1)] := by kernel_rfl
@[go_sem] theorem tf_18_0 : tf Tryz.prog 18 0 = some (0, false, 1) := by kernel_rfl
@[go_sem] theorem tbool_18 : tbool Tryz.prog 18 = false := by kernel_rfl
@[go_sem] theorem tc_19 : Tryz.prog.cellsOf 19 = 1 := by kernel_rfl
@[go_sem] theorem tl_19 : tl Tryz.prog 19 = some (true, 1) := by kernel_rfl
@[go_sem] theorem te_19 : te Tryz.prog 19 = none := by kernel_rfl
@[go_sem] theorem tp_19 : tp Tryz.prog 19 = some [(0, 1)] := by kernel_rfl
@[go_sem] theorem tf_19_0 : tf Tryz.prog 19 0 = some (0, false, 1) := by kernel_rfl
@[go_sem] theorem tbool_19 : tbool Tryz.prog 19 = false := by kernel_rfl
@[go_sem] theorem tc_21 : Tryz.prog.cellsOf 21 = 1 := by kernel_rfl
@[go_sem] theorem tl_21 : tl Tryz.prog 21 = some (false, 1) := by kernel_rfl
@[go_sem] theorem te_21 : te Tryz.prog 21 = none := by kernel_rfl
@[go_sem] theorem tz_21 : tz Tryz.prog 21 = some [.int .i32 0] := by kernel_rfl
@[go_sem] theorem tflat_21 : tflat Tryz.prog 21 = true := by kernel_rfl
@[go_sem] theorem tbool_21 : tbool Tryz.prog 21 = false := by kernel_rfl
@[go_sem] theorem tkind_21 : tkind Tryz.prog 21 = some .i32 := by kernel_rfl
@[go_sem] theorem tc_22 : Tryz.prog.cellsOf 22 = 1 := by kernel_rfl
@[go_sem] theorem tl_22 : tl Tryz.prog 22 = some (false, 1) := by kernel_rfl
@[go_sem] theorem te_22 : te Tryz.prog 22 = some (3, 1, 8) := by kernel_rfl
@[go_sem] theorem tz_22 : tz Tryz.prog 22 = some [.sl 1 []] := by kernel_rfl
@[go_sem] theorem tflat_22 : tflat Tryz.prog 22 = false := by kernel_rfl
@[go_sem] theorem tbool_22 : tbool Tryz.prog 22 = false := by kernel_rfl
@[go_sem] theorem tc_23 : Tryz.prog.cellsOf 23 = 2 := by kernel_rfl
@[go_sem] theorem tl_23 : tl Tryz.prog 23 = some (true, 2) := by kernel_rfl
@[go_sem] theorem te_23 : te Tryz.prog 23 = none := by kernel_rfl
@[go_sem] theorem tp_23 : tp Tryz.prog 23 = some [(0, 1), (1, 1)] := by kernel_rfl
@[go_sem] theorem tf_23_0 : tf Tryz.prog 23 0 = some (0, false, 1) := by kernel_rfl
@[go_sem] theorem tf_23_1 : tf Tryz.prog 23 1 = some (1, false, 1) := by kernel_rfl
@[go_sem] theorem tz_23 : tz Tryz.prog 23 = some [.sl 1 [], .sl 1 []] := by kernel_rfl
@[go_sem] theorem tflat_23 : tflat Tryz.prog 23 = false := by kernel_rfl
@[go_sem] theorem tbool_23 : tbool Tryz.prog 23 = false := by kernel_rfl
@[go_sem] theorem tc_24 : Tryz.prog.cellsOf 24 = 2 := by kernel_rfl
@[go_sem] theorem tl_24 : tl Tryz.prog 24 = some (true, 2) := by kernel_rfl
@[go_sem] theorem te_24 : te Tryz.prog 24 = none := by kernel_rfl
@[go_sem] theorem tp_24 : tp Tryz.prog 24 = some [(0, 1), (1, 1)] := by kernel_rfl
@[go_sem] theorem tf_24_0 : tf Tryz.prog 24 0 = some (0, false, 1) := by kernel_rfl
@[go_sem] theorem tf_24_1 : tf Tryz.prog 24 1 = some (1, false, 1) := by kernel_rfl
@[go_sem] theorem tz_24 : tz Tryz.prog 24 = some [.sl 1 [], .sl 1 []] := by kernel_rfl
@[go_sem] theorem tflat_24 : tflat Tryz.prog 24 = false := by kernel_rfl
@[go_sem] theorem tbool_24 : tbool Tryz.prog 24 = false := by kernel_rfl
@[go_sem] theorem tc_25 : Tryz.prog.cellsOf 25 = 1 := by kernel_rfl
@[go_sem] theorem tl_25 : tl Tryz.prog 25 = some (false, 1) := by kernel_rfl
@[go_sem] theorem te_25 : te Tryz.prog 25 = some (228, 1, 24) := by kernel_rfl
@[go_sem] theorem tz_25 : tz Tryz.prog 25 = some [.sl 1 []] := by kernel_rfl
@[go_sem] theorem tflat_25 : tflat Tryz.prog 25 = false := by kernel_rfl
@[go_sem] theorem tbool_25 : tbool Tryz.prog 25 = false := by kernel_rfl
@[go_sem] theorem tc_26 : Tryz.prog.cellsOf 26 = 2 := by kernel_rfl
@[go_sem] theorem tl_26 : tl Tryz.prog 26 = some (true, 2) := by kernel_rfl
@[go_sem] theorem te_26 : te Tryz.prog 26 = none := by kernel_rfl
@[go_sem] theorem tp_26 : tp Tryz.prog 26 = some [(0, 1), (1, 1)] := by kernel_rfl
@[go_sem] theorem tf_26_0 : tf Tryz.prog 26 0 = some (0, false, 1) := by kernel_rfl
@[go_sem] theorem tf_26_1 : tf Tryz.prog 26 1 = some (1, false, 1) := by kernel_rfl
@[go_sem] theorem tz_26 : tz Tryz.prog 26 = some [.sl 1 [], .sl 1 []] := by kernel_rfl
@[go_sem] theorem tflat_26 : tflat Tryz.prog 26 = false := by kernel_rfl
@[go_sem] theorem tbool_26 : tbool Tryz.prog 26 = false := by kernel_rfl
@[go_sem] theorem tc_27 : Tryz.prog.cellsOf 27 = 2 := by kernel_rfl
@[go_sem] theorem tl_27 : tl Tryz.prog 27 = some (true, 2) := by kernel_rfl
@[go_sem] theorem te_27 : te Tryz.prog 27 = none := by kernel_rfl
@[go_sem] theorem tp_27 : tp Tryz.prog 27 = some [(0, 1), (1, 1)] := by kernel_rfl
@[go_sem] theorem tf_27_0 : tf Tryz.prog 27 0 = some (0, false, 1) := by kernel_rfl
@[go_sem] theorem tf_27_1 : tf Tryz.prog 27 1 = some (1, false, 1) := by kernel_rfl
@[go_sem] theorem tz_27 : tz Tryz.prog 27 = some [.sl 1 [], .sl 1 []] := by kernel_rfl
@[go_sem] theorem tflat_27 : tflat Tryz.prog 27 = false := by kernel_rfl
@[go_sem] theorem tbool_27 : tbool Tryz.prog 27 = false := by kernel_rfl
@[go_sem] theorem tc_28 : Tryz.prog.cellsOf 28 = 4 := by kernel_rfl
@[go_sem] theorem tl_28 : tl Tryz.prog 28 = some (true, 4) := by kernel_rfl
@[go_sem] theorem te_28 : te Tryz.prog 28 = none := by kernel_rfl
@[go_sem] theorem tp_28 : tp Tryz.prog 28 = some [(0, 2), (2, 2)] := by kernel_rfl
@[go_sem] theorem tf_28_0 : tf Tryz.prog 28 0 = some (0, true, 2) := by kernel_rfl
@[go_sem] theorem tf_28_1 : tf Tryz.prog 28 1 = some (2, true, 2) := by kernel_rfl
@[go_sem] theorem tz_28 : tz Tryz.prog 28 = some [.sl 1 [], .sl 1 [], .sl 1 [], .sl 1 []] := by kernel_rfl
@[go_sem] theorem tflat_28 : tflat Tryz.prog 28 = false := by kernel_rfl
@[go_sem] theorem tbool_28 : tbool Tryz.prog 28 = false := by kernel_rfl
@[go_sem] theorem tc_29 : Tryz.prog.cellsOf 29 = 4 := by kernel_rfl
@[go_sem] theorem tl_29 : tl Tryz.prog 29 = some (true, 4) := by kernel_rfl
@[go_sem] theorem te_29 : te Tryz.prog 29 = none := by kernel_rfl
@[go_sem] theorem tp_29 : tp Tryz.prog 29 = some [(0, 2), (2, 2)] := by kernel_rfl
@[go_sem] theorem tf_29_0 : tf Tryz.prog 29 0 = some (0, true, 2) := by kernel_rfl
@[go_sem] theorem tf_29_1 : tf Tryz.prog 29 1 = some (2, true, 2) := by kernel_rfl
@[go_sem] theorem tz_29 : tz Tryz.prog 29 = some [.sl 1 [], .sl 1 [], .sl 1 [], .sl 1 []] := by kernel_rfl
@[go_sem] theorem tflat_29 : tflat Tryz.prog 29 = false := by kernel_rfl
@[go_sem] theorem tbool_29 : tbool Tryz.prog 29 = false := by kernel_rfl
@[go_sem] theorem tc_30 : Tryz.prog.cellsOf 30 = 1 := by kernel_rfl
@[go_sem] theorem tl_30 : tl Tryz.prog 30 = some (false, 1) := by kernel_rfl
@[go_sem] theorem te_30 : te Tryz.prog 30 = some (207, 4, 32) := by kernel_rfl
@[go_sem] theorem tz_30 : tz Tryz.prog 30 = some [.sl 4 []] := by kernel_rfl
@[go_sem] theorem tflat_30 : tflat Tryz.prog 30 = false := by kernel_rfl
@[go_sem] theorem tbool_30 : tbool Tryz.prog 30 = false := by kernel_rfl
@[go_sem] theorem tc_31 : Tryz.prog.cellsOf 31 = 2 := by kernel_rfl
@[go_sem] theorem tl_31 : tl Tryz.prog 31 = some (true, 2) := by kernel_rfl
@[go_sem] theorem te_31 : te Tryz.prog 31 = none := by kernel_rfl
@[go_sem] theorem tp_31 : tp Tryz.prog 31 = some [(0, 1), (1, 1)] := by kernel_rfl
@[go_sem] theorem tf_31_0 : tf Tryz.prog 31 0 = some (0, false, 1) := by kernel_rfl
@[go_sem] theorem tf_31_1 : tf Tryz.prog 31 1 = some (1, false, 1) := by kernel_rfl
@[go_sem] theorem tz_31 : tz Tryz.prog 31 = some [.int .i64 0, .sl 4 []] := by kernel_rfl
@[go_sem] theorem tflat_31 : tflat Tryz.prog 31 = false := by kernel_rfl
@[go_sem] theorem tbool_31 : tbool Tryz.prog 31 = false := by kernel_rfl
@[go_sem] theorem tc_32 : Tryz.prog.cellsOf 32 = 2 := by kernel_rfl
@[go_sem] theorem tl_32 : tl Tryz.prog 32 = some (true, 2) := by kernel_rfl
@[go_sem] theorem te_32 : te Tryz.prog 32 = none := by kernel_rfl
@[go_sem] theorem tp_32 : tp Tryz.prog 32 = some [(0, 1), (1, 1)] := by kernel_rfl
@[go_sem] theorem tf_32_0 : tf Tryz.prog 32 0 = some (0, false, 1) := by kernel_rfl
@[go_sem] theorem tf_32_1 : tf Tryz.prog 32 1 = some (1, false, 1) := by kernel_rfl
@[go_sem] theorem tz_32 : tz Tryz.prog 32 = some [.int .i64 0, .sl 4 []] := by kernel_rfl
@[go_sem] theorem tflat_32 : tflat Tryz.prog 32 = false := by kernel_rfl
@[go_sem] theorem tbool_32 : tbool Tryz.prog 32 = false := by kernel_rfl
@[go_sem] theorem tc_33 : Tryz.prog.cellsOf 33 = 1 := by kernel_rfl
@[go_sem] theorem tl_33 : tl Tryz.prog 33 = some (false, 1) := by kernel_rfl
@[go_sem] theorem te_33 : te Tryz.prog 33 = some (168, 1, 24) := by kernel_rfl
@[go_sem] theorem tz_33 : tz Tryz.prog 33 = some [.sl 1 []] := by kernel_rfl
@[go_sem] theorem tflat_33 : tflat Tryz.prog 33 = false := by kernel_rfl
@[go_sem] theorem tbool_33 : tbool Tryz.prog 33 = false := by kernel_rfl
@[go_sem] theorem tc_34 : Tryz.prog.cellsOf 34 = 8 := by kernel_rfl
@[go_sem] theorem tl_34 : tl Tryz.prog 34 = some (true, 8) := by kernel_rfl
@[go_sem] theorem te_34 : te Tryz.prog 34 = none := by kernel_rfl
@[go_sem] theorem tp_34 : tp Tryz.prog 34 = some [(0, 4), (4, 2), (6, 1), (7, 1)] := by kernel_rfl
@[go_sem] theorem tf_34_0 : tf Tryz.prog 34 0 = some (0, true, 4) := by kernel_rfl
@[go_sem] theorem tf_34_1 : tf Tryz.prog 34 1 = some (4, true, 2) := by kernel_rfl
@[go_sem] theorem tf_34_2 : tf Tryz.prog 34 2 = some (6, false, 1) := by kernel_rfl
@[go_sem] theorem tf_34_3 : tf Tryz.prog 34 3 = some (7, false, 1) := by kernel_rfl
@[go_sem] theorem tz_34 : tz Tryz.prog 34 = some [.sl 1 [], .sl 1 [], .sl 1 [], .sl 1 [], .int .i64 0, .sl 4 [], .sl 1 [], .sl 1 []] := by kernel_rfl
@[go_sem] theorem tflat_34 : tflat Tryz.prog 34 = false := by kernel_rfl
@[go_sem] theorem tbool_34 : tbool Tryz.prog 34 = false := by kernel_rfl
@[go_sem] theorem tc_35 : Tryz.prog.cellsOf 35 = 8 := by kernel_rfl
@[go_sem] theorem tl_35 : tl Tryz.prog 35 = some (true, 8) := by kernel_rfl
@[go_sem] theorem te_35 : te Tryz.prog 35 = none := by kernel_rfl
@[go_sem] theorem tp_35 : tp Tryz.prog 35 = some [(0, 4), (4, 2), (6, 1), (7, 1)] := by kernel_rfl
@[go_sem] theorem tf_35_0 : tf Tryz.prog 35 0 = some (0, true, 4) := by kernel_rfl
@[go_sem] theorem tf_35_1 : tf Tryz.prog 35 1 = some (4, true, 2) := by kernel_rfl
@[go_sem] theorem tf_35_2 : tf Tryz.prog 35 2 = some (6, false, 1) := by kernel_rfl
@[go_sem] theorem tf_35_3 : tf Tryz.prog 35 3 = some (7, false, 1) := by kernel_rfl
@[go_sem] theorem tz_35 : tz Tryz.prog 35 = some [.sl 1 [], .sl 1 [], .sl 1 [], .sl 1 [], .int .i64 0, .sl 4 [], .sl 1 [], .sl 1 []] := by kernel_rfl
@[go_sem] theorem tflat_35 : tflat Tryz.prog 35 = false := by kernel_rfl
@[go_sem] theorem tbool_35 : tbool Tryz.prog 35 = false := by kernel_rfl
@[go_sem] theorem tc_36 : Tryz.prog.cellsOf 36 = 1 := by kernel_rfl
@[go_sem] theorem tl_36 : tl Tryz.prog 36 = some (false, 1) := by kernel_rfl
@[go_sem] theorem te_36 : te Tryz.prog 36 = some (145, 3, 24) := by kernel_rfl
@[go_sem] theorem tz_36 : tz Tryz.prog 36 = some [.sl 3 []] := by kernel_rfl
@[go_sem] theorem tflat_36 : tflat Tryz.prog 36 = false := by kernel_rfl
@[go_sem] theorem tbool_36 : tbool Tryz.prog 36 = false := by kernel_rfl
@[go_sem] theorem tc_37 : Tryz.prog.cellsOf 37 = 1 := by kernel_rfl
@[go_sem] theorem tl_37 : tl Tryz.prog 37 = some (false, 1) := by kernel_rfl
@[go_sem] theorem te_37 : te Tryz.prog 37 = some (132, 32, 368) := by kernel_rfl
@[go_sem] theorem tz_37 : tz Tryz.prog 37 = some [.sl 32 []] := by kernel_rfl
@[go_sem] theorem tflat_37 : tflat Tryz.prog 37 = false := by kernel_rfl
@[go_sem] theorem tbool_37 : tbool Tryz.prog 37 = false := by kernel_rfl
@[go_sem] theorem tc_38 : Tryz.prog.cellsOf 38 = 1 := by kernel_rfl
@[go_sem] theorem tl_38 : tl Tryz.prog 38 = some (false, 1) := by kernel_rfl
@[go_sem] theorem te_38 : te Tryz.prog 38 = some (136, 1, 24) := by kernel_rfl
@[go_sem] theorem tz_38 : tz Tryz.prog 38 = some [.sl 1 []] := by kernel_rfl
@[go_sem] theorem tflat_38 : tflat Tryz.prog 38 = false := by kernel_rfl
@[go_sem] theorem tbool_38 : tbool Tryz.prog 38 = false := by kernel_rfl
@[go_sem] theorem tc_39 : Tryz.prog.cellsOf 39 = 1 := by kernel_rfl
@[go_sem] theorem tl_39 : tl Tryz.prog 39 = some (false, 1) := by kernel_rfl
@[go_sem] theorem te_39 : te Tryz.prog 39 = some (139, 6, 80) := by kernel_rfl
@[go_sem] theorem tz_39 : tz Tryz.prog 39 = some [.sl 6 []] := by kernel_rfl
@[go_sem] theorem tflat_39 : tflat Tryz.prog 39 = false := by kernel_rfl
@[go_sem] theorem tbool_39 : tbool Tryz.prog 39 = false := by kernel_rfl
@[go_sem] theorem tc_40 : Tryz.prog.cellsOf 40 = 13 := by kernel_rfl
@[go_sem] theorem tl_40 : tl Tryz.prog 40 = some (true, 13) := by kernel_rfl
@[go_sem] theorem te_40 : te Tryz.prog 40 = none := by kernel_rfl
@[go_sem] theorem tp_40 : tp Tryz.prog 40 = some [(0, 8), (8, 1), (9, 1), (10, 1), (11, 1), (12, 1)] := by kernel_rfl
@[go_sem] theorem tf_40_0 : tf Tryz.prog 40 0 = some (0, true, 8) := by kernel_rfl
@[go_sem] theorem tf_40_1 : tf Tryz.prog 40 1 = some (8, false, 1) := by kernel_rfl
@[go_sem] theorem tf_40_2 : tf Tryz.prog 40 2 = some (9, false, 1) := by kernel_rfl
@[go_sem] theorem tf_40_3 : tf Tryz.prog 40 3 = some (10, false, 1) := by kernel_rfl
@[go_sem] theorem tf_40_4 : tf Tryz.prog 40 4 = some (11, false, 1) := by kernel_rfl
@[go_sem] theorem tf_40_5 : tf Tryz.prog 40 5 = some (12, false, 1) := by kernel_rfl
@[go_sem] theorem tz_40 : tz Tryz.prog 40 = some [.sl 1 [], .sl 1 [], .sl 1 [], .sl 1 [], .int .i64 0, .sl 4 [], .sl 1 [], .sl 1 [], .sl 3 [], .sl 32 [], .sl 1 [], .sl 6 [], .int .i64 0] := by kernel_rfl
@[go_sem] theorem tflat_40 : tflat Tryz.prog 40 = false := by kernel_rfl
@[go_sem] theorem tbool_40 : tbool Tryz.prog 40 = false := by kernel_rfl
@[go_sem] theorem tc_41 : Tryz.prog.cellsOf 41 = 13 := by kernel_rfl
@[go_sem] theorem tl_41 : tl Tryz.prog 41 = some (true, 13) := by kernel_rfl
@[go_sem] theorem te_41 : te Tryz.prog 41 = none := by kernel_rfl
@[go_sem] theorem tp_41 : tp Tryz.prog 41 = some [(0, 8), (8, 1), (9, 1), (10, 1), (11, 1), (12, 1)] := by kernel_rfl
@[go_sem] theorem tf_41_0 : tf Tryz.prog 41 0 = some (0, true, 8) := by kernel_rfl
@[go_sem] theorem tf_41_1 : tf Tryz.prog 41 1 = some (8, false, 1) := by kernel_rfl
@[go_sem] theorem tf_41_2 : tf Tryz.prog 41 2 = some (9, false, 1) := by kernel_rfl
@[go_sem] theorem tf_41_3 : tf Tryz.prog 41 3 = some (10, false, 1) := by kernel_rfl
@[go_sem] theorem tf_41_4 : tf Tryz.prog 41 4 = some (11, false, 1) := by kernel_rfl
@[go_sem] theorem tf_41_5 : tf Tryz.prog 41 5 = some (12, false, 1) := by kernel_rfl
@[go_sem] theorem tz_41 : tz Tryz.prog 41 = some [.sl 1 [], .sl 1 [], .sl 1 [], .sl 1 [], .int .i64 0, .sl 4 [], .sl 1 [], .sl 1 [], .sl 3 [], .sl 32 [], .sl 1 [], .sl 6 [], .int .i64 0] := by kernel_rfl
@[go_sem] theorem tflat_41 : tflat Tryz.prog 41 = false := by kernel_rfl
@[go_sem] theorem tbool_41 : tbool Tryz.prog 41 = false := by kernel_rfl
@[go_sem] theorem tc_44 : Tryz.prog.cellsOf 44 = 2 := by kernel_rfl
@[go_sem] theorem tl_44 : tl Tryz.prog 44 = some (true, 2) := by kernel_rfl
@[go_sem] theorem te_44 : te Tryz.prog 44 = none := by kernel_rfl
@[go_sem] theorem tp_44 : tp Tryz.prog 44 = some [(0, 1), (1, 1)] := by kernel_rfl
@[go_sem] theorem tf_44_0 : tf Tryz.prog 44 0 = some (0, false, 1) := by kernel_rfl
@[go_sem] theorem tf_44_1 : tf Tryz.prog 44 1 = some (1, false, 1) := by kernel_rfl
@[go_sem] theorem tz_44 : tz Tryz.prog 44 = some [.sl 1 [], .sl 1 []] := by kernel_rfl
@[go_sem] theorem tflat_44 : tflat Tryz.prog 44 = false := by kernel_rfl
@[go_sem] theorem tbool_44 : tbool Tryz.prog 44 = false := by kernel_rfl
@[go_sem] theorem tc_45 : Tryz.prog.cellsOf 45 = 1 := by kernel_rfl
@[go_sem] theorem tl_45 : tl Tryz.prog 45 = some (false, 1) := by kernel_rfl
@[go_sem] theorem te_45 : te Tryz.prog 45 = some (224, 1, 24) := by kernel_rfl
@[go_sem] theorem tz_45 : tz Tryz.prog 45 = some [.sl 1 []] := by kernel_rfl
@[go_sem] theorem tflat_45 : tflat Tryz.prog 45 = false := by kernel_rfl
@[go_sem] theorem tbool_45 : tbool Tryz.prog 45 = false := by kernel_rfl
@[go_sem] theorem tc_46 : Tryz.prog.cellsOf 46 = 2 := by kernel_rfl
@[go_sem] theorem tl_46 : tl Tryz.prog 46 = some (true, 2) := by kernel_rfl
@[go_sem] theorem te_46 : te Tryz.prog 46 = none := by kernel_rfl
@[go_sem] theorem tp_46 : tp Tryz.prog 46 = some [(0, 1), (1, 1)] := by kernel_rfl
@[go_sem] theorem tf_46_0 : tf Tryz.prog 46 0 = some (0, false, 1) := by kernel_rfl
@[go_sem] theorem tf_46_1 : tf Tryz.prog 46 1 = some (1, false, 1) := by kernel_rfl
@[go_sem] theorem tz_46 : tz Tryz.prog 46 = some [.sl 1 [], .sl 1 []] := by kernel_rfl
@[go_sem] theorem tflat_46 : tflat Tryz.prog 46 = false := by kernel_rfl
@[go_sem] theorem tbool_46 : tbool Tryz.prog 46 = false := by kernel_rfl
@[go_sem] theorem tc_47 : Tryz.prog.cellsOf 47 = 2 := by kernel_rfl
@[go_sem] theorem tl_47 : tl Tryz.prog 47 = some (true, 2) := by kernel_rfl
@[go_sem] theorem te_47 : te Tryz.prog 47 = none := by kernel_rfl
@[go_sem] theorem tp_47 : tp Tryz.prog 47 = some [(0, 1), (1, 1)] := by kernel_rfl
@[go_sem] theorem tf_47_0 : tf Tryz.prog 47 0 = some (0, false, 1) := by kernel_rfl
@[go_sem] theorem tf_47_1 : tf Tryz.prog 47 1 = some (1, false, 1) := by kernel_rfl
@[go_sem] theorem tz_47 : tz Tryz.prog 47 = some [.sl 1 [], .sl 1 []] := by kernel_rfl
@[go_sem] theorem tflat_47 : tflat Tryz.prog 47 = false := by kernel_rfl
@[go_sem] theorem tbool_47 : tbool Tryz.prog 47 = false := by kernel_rfl
@[go_sem] theorem tc_48 : Tryz.prog.cellsOf 48 = 4 := by kernel_rfl
@[go_sem] theorem tl_48 : tl Tryz.prog 48 = some (true, 4) := by kernel_rfl
@[go_sem] theorem te_48 : te Tryz.prog 48 = none := by kernel_rfl
@[go_sem] theorem tp_48 : tp Tryz.prog 48 = some [(0, 2), (2, 2)] := by kernel_rfl
@[go_sem] theorem tf_48_0 : tf Tryz.prog 48 0 = some (0, true, 2) := by kernel_rfl
@[go_sem] theorem tf_48_1 : tf Tryz.prog 48 1 = some (2, true, 2) := by kernel_rfl
@[go_sem] theorem tz_48 : tz Tryz.prog 48 = some [.sl 1 [], .sl 1 [], .sl 1 [], .sl 1 []] := by kernel_rfl
@[go_sem] theorem tflat_48 : tflat Tryz.prog 48 = false := by kernel_rfl
@[go_sem] theorem tbool_48 : tbool Tryz.prog 48 = false := by kernel_rfl
@[go_sem] theorem tc_49 : Tryz.prog.cellsOf 49 = 4 := by kernel_rfl
@[go_sem] theorem tl_49 : tl Tryz.prog 49 = some (true, 4) := by kernel_rfl
@[go_sem] theorem te_49 : te Tryz.prog 49 = none := by kernel_rfl
@[go_sem] theorem tp_49 : tp Tryz.prog 49 = some [(0, 2), (2, 2)] := by kernel_rfl
@[go_sem] theorem tf_49_0 : tf Tryz.prog 49 0 = some (0, true, 2) := by kernel_rfl
@[go_sem] theorem tf_49_1 : tf Tryz.prog 49 1 = some (2, true, 2) := by kernel_rfl
@[go_sem] theorem tz_49 : tz Tryz.prog 49 = some [.sl 1 [], .sl 1 [], .sl 1 [], .sl 1 []] := by kernel_rfl
@[go_sem] theorem tflat_49 : tflat Tryz.prog 49 = false := by kernel_rfl
@[go_sem] theorem tbool_49 : tbool Tryz.prog 49 = false := by kernel_rfl
@[go_sem] theorem tc_50 : Tryz.prog.cellsOf 50 = 1 := by kernel_rfl
@[go_sem] theorem tl_50 : tl Tryz.prog 50 = some (false, 1) := by kernel_rfl
@[go_sem] theorem te_50 : te Tryz.prog 50 = some (198, 4, 32) := by kernel_rfl
@[go_sem] theorem tz_50 : tz Tryz.prog 50 = some [.sl 4 []] := by kernel_rfl
@[go_sem] theorem tflat_50 : tflat Tryz.prog 50 = false := by kernel_rfl
@[go_sem] theorem tbool_50 : tbool Tryz.prog 50 = false := by kernel_rfl
@[go_sem] theorem tc_51 : Tryz.prog.cellsOf 51 = 2 := by kernel_rfl
@[go_sem] theorem tl_51 : tl Tryz.prog 51 = some (true, 2) := by kernel_rfl
@[go_sem] theorem te_51 : te Tryz.prog 51 = none := by kernel_rfl
@[go_sem] theorem tp_51 : tp Tryz.prog 51 = some [(0, 1), (1, 1)] := by kernel_rfl
@[go_sem] theorem tf_51_0 : tf Tryz.prog 51 0 = some (0, false, 1) := by kernel_rfl
@[go_sem] theorem tf_51_1 : tf Tryz.prog 51 1 = some (1, false, 1) := by kernel_rfl
@[go_sem] theorem tz_51 : tz Tryz.prog 51 = some [.int .i64 0, .sl 4 []] := by kernel_rfl
@[go_sem] theorem tflat_51 : tflat Tryz.prog 51 = false := by kernel_rfl
@[go_sem] theorem tbool_51 : tbool Tryz.prog 51 = false := by kernel_rfl
@[go_sem] theorem tc_52 : Tryz.prog.cellsOf 52 = 2 := by kernel_rfl
@[go_sem] theorem tl_52 : tl Tryz.prog 52 = some (true, 2) := by kernel_rfl
@[go_sem] theorem te_52 : te Tryz.prog 52 = none := by kernel_rfl
@[go_sem] theorem tp_52 : tp Tryz.prog 52 = some [(0, 1), (1, 1)] := by kernel_rfl
@[go_sem] theorem tf_52_0 : tf Tryz.prog 52 0 = some (0, false, 1) := by kernel_rfl
@[go_sem] theorem tf_52_1 : tf Tryz.prog 52 1 = some (1, false, 1) := by kernel_rfl
@[go_sem] theorem tz_52 : tz Tryz.prog 52 = some [.int .i64 0, .sl 4 []] := by kernel_rfl
@[go_sem] theorem tflat_52 : tflat Tryz.prog 52 = false := by kernel_rfl
@[go_sem] theorem tbool_52 : tbool Tryz.prog 52 = false := by kernel_rfl
@[go_sem] theorem tc_53 : Tryz.prog.cellsOf 53 = 1 := by kernel_rfl
@[go_sem] theorem tl_53 : tl Tryz.prog 53 = some (false, 1) := by kernel_rfl
@[go_sem] theorem te_53 : te Tryz.prog 53 = some (180, 1, 24) := by kernel_rfl
@[go_sem] theorem tz_53 : tz Tryz.prog 53 = some [.sl 1 []] := by kernel_rfl
@[go_sem] theorem tflat_53 : tflat Tryz.prog 53 = false := by kernel_rfl
@[go_sem] theorem tbool_53 : tbool Tryz.prog 53 = false := by kernel_rfl
@[go_sem] theorem tc_54 : Tryz.prog.cellsOf 54 = 8 := by kernel_rfl
@[go_sem] theorem tl_54 : tl Tryz.prog 54 = some (true, 8) := by kernel_rfl
@[go_sem] theorem te_54 : te Tryz.prog 54 = none := by kernel_rfl
@[go_sem] theorem tp_54 : tp Tryz.prog 54 = some [(0, 4), (4, 2), (6, 1), (7, 1)] := by kernel_rfl
@[go_sem] theorem tf_54_0 : tf Tryz.prog 54 0 = some (0, true, 4) := by kernel_rfl
@[go_sem] theorem tf_54_1 : tf Tryz.prog 54 1 = some (4, true, 2) := by kernel_rfl
@[go_sem] theorem tf_54_2 : tf Tryz.prog 54 2 = some (6, false, 1) := by kernel_rfl
@[go_sem] theorem tf_54_3 : tf Tryz.prog 54 3 = some (7, false, 1) := by kernel_rfl
@[go_sem] theorem tz_54 : tz Tryz.prog 54 = some [.sl 1 [], .sl 1 [], .sl 1 [], .sl 1 [], .int .i64 0, .sl 4 [], .sl 1 [], .sl 1 []] := by kernel_rfl
@[go_sem] theorem tflat_54 : tflat Tryz.prog 54 = false := by kernel_rfl
@[go_sem] theorem tbool_54 : tbool Tryz.prog 54 = false := by kernel_rfl
@[go_sem] theorem tc_55 : Tryz.prog.cellsOf 55 = 8 := by kernel_rfl
@[go_sem] theorem tl_55 : tl Tryz.prog 55 = some (true, 8) := by kernel_rfl
@[go_sem] theorem te_55 : te Tryz.prog 55 = none := by kernel_rfl
@[go_sem] theorem tp_55 : tp Tryz.prog 55 = some [(0, 4), (4, 2), (6, 1), (7, 1)] := by kernel_rfl
@[go_sem] theorem tf_55_0 : tf Tryz.prog 55 0 = some (0, true, 4) := by kernel_rfl
@[go_sem] theorem tf_55_1 : tf Tryz.prog 55 1 = some (4, true, 2) := by kernel_rfl
@[go_sem] theorem tf_55_2 : tf Tryz.prog 55 2 = some (6, false, 1) := by kernel_rfl
@[go_sem] theorem tf_55_3 : tf Tryz.prog 55 3 = some (7, false, 1) := by kernel_rfl
@[go_sem] theorem tz_55 : tz Tryz.prog 55 = some [.sl 1 [], .sl 1 [], .sl 1 [], .sl 1 [], .int .i64 0, .sl 4 [], .sl 1 [], .sl 1 []] := by kernel_rfl
@[go_sem] theorem tflat_55 : tflat Tryz.prog 55 = false := by kernel_rfl
@[go_sem] theorem tbool_55 : tbool Tryz.prog 55 = false := by kernel_rfl
@[go_sem] theorem tc_56 : Tryz.prog.cellsOf 56 = 1 := by kernel_rfl
@[go_sem] theorem tl_56 : tl Tryz.prog 56 = some (false, 1) := by kernel_rfl
@[go_sem] theorem te_56 : te Tryz.prog 56 = some (101, 3, 24) := by kernel_rfl
@[go_sem] theorem tz_56 : tz Tryz.prog 56 = some [.sl 3 []] := by kernel_rfl
@[go_sem] theorem tflat_56 : tflat Tryz.prog 56 = false := by kernel_rfl
@[go_sem] theorem tbool_56 : tbool Tryz.prog 56 = false := by kernel_rfl
@[go_sem] theorem tc_57 : Tryz.prog.cellsOf 57 = 1 := by kernel_rfl
@[go_sem] theorem tl_57 : tl Tryz.prog 57 = some (false, 1) := by kernel_rfl
@[go_sem] theorem te_57 : te Tryz.prog 57 = some (82, 32, 368) := by kernel_rfl
@[go_sem] theorem tz_57 : tz Tryz.prog 57 = some [.sl 32 []] := by kernel_rfl
@[go_sem] theorem tflat_57 : tflat Tryz.prog 57 = false := by kernel_rfl
@[go_sem] theorem tbool_57 : tbool Tryz.prog 57 = false := by kernel_rfl
@[go_sem] theorem tc_58 : Tryz.prog.cellsOf 58 = 1 := by kernel_rfl
@[go_sem] theorem tl_58 : tl Tryz.prog 58 = some (false, 1) := by kernel_rfl
@[go_sem] theorem te_58 : te Tryz.prog 58 = some (85, 1, 24) := by kernel_rfl
@[go_sem] theorem tz_58 : tz Tryz.prog 58 = some [.sl 1 []] := by kernel_rfl
@[go_sem] theorem tflat_58 : tflat Tryz.prog 58 = false := by kernel_rfl
@[go_sem] theorem tbool_58 : tbool Tryz.prog 58 = false := by kernel_rfl
@[go_sem] theorem tc_59 : Tryz.prog.cellsOf 59 = 1 := by kernel_rfl
@[go_sem] theorem tl_59 : tl Tryz.prog 59 = some (false, 1) := by kernel_rfl
@[go_sem] theorem te_59 : te Tryz.prog 59 = some (110, 6, 80) := by kernel_rfl
@[go_sem] theorem tz_59 : tz Tryz.prog 59 = some [.sl 6 []] := by kernel_rfl
@[go_sem] theorem tflat_59 : tflat Tryz.prog 59 = false := by kernel_rfl
@[go_sem] theorem tbool_59 : tbool Tryz.prog 59 = false := by kernel_rfl
@[go_sem] theorem tc_60 : Tryz.prog.cellsOf 60 = 13 := by kernel_rfl
@[go_sem] theorem tl_60 : tl Tryz.prog 60 = some (true, 13) := by kernel_rfl
@[go_sem] theorem te_60 : te Tryz.prog 60 = none := by kernel_rfl
@[go_sem] theorem tp_60 : tp Tryz.prog 60 = some [(0, 8), (8, 1), (9, 1), (10, 1), (11, 1), (12, 1)] := by kernel_rfl
@[go_sem] theorem tf_60_0 : tf Tryz.prog 60 0 = some (0, true, 8) := by kernel_rfl
@[go_sem] theorem tf_60_1 : tf Tryz.prog 60 1 = some (8, false, 1) := by kernel_rfl
@[go_sem] theorem tf_60_2 : tf Tryz.prog 60 2 = some (9, false, 1) := by kernel_rfl
@[go_sem] theorem tf_60_3 : tf Tryz.prog 60 3 = some (10, false, 1) := by kernel_rfl
@[go_sem] theorem tf_60_4 : tf Tryz.prog 60 4 = some (11, false, 1) := by kernel_rfl
@[go_sem] theorem tf_60_5 : tf Tryz.prog 60 5 = some (12, false, 1) := by kernel_rfl
@[go_sem] theorem tz_60 : tz Tryz.prog 60 = some [.sl 1 [], .sl 1 [], .sl 1 [], .sl 1 [], .int .i64 0, .sl 4 [], .sl 1 [], .sl 1 [], .sl 3 [], .sl 32 [], .sl 1 [], .sl 6 [], .int .i64 0] := by kernel_rfl
@[go_sem] theorem tflat_60 : tflat Tryz.prog 60 = false := by kernel_rfl
@[go_sem] theorem tbool_60 : tbool Tryz.prog 60 = false := by kernel_rfl
@[go_sem] theorem tc_61 : Tryz.prog.cellsOf 61 = 13 := by kernel_rfl
@[go_sem] theorem tl_61 : tl Tryz.prog 61 = some (true, 13) := by kernel_rfl
@[go_sem] theorem te_61 : te Tryz.prog 61 = none := by kernel_rfl
@[go_sem] theorem tp_61 : tp Tryz.prog 61 = some [(0, 8), (8, 1), (9, 1), (10, 1), (11, 1), (12, 1)] := by kernel_rfl
@[go_sem] theorem tf_61_0 : tf Tryz.prog 61 0 = some (0, true, 8) := by kernel_rfl
@[go_sem] theorem tf_61_1 : tf Tryz.prog 61 1 = some (8, false, 1) := by kernel_rfl
@[go_sem] theorem tf_61_2 : tf Tryz.prog 61 2 = some (9, false, 1) := by kernel_rfl
@[go_sem] theorem tf_61_3 : tf Tryz.prog 61 3 = some (10, false, 1) := by kernel_rfl
@[go_sem] theorem tf_61_4 : tf Tryz.prog 61 4 = some (11, false, 1) := by kernel_rfl
@[go_sem] theorem tf_61_5 : tf Tryz.prog 61 5 = some (12, false, 1) := by kernel_rfl
@[go_sem] theorem tz_61 : tz Tryz.prog 61 = some [.sl 1 [], .sl 1 [], .sl 1 [], .sl 1 [], .int .i64 0, .sl 4 [], .sl 1 [], .sl 1 [], .sl 3 [], .sl 32 [], .sl 1 [], .sl 6 [], .int .i64 0] := by kernel_rfl
@[go_sem] theorem tflat_61 : tflat Tryz.prog 61 = false := by kernel_rfl
@[go_sem] theorem tbool_61 : tbool Tryz.prog 61 = false := by kernel_rfl
@[go_sem] theorem tc_71 : Tryz.prog.cellsOf 71 = 1 := by kernel_rfl
@[go_sem] theorem tl_71 : tl Tryz.prog 71 = some (false, 1) := by kernel_rfl
@[go_sem] theorem te_71 : te Tryz.prog 71 = some (113, 3, 24) := by kernel_rfl
@[go_sem] theorem tz_71 : tz Tryz.prog 71 = some [.sl 3 []] := by kernel_rfl
@[go_sem] theorem tflat_71 : tflat Tryz.prog 71 = false := by kernel_rfl
@[go_sem] theorem tbool_71 : tbool Tryz.prog 71 = false := by kernel_rfl
@[go_sem] theorem tc_72 : Tryz.prog.cellsOf 72 = 2 := by kernel_rfl
@[go_sem] theorem tl_72 : tl Tryz.prog 72 = some (true, 2) := by kernel_rfl
@[go_sem] theorem te_72 : te Tryz.prog 72 = none := by kernel_rfl
@[go_sem] theorem tp_72 : tp Tryz.prog 72 = some [(0, 1), (1, 1)] := by kernel_rfl
@[go_sem] theorem tf_72_0 : tf Tryz.prog 72 0 = some (0, false, 1) := by kernel_rfl
@[go_sem] theorem tf_72_1 : tf Tryz.prog 72 1 = some (1, false, 1) := by kernel_rfl
@[go_sem] theorem tz_72 : tz Tryz.prog 72 = some [.bool false, .sl 3 []] := by kernel_rfl
@[go_sem] theorem tflat_72 : tflat Tryz.prog 72 = false := by kernel_rfl
@[go_sem] theorem tbool_72 : tbool Tryz.prog 72 = false := by kernel_rfl
@[go_sem] theorem tc_73 : Tryz.prog.cellsOf 73 = 2 := by kernel_rfl
@[go_sem] theorem tl_73 : tl Tryz.prog 73 = some (true, 2) := by kernel_rfl
@[go_sem] theorem te_73 : te Tryz.prog 73 = none := by kernel_rfl
@[go_sem] theorem tp_73 : tp Tryz.prog 73 = some [(0, 1), (1, 1)] := by kernel_rfl
@[go_sem] theorem tf_73_0 : tf Tryz.prog 73 0 = some (0, false, 1) := by kernel_rfl
@[go_sem] theorem tf_73_1 : tf Tryz.prog 73 1 = some (1, false, 1) := by kernel_rfl
@[go_sem] theorem tz_73 : tz Tryz.prog 73 = some [.bool false, .sl 3 []] := by kernel_rfl
@[go_sem] theorem tflat_73 : tflat Tryz.prog 73 = false := by kernel_rfl
@[go_sem] theorem tbool_73 : tbool Tryz.prog 73 = false := by kernel_rfl
@[go_sem] theorem tc_74 : Tryz.prog.cellsOf 74 = 3 := by kernel_rfl
@[go_sem] theorem tl_74 : tl Tryz.prog 74 = some (true, 3) := by kernel_rfl
@[go_sem] theorem te_74 : te Tryz.prog 74 = none := by kernel_rfl
@[go_sem] theorem tp_74 : tp Tryz.prog 74 = some [(0, 1), (1, 1), (2, 1)] := by kernel_rfl
@[go_sem] theorem tf_74_0 : tf Tryz.prog 74 0 = some (0, false, 1) := by kernel_rfl
@[go_sem] theorem tf_74_1 : tf Tryz.prog 74 1 = some (1, false, 1) := by kernel_rfl
@[go_sem] theorem tf_74_2 : tf Tryz.prog 74 2 = some (2, false, 1) := by kernel_rfl
@[go_sem] theorem tz_74 : tz Tryz.prog 74 = some [.int .i64 0, .int .i64 0, .int .i64 0] := by kernel_rfl
@[go_sem] theorem tflat_74 : tflat Tryz.prog 74 = true := by kernel_rfl
@[go_sem] theorem tbool_74 : tbool Tryz.prog 74 = false := by kernel_rfl
@[go_sem] theorem tc_75 : Tryz.prog.cellsOf 75 = 3 := by kernel_rfl
@[go_sem] theorem tl_75 : tl Tryz.prog 75 = some (true, 3) := by kernel_rfl
@[go_sem] theorem te_75 : te Tryz.prog 75 = none := by kernel_rfl
@[go_sem] theorem tp_75 : tp Tryz.prog 75 = some [(0, 1), (1, 1), (2, 1)] := by kernel_rfl
@[go_sem] theorem tf_75_0 : tf Tryz.prog 75 0 = some (0, false, 1) := by kernel_rfl
@[go_sem] theorem tf_75_1 : tf Tryz.prog 75 1 = some (1, false, 1) := by kernel_rfl
@[go_sem] theorem tf_75_2 : tf Tryz.prog 75 2 = some (2, false, 1) := by kernel_rfl
@[go_sem] theorem teq_75 : teq Tryz.prog 75 = some [0, 0, 0] := by kernel_rfl
@[go_sem] theorem tz_75 : tz Tryz.prog 75 = some [.int .i64 0, .int .i64 0, .int .i64 0] := by kernel_rfl
@[go_sem] theorem tflat_75 : tflat Tryz.prog 75 = true := by kernel_rfl
@[go_sem] theorem tbool_75 : tbool Tryz.prog 75 = false := by kernel_rfl
@[go_sem] theorem tc_76 : Tryz.prog.cellsOf 76 = 10 := by kernel_rfl
@[go_sem] theorem tl_76 : tl Tryz.prog 76 = some (true, 10) := by kernel_rfl
@[go_sem] theorem te_76 : te Tryz.prog 76 = none := by kernel_rfl
@[go_sem] theorem tp_76 : tp Tryz.prog 76 = some [(0, 1), (1, 1), (2, 1), (3, 1), (4, 1), (5, 1), (6, 1), (7, 1), (8, 1), (9, 1)] := by kernel_rfl
@[go_sem] theorem tf_76_0 : tf Tryz.prog 76 0 = some (0, false, 1) := by kernel_rfl
@[go_sem] theorem tf_76_1 : tf Tryz.prog 76 1 = some (1, false, 1) := by kernel_rfl
@[go_sem] theorem tf_76_2 : tf Tryz.prog 76 2 = some (2, false, 1) := by kernel_rfl
@[go_sem] theorem tf_76_3 : tf Tryz.prog 76 3 = some (3, false, 1) := by kernel_rfl
@[go_sem] theorem tf_76_4 : tf Tryz.prog 76 4 = some (4, false, 1) := by kernel_rfl
@[go_sem] theorem tf_76_5 : tf Tryz.prog 76 5 = some (5, false, 1) := by kernel_rfl
@[go_sem] theorem tf_76_6 : tf Tryz.prog 76 6 = some (6, false, 1) := by kernel_rfl
@[go_sem] theorem tf_76_7 : tf Tryz.prog 76 7 = some (7, false, 1) := by kernel_rfl
@[go_sem] theorem tf_76_8 : tf Tryz.prog 76 8 = some (8, false, 1) := by kernel_rfl
@[go_sem] theorem tf_76_9 : tf Tryz.prog 76 9 = some (9, false, 1) := by kernel_rfl
@[go_sem] theorem tz_76 : tz Tryz.prog 76 = some [.int .i64 0, .int .i64 0, .int .i64 0, .int .i64 0, .int .i64 0, .int .i64 0, .int .i64 0, .int .i64 0, .int .i64 0, .bool false] := by kernel_rfl
@[go_sem] theorem tflat_76 : tflat Tryz.prog 76 = true := by kernel_rfl
@[go_sem] theorem tbool_76 : tbool Tryz.prog 76 = false := by kernel_rfl
@[go_sem] theorem tc_77 : Tryz.prog.cellsOf 77 = 10 := by kernel_rfl
@[go_sem] theorem tl_77 : tl Tryz.prog 77 = some (true, 10) := by kernel_rfl
@[go_sem] theorem te_77 : te Tryz.prog 77 = none := by kernel_rfl
@[go_sem] theorem tp_77 : tp Tryz.prog 77 = some [(0, 1), (1, 1), (2, 1), (3, 1), (4, 1), (5, 1), (6, 1), (7, 1), (8, 1), (9, 1)] := by kernel_rfl
@[go_sem] theorem tf_77_0 : tf Tryz.prog 77 0 = some (0, false, 1) := by kernel_rfl
@[go_sem] theorem tf_77_1 : tf Tryz.prog 77 1 = some (1, false, 1) := by kernel_rfl
@[go_sem] theorem tf_77_2 : tf Tryz.prog 77 2 = some (2, false, 1) := by kernel_rfl
@[go_sem] theorem tf_77_3 : tf Tryz.prog 77 3 = some (3, false, 1) := by kernel_rfl
@[go_sem] theorem tf_77_4 : tf Tryz.prog 77 4 = some (4, false, 1) := by kernel_rfl
@[go_sem] theorem tf_77_5 : tf Tryz.prog 77 5 = some (5, false, 1) := by kernel_rfl
@[go_sem] theorem tf_77_6 : tf Tryz.prog 77 6 = some (6, false, 1) := by kernel_rfl
@[go_sem] theorem tf_77_7 : tf Tryz.prog 77 7 = some (7, false, 1) := by kernel_rfl
@[go_sem] theorem tf_77_8 : tf Tryz.prog 77 8 = some (8, false, 1) := by kernel_rfl
@[go_sem] theorem tf_77_9 : tf Tryz.prog 77 9 = some (9, false, 1) := by kernel_rfl
@[go_sem] theorem teq_77 : teq Tryz.prog 77 = some [0, 0, 0, 0, 0, 0, 0, 0, 0, 1] := by kernel_rfl
@[go_sem] theorem tz_77 : tz Tryz.prog 77 = some [.int .i64 0, .int .i64 0, .int .i64 0, .int .i64 0, .int .i64 0, .int .i64 0, .int .i64 0, .int .i64 0, .int .i64 0, .bool false] := by kernel_rfl
@[go_sem] theorem tflat_77 : tflat Tryz.prog 77 = true := by kernel_rfl
@[go_sem] theorem tbool_77 : tbool Tryz.prog 77 = false := by kernel_rfl
@[go_sem] theorem tc_78 : Tryz.prog.cellsOf 78 = 1 := by kernel_rfl
@[go_sem] theorem tl_78 : tl Tryz.prog 78 = some (false, 1) := by kernel_rfl
@[go_sem] theorem te_78 : te Tryz.prog 78 = some (158, 2, 16) := by kernel_rfl
@[go_sem] theorem tz_78 : tz Tryz.prog 78 = some [.sl 2 []] := by kernel_rfl
@[go_sem] theorem tflat_78 : tflat Tryz.prog 78 = false := by kernel_rfl
@[go_sem] theorem tbool_78 : tbool Tryz.prog 78 = false := by kernel_rfl
@[go_sem] theorem tc_79 : Tryz.prog.cellsOf 79 = 1 := by kernel_rfl
@[go_sem] theorem tl_79 : tl Tryz.prog 79 = some (false, 1) := by kernel_rfl
@[go_sem] theorem te_79 : te Tryz.prog 79 = some (161, 3, 24) := by kernel_rfl
@[go_sem] theorem tz_79 : tz Tryz.prog 79 = some [.sl 3 []] := by kernel_rfl
@[go_sem] theorem tflat_79 : tflat Tryz.prog 79 = false := by kernel_rfl
@[go_sem] theorem tbool_79 : tbool Tryz.prog 79 = false := by kernel_rfl
@[go_sem] theorem tc_80 : Tryz.prog.cellsOf 80 = 1 := by kernel_rfl
@[go_sem] theorem tl_80 : tl Tryz.prog 80 = some (false, 1) := by kernel_rfl
@[go_sem] theorem te_80 : te Tryz.prog 80 = some (116, 2, 16) := by kernel_rfl
@[go_sem] theorem tz_80 : tz Tryz.prog 80 = some [.sl 2 []] := by kernel_rfl
@[go_sem] theorem tflat_80 : tflat Tryz.prog 80 = false := by kernel_rfl
@[go_sem] theorem tbool_80 : tbool Tryz.prog 80 = false := by kernel_rfl
@[go_sem] theorem tc_81 : Tryz.prog.cellsOf 81 = 32 := by kernel_rfl
@[go_sem] theorem tl_81 : tl Tryz.prog 81 = some (true, 32) := by kernel_rfl
@[go_sem] theorem te_81 : te Tryz.prog 81 = none := by kernel_rfl
@[go_sem] theorem tp_81 : tp Tryz.prog 81 = some [(0, 1), (1, 2), (3, 1), (4, 1), (5, 1), (6, 1), (7, 1), (8, 1), (9, 1), (10, 1), (11, 3), (14, 1), (15, 1), (16, 10), (26, 1), (27, 1), (28, 1), (29, 1), (30, 1), (31, 1)] := by kernel_rfl
@[go_sem] theorem tf_81_0 : tf Tryz.prog 81 0 = some (0, false, 1) := by kernel_rfl
@[go_sem] theorem tf_81_1 : tf Tryz.prog 81 1 = some (1, true, 2) := by kernel_rfl
@[go_sem] theorem tf_81_2 : tf Tryz.prog 81 2 = some (3, false, 1) := by kernel_rfl
@[go_sem] theorem tf_81_3 : tf Tryz.prog 81 3 = some (4, false, 1) := by kernel_rfl
@[go_sem] theorem tf_81_4 : tf Tryz.prog 81 4 = some (5, false, 1) := by kernel_rfl
@[go_sem] theorem tf_81_5 : tf Tryz.prog 81 5 = some (6, false, 1) := by kernel_rfl
@[go_sem] theorem tf_81_6 : tf Tryz.prog 81 6 = some (7, false, 1) := by kernel_rfl
@[go_sem] theorem tf_81_7 : tf Tryz.prog 81 7 = some (8, false, 1) := by kernel_rfl
@[go_sem] theorem tf_81_8 : tf Tryz.prog 81 8 = some (9, false, 1) := by kernel_rfl
@[go_sem] theorem tf_81_9 : tf Tryz.prog 81 9 = some (10, false, 1) := by kernel_rfl
@[go_sem] theorem tf_81_10 : tf Tryz.prog 81 10 = some (11, true, 3) := by kernel_rfl
@[go_sem] theorem tf_81_11 : tf Tryz.prog 81 11 = some (14, false, 1) := by kernel_rfl
@[go_sem] theorem tf_81_12 : tf Tryz.prog 81 12 = some (15, false, 1) := by kernel_rfl
@[go_sem] theorem tf_81_13 : tf Tryz.prog 81 13 = some (16, true, 10) := by kernel_rfl
@[go_sem] theorem tf_81_14 : tf Tryz.prog 81 14 = some (26, false, 1) := by kernel_rfl
@[go_sem] theorem tf_81_15 : tf Tryz.prog 81 15 = some (27, false, 1) := by kernel_rfl
@[go_sem] theorem tf_81_16 : tf Tryz.prog 81 16 = some (28, false, 1) := by kernel_rfl
@[go_sem] theorem tf_81_17 : tf Tryz.prog 81 17 = some (29, false, 1) := by kernel_rfl
@[go_sem] theorem tf_81_18 : tf Tryz.prog 81 18 = some (30, false, 1) := by kernel_rfl
@[go_sem] theorem tf_81_19 : tf Tryz.prog 81 19 = some (31, false, 1) := by kernel_rfl
@[go_sem] theorem tz_81 : tz Tryz.prog 81 = some [.bool false, .bool false, .sl 3 [], .int .i64 0, .int .i64 0, .int .i64 0, .int .i64 0, .int .i64 0, .int .i64 0, .int .i64 0, .int .i64 0, .int .i64 0, .int .i64 0, .int .i64 0, .bool false, .int .i64 0, .int .i64 0, .int .i64 0, .int .i64 0, .int .i64 0, .int .i64 0, .int .i64 0, .int .i64 0, .int .i64 0, .int .i64 0, .bool false, .sl 2 [], .sl 3 [], .sl 2 [], .sl 1 [], .sl 1 [], .sl 1 []] := by kernel_rfl
@[go_sem] theorem tflat_81 : tflat Tryz.prog 81 = false := by kernel_rfl
@[go_sem] theorem tbool_81 : tbool Tryz.prog 81 = false := by kernel_rfl
@[go_sem] theorem tc_82 : Tryz.prog.cellsOf 82 = 32 := by kernel_rfl
@[go_sem] theorem tl_82 : tl Tryz.prog 82 = some (true, 32) := by kernel_rfl
@[go_sem] theorem te_82 : te Tryz.prog 82 = none := by kernel_rfl
@[go_sem] theorem tp_82 : tp Tryz.prog 82 = some [(0, 1), (1, 2), (3, 1), (4, 1), (5, 1), (6, 1), (7, 1), (8, 1), (9, 1), (10, 1), (11, 3), (14, 1), (15, 1), (16, 10), (26, 1), (27, 1), (28, 1), (29, 1), (30, 1), (31, 1)] := by kernel_rfl
@[go_sem] theorem tf_82_0 : tf Tryz.prog 82 0 = some (0, false, 1) := by kernel_rfl
@[go_sem] theorem tf_82_1 : tf Tryz.prog 82 1 = some (1, true, 2) := by kernel_rfl
@[go_sem] theorem tf_82_2 : tf Tryz.prog 82 2 = some (3, false, 1) := by kernel_rfl
@[go_sem] theorem tf_82_3 : tf Tryz.prog 82 3 = some (4, false, 1) := by kernel_rfl
@[go_sem] theorem tf_82_4 : tf Tryz.prog 82 4 = some (5, false, 1) := by kernel_rfl
@[go_sem] theorem tf_82_5 : tf Tryz.prog 82 5 = some (6, false, 1) := by kernel_rfl
@[go_sem] theorem tf_82_6 : tf Tryz.prog 82 6 = some (7, false, 1) := by kernel_rfl
@[go_sem] theorem tf_82_7 : tf Tryz.prog 82 7 = some (8, false, 1) := by kernel_rfl
@[go_sem] theorem tf_82_8 : tf Tryz.prog 82 8 = some (9, false, 1) := by kernel_rfl
@[go_sem] theorem tf_82_9 : tf Tryz.prog 82 9 = some (10, false, 1) := by kernel_rfl
@[go_sem] theorem tf_82_10 : tf Tryz.prog 82 10 = some (11, true, 3) := by kernel_rfl
@[go_sem] theorem tf_82_11 : tf Tryz.prog 82 11 = some (14, false, 1) := by kernel_rfl
@[go_sem] theorem tf_82_12 : tf Tryz.prog 82 12 = some (15, false, 1) := by kernel_rfl
@[go_sem] theorem tf_82_13 : tf Tryz.prog 82 13 = some (16, true, 10) := by kernel_rfl
@[go_sem] theorem tf_82_14 : tf Tryz.prog 82 14 = some (26, false, 1) := by kernel_rfl
@[go_sem] theorem tf_82_15 : tf Tryz.prog 82 15 = some (27, false, 1) := by kernel_rfl
@[go_sem] theorem tf_82_16 : tf Tryz.prog 82 16 = some (28, false, 1) := by kernel_rfl
@[go_sem] theorem tf_82_17 : tf Tryz.prog 82 17 = some (29, false, 1) := by kernel_rfl
@[go_sem] theorem tf_82_18 : tf Tryz.prog 82 18 = some (30, false, 1) := by kernel_rfl
@[go_sem] theorem tf_82_19 : tf Tryz.prog 82 19 = some (31, false, 1) := by kernel_rfl
@[go_sem] theorem tz_82 : tz Tryz.prog 82 = some [.bool false, .bool false, .sl 3 [], .int .i64 0, .int .i64 0, .int .i64 0, .int .i64 0, .int .i64 0, .int .i64 0, .int .i64 0, .int .i64 0, .int .i64 0, .int .i64 0, .int .i64 0, .bool false, .int .i64 0, .int .i64 0, .int .i64 0, .int .i64 0, .int .i64 0, .int .i64 0, .int .i64 0, .int .i64 0, .int .i64 0, .int .i64 0, .bool false, .sl 2 [], .sl 3 [], .sl 2 [], .sl 1 [], .sl 1 [], .sl 1 []] := by kernel_rfl
@[go_sem] theorem tflat_82 : tflat Tryz.prog 82 = false := by kernel_rfl
@[go_sem] theorem tbool_82 : tbool Tryz.prog 82 = false := by kernel_rfl
@[go_sem] theorem tc_83 : Tryz.prog.cellsOf 83 = 1 := by kernel_rfl
@[go_sem] theorem tl_83 : tl Tryz.prog 83 = some (false, 1) := by kernel_rfl
@[go_sem] theorem te_83 : te Tryz.prog 83 = some (73, 2, 32) := by kernel_rfl
@[go_sem] theorem tz_83 : tz Tryz.prog 83 = some [.sl 2 []] := by kernel_rfl
@[go_sem] theorem tflat_83 : tflat Tryz.prog 83 = false := by kernel_rfl
@[go_sem] theorem tbool_83 : tbool Tryz.prog 83 = false := by kernel_rfl
@[go_sem] theorem tc_84 : Tryz.prog.cellsOf 84 = 1 := by kernel_rfl
@[go_sem] theorem tl_84 : tl Tryz.prog 84 = some (true, 1) := by kernel_rfl
@[go_sem] theorem te_84 : te Tryz.prog 84 = none := by kernel_rfl
@[go_sem] theorem tp_84 : tp Tryz.prog 84 = some [(0, 1)] := by kernel_rfl
@[go_sem] theorem tf_84_0 : tf Tryz.prog 84 0 = some (0, false, 1) := by kernel_rfl
@[go_sem] theorem tz_84 : tz Tryz.prog 84 = some [.sl 2 []] := by kernel_rfl
@[go_sem] theorem tflat_84 : tflat Tryz.prog 84 = false := by kernel_rfl
@[go_sem] theorem tbool_84 : tbool Tryz.prog 84 = false := by kernel_rfl
@[go_sem] theorem tc_85 : Tryz.prog.cellsOf 85 = 1 := by kernel_rfl
@[go_sem] theorem tl_85 : tl Tryz.prog 85 = some (true, 1) := by kernel_rfl
@[go_sem] theorem te_85 : te Tryz.prog 85 = none := by kernel_rfl
@[go_sem] theorem tp_85 : tp Tryz.prog 85 = some [(0, 1)] := by kernel_rfl
@[go_sem] theorem tf_85_0 : tf Tryz.prog 85 0 = some (0, false, 1) := by kernel_rfl
@[go_sem] theorem tz_85 : tz Tryz.prog 85 = some [.sl 2 []] := by kernel_rfl
@[go_sem] theorem tflat_85 : tflat Tryz.prog 85 = false := by kernel_rfl
@[go_sem] theorem tbool_85 : tbool Tryz.prog 85 = false := by kernel_rfl
@[go_sem] theorem tc_100 : Tryz.prog.cellsOf 100 = 3 := by kernel_rfl
@[go_sem] theorem tl_100 : tl Tryz.prog 100 = some (true, 3) := by kernel_rfl
@[go_sem] theorem te_100 : te Tryz.prog 100 = none := by kernel_rfl
@[go_sem] theorem tp_100 : tp Tryz.prog 100 = some [(0, 1), (1, 1), (2, 1)] := by kernel_rfl
@[go_sem] theorem tf_100_0 : tf Tryz.prog 100 0 = some (0, false, 1) := by kernel_rfl
@[go_sem] theorem tf_100_1 : tf Tryz.prog 100 1 = some (1, false, 1) := by kernel_rfl
@[go_sem] theorem tf_100_2 : tf Tryz.prog 100 2 = some (2, false, 1) := by kernel_rfl
@[go_sem] theorem tz_100 : tz Tryz.prog 100 = some [.int .i64 0, .int .i64 0, .int .i64 0] := by kernel_rfl
@[go_sem] theorem tflat_100 : tflat Tryz.prog 100 = true := by kernel_rfl
@[go_sem] theorem tbool_100 : tbool Tryz.prog 100 = false := by kernel_rfl
@[go_sem] theorem tc_101 : Tryz.prog.cellsOf 101 = 3 := by kernel_rfl
@[go_sem] theorem tl_101 : tl Tryz.prog 101 = some (true, 3) := by kernel_rfl
@[go_sem] theorem te_101 : te Tryz.prog 101 = none := by kernel_rfl
@[go_sem] theorem tp_101 : tp Tryz.prog 101 = some [(0, 1), (1, 1), (2, 1)] := by kernel_rfl
@[go_sem] theorem tf_101_0 : tf Tryz.prog 101 0 = some (0, false, 1) := by kernel_rfl
@[go_sem] theorem tf_101_1 : tf Tryz.prog 101 1 = some (1, false, 1) := by kernel_rfl
@[go_sem] theorem tf_101_2 : tf Tryz.prog 101 2 = some (2, false, 1) := by kernel_rfl
@[go_sem] theorem teq_101 : teq Tryz.prog 101 = some [0, 0, 0] := by kernel_rfl
@[go_sem] theorem tz_101 : tz Tryz.prog 101 = some [.int .i64 0, .int .i64 0, .int .i64 0] := by kernel_rfl
@[go_sem] theorem tflat_101 : tflat Tryz.prog 101 = true := by kernel_rfl
@[go_sem] theorem tbool_101 : tbool Tryz.prog 101 = false := by kernel_rfl
@[go_sem] theorem tc_109 : Tryz.prog.cellsOf 109 = 6 := by kernel_rfl
@[go_sem] theorem tl_109 : tl Tryz.prog 109 = some (true, 6) := by kernel_rfl
@[go_sem] theorem te_109 : te Tryz.prog 109 = none := by kernel_rfl
@[go_sem] theorem tp_109 : tp Tryz.prog 109 = some [(0, 1), (1, 1), (2, 1), (3, 1), (4, 1), (5, 1)] := by kernel_rfl
@[go_sem] theorem tf_109_0 : tf Tryz.prog 109 0 = some (0, false, 1) := by kernel_rfl
@[go_sem] theorem tf_109_1 : tf Tryz.prog 109 1 = some (1, false, 1) := by kernel_rfl
@[go_sem] theorem tf_109_2 : tf Tryz.prog 109 2 = some (2, false, 1) := by kernel_rfl
@[go_sem] theorem tf_109_3 : tf Tryz.prog 109 3 = some (3, false, 1) := by kernel_rfl
@[go_sem] theorem tf_109_4 : tf Tryz.prog 109 4 = some (4, false, 1) := by kernel_rfl
@[go_sem] theorem tf_109_5 : tf Tryz.prog 109 5 = some (5, false, 1) := by kernel_rfl
@[go_sem] theorem tz_109 : tz Tryz.prog 109 = some [.int .i64 0, .int .i64 0, .int .i64 0, .int .i64 0, .sl 3 [], .sl 2 []] := by kernel_rfl
@[go_sem] theorem tflat_109 : tflat Tryz.prog 109 = false := by kernel_rfl
@[go_sem] theorem tbool_109 : tbool Tryz.prog 109 = false := by kernel_rfl
@[go_sem] theorem tc_110 : Tryz.prog.cellsOf 110 = 6 := by kernel_rfl
@[go_sem] theorem tl_110 : tl Tryz.prog 110 = some (true, 6) := by kernel_rfl
@[go_sem] theorem te_110 : te Tryz.prog 110 = none := by kernel_rfl
@[go_sem] theorem tp_110 : tp Tryz.prog 110 = some [(0, 1), (1, 1), (2, 1), (3, 1), (4, 1), (5, 1)] := by kernel_rfl
@[go_sem] theorem tf_110_0 : tf Tryz.prog 110 0 = some (0, false, 1) := by kernel_rfl
@[go_sem] theorem tf_110_1 : tf Tryz.prog 110 1 = some (1, false, 1) := by kernel_rfl
@[go_sem] theorem tf_110_2 : tf Tryz.prog 110 2 = some (2, false, 1) := by kernel_rfl
@[go_sem] theorem tf_110_3 : tf Tryz.prog 110 3 = some (3, false, 1) := by kernel_rfl
@[go_sem] theorem tf_110_4 : tf Tryz.prog 110 4 = some (4, false, 1) := by kernel_rfl
@[go_sem] theorem tf_110_5 : tf Tryz.prog 110 5 = some (5, false, 1) := by kernel_rfl
@[go_sem] theorem tz_110 : tz Tryz.prog 110 = some [.int .i64 0, .int .i64 0, .int .i64 0, .int .i64 0, .sl 3 [], .sl 2 []] := by kernel_rfl
@[go_sem] theorem tflat_110 : tflat Tryz.prog 110 = false := by kernel_rfl
@[go_sem] theorem tbool_110 : tbool Tryz.prog 110 = false := by kernel_rfl
@[go_sem] theorem tc_112 : Tryz.prog.cellsOf 112 = 3 := by kernel_rfl
@[go_sem] theorem tl_112 : tl Tryz.prog 112 = some (true, 3) := by kernel_rfl
@[go_sem] theorem te_112 : te Tryz.prog 112 = none := by kernel_rfl
@[go_sem] theorem tp_112 : tp Tryz.prog 112 = some [(0, 1), (1, 1), (2, 1)] := by kernel_rfl
@[go_sem] theorem tf_112_0 : tf Tryz.prog 112 0 = some (0, false, 1) := by kernel_rfl
@[go_sem] theorem tf_112_1 : tf Tryz.prog 112 1 = some (1, false, 1) := by kernel_rfl
@[go_sem] theorem tf_112_2 : tf Tryz.prog 112 2 = some (2, false, 1) := by kernel_rfl
@[go_sem] theorem tz_112 : tz Tryz.prog 112 = some [.int .i64 0, .int .i64 0, .int .i64 0] := by kernel_rfl
@[go_sem] theorem tflat_112 : tflat Tryz.prog 112 = true := by kernel_rfl
@[go_sem] theorem tbool_112 : tbool Tryz.prog 112 = false := by kernel_rfl
@[go_sem] theorem tc_113 : Tryz.prog.cellsOf 113 = 3 := by kernel_rfl
@[go_sem] theorem tl_113 : tl Tryz.prog 113 = some (true, 3) := by kernel_rfl
@[go_sem] theorem te_113 : te Tryz.prog 113 = none := by kernel_rfl
@[go_sem] theorem tp_113 : tp Tryz.prog 113 = some [(0, 1), (1, 1), (2, 1)] := by kernel_rfl
@[go_sem] theorem tf_113_0 : tf Tryz.prog 113 0 = some (0, false, 1) := by kernel_rfl
@[go_sem] theorem tf_113_1 : tf Tryz.prog 113 1 = some (1, false, 1) := by kernel_rfl
@[go_sem] theorem tf_113_2 : tf Tryz.prog 113 2 = some (2, false, 1) := by kernel_rfl
@[go_sem] theorem teq_113 : teq Tryz.prog 113 = some [0, 0, 0] := by kernel_rfl
@[go_sem] theorem tz_113 : tz Tryz.prog 113 = some [.int .i64 0, .int .i64 0, .int .i64 0] := by kernel_rfl
@[go_sem] theorem tflat_113 : tflat Tryz.prog 113 = true := by kernel_rfl
@[go_sem] theorem tbool_113 : tbool Tryz.prog 113 = false := by kernel_rfl
@[go_sem] theorem tc_115 : Tryz.prog.cellsOf 115 = 2 := by kernel_rfl
@[go_sem] theorem tl_115 : tl Tryz.prog 115 = some (true, 2) := by kernel_rfl
@[go_sem] theorem te_115 : te Tryz.prog 115 = none := by kernel_rfl
@[go_sem] theorem tp_115 : tp Tryz.prog 115 = some [(0, 1), (1, 1)] := by kernel_rfl
@[go_sem] theorem tf_115_0 : tf Tryz.prog 115 0 = some (0, false, 1) := by kernel_rfl
@[go_sem] theorem tf_115_1 : tf Tryz.prog 115 1 = some (1, false, 1) := by kernel_rfl
@[go_sem] theorem tz_115 : tz Tryz.prog 115 = some [.bool false, .int .i64 0] := by kernel_rfl
@[go_sem] theorem tflat_115 : tflat Tryz.prog 115 = true := by kernel_rfl
@[go_sem] theorem tbool_115 : tbool Tryz.prog 115 = false := by kernel_rfl
@[go_sem] theorem tc_116 : Tryz.prog.cellsOf 116 = 2 := by kernel_rfl
@[go_sem] theorem tl_116 : tl Tryz.prog 116 = some (true, 2) := by kernel_rfl
@[go_sem] theorem te_116 : te Tryz.prog 116 = none := by kernel_rfl
@[go_sem] theorem tp_116 : tp Tryz.prog 116 = some [(0, 1), (1, 1)] := by kernel_rfl
@[go_sem] theorem tf_116_0 : tf Tryz.prog 116 0 = some (0, false, 1) := by kernel_rfl
@[go_sem] theorem tf_116_1 : tf Tryz.prog 116 1 = some (1, false, 1) := by kernel_rfl
@[go_sem] theorem teq_116 : teq Tryz.prog 116 = some [1, 0] := by kernel_rfl
@[go_sem] theorem tz_116 : tz Tryz.prog 116 = some [.bool false, .int .i64 0] := by kernel_rfl
@[go_sem] theorem tflat_116 : tflat Tryz.prog 116 = true := by kernel_rfl
@[go_sem] theorem tbool_116 : tbool Tryz.prog 116 = false := by kernel_rfl
@[go_sem] theorem tc_123 : Tryz.prog.cellsOf 123 = 1 := by kernel_rfl
@[go_sem] theorem tl_123 : tl Tryz.prog 123 = some (false, 1) := by kernel_rfl
@[go_sem] theorem te_123 : te Tryz.prog 123 = some (216, 3, 24) := by kernel_rfl
@[go_sem] theorem tz_123 : tz Tryz.prog 123 = some [.sl 3 []] := by kernel_rfl
@[go_sem] theorem tflat_123 : tflat Tryz.prog 123 = false := by kernel_rfl
@[go_sem] theorem tbool_123 : tbool Tryz.prog 123 = false := by kernel_rfl
@[go_sem] theorem tc_124 : Tryz.prog.cellsOf 124 = 2 := by kernel_rfl
@[go_sem] theorem tl_124 : tl Tryz.prog 124 = some (true, 2) := by kernel_rfl
@[go_sem] theorem te_124 : te Tryz.prog 124 = none := by kernel_rfl
@[go_sem] theorem tp_124 : tp Tryz.prog 124 = some [(0, 1), (1, 1)] := by kernel_rfl
@[go_sem] theorem tf_124_0 : tf Tryz.prog 124 0 = some (0, false, 1) := by kernel_rfl
@[go_sem] theorem tf_124_1 : tf Tryz.prog 124 1 = some (1, false, 1) := by kernel_rfl
@[go_sem] theorem tz_124 : tz Tryz.prog 124 = some [.bool false, .sl 3 []] := by kernel_rfl
@[go_sem] theorem tflat_124 : tflat Tryz.prog 124 = false := by kernel_rfl
@[go_sem] theorem tbool_124 : tbool Tryz.prog 124 = false := by kernel_rfl
@[go_sem] theorem tc_125 : Tryz.prog.cellsOf 125 = 2 := by kernel_rfl
@[go_sem] theorem tl_125 : tl Tryz.prog 125 = some (true, 2) := by kernel_rfl
@[go_sem] theorem te_125 : te Tryz.prog 125 = none := by kernel_rfl
@[go_sem] theorem tp_125 : tp Tryz.prog 125 = some [(0, 1), (1, 1)] := by kernel_rfl
@[go_sem] theorem tf_125_0 : tf Tryz.prog 125 0 = some (0, false, 1) := by kernel_rfl
@[go_sem] theorem tf_125_1 : tf Tryz.prog 125 1 = some (1, false, 1) := by kernel_rfl
@[go_sem] theorem tz_125 : tz Tryz.prog 125 = some [.bool false, .sl 3 []] := by kernel_rfl
@[go_sem] theorem tflat_125 : tflat Tryz.prog 125 = false := by kernel_rfl
@[go_sem] theorem tbool_125 : tbool Tryz.prog 125 = false := by kernel_rfl
@[go_sem] theorem tc_126 : Tryz.prog.cellsOf 126 = 3 := by kernel_rfl
@[go_sem] theorem tl_126 : tl Tryz.prog 126 = some (true, 3) := by kernel_rfl
@[go_sem] theorem te_126 : te Tryz.prog 126 = none := by kernel_rfl
@[go_sem] theorem tp_126 : tp Tryz.prog 126 = some [(0, 1), (1, 1), (2, 1)] := by kernel_rfl
@[go_sem] theorem tf_126_0 : tf Tryz.prog 126 0 = some (0, false, 1) := by kernel_rfl
@[go_sem] theorem tf_126_1 : tf Tryz.prog 126 1 = some (1, false, 1) := by kernel_rfl
@[go_sem] theorem tf_126_2 : tf Tryz.prog 126 2 = some (2, false, 1) := by kernel_rfl
@[go_sem] theorem teq_126 : teq Tryz.prog 126 = some [0, 0, 0] := by kernel_rfl
@[go_sem] theorem tz_126 : tz Tryz.prog 126 = some [.int .i64 0, .int .i64 0, .int .i64 0] := by kernel_rfl
@[go_sem] theorem tflat_126 : tflat Tryz.prog 126 = true := by kernel_rfl
@[go_sem] theorem tbool_126 : tbool Tryz.prog 126 = false := by kernel_rfl
@[go_sem] theorem tc_127 : Tryz.prog.cellsOf 127 = 10 := by kernel_rfl
@[go_sem] theorem tl_127 : tl Tryz.prog 127 = some (true, 10) := by kernel_rfl
@[go_sem] theorem te_127 : te Tryz.prog 127 = none := by kernel_rfl
@[go_sem] theorem tp_127 : tp Tryz.prog 127 = some [(0, 1), (1, 1), (2, 1), (3, 1), (4, 1), (5, 1), (6, 1), (7, 1), (8, 1), (9, 1)] := by kernel_rfl
@[go_sem] theorem tf_127_0 : tf Tryz.prog 127 0 = some (0, false, 1) := by kernel_rfl
@[go_sem] theorem tf_127_1 : tf Tryz.prog 127 1 = some (1, false, 1) := by kernel_rfl
@[go_sem] theorem tf_127_2 : tf Tryz.prog 127 2 = some (2, false, 1) := by kernel_rfl
@[go_sem] theorem tf_127_3 : tf Tryz.prog 127 3 = some (3, false, 1) := by kernel_rfl
@[go_sem] theorem tf_127_4 : tf Tryz.prog 127 4 = some (4, false, 1) := by kernel_rfl
@[go_sem] theorem tf_127_5 : tf Tryz.prog 127 5 = some (5, false, 1) := by kernel_rfl
@[go_sem] theorem tf_127_6 : tf Tryz.prog 127 6 = some (6, false, 1) := by kernel_rfl
@[go_sem] theorem tf_127_7 : tf Tryz.prog 127 7 = some (7, false, 1) := by kernel_rfl
@[go_sem] theorem tf_127_8 : tf Tryz.prog 127 8 = some (8, false, 1) := by kernel_rfl
@[go_sem] theorem tf_127_9 : tf Tryz.prog 127 9 = some (9, false, 1) := by kernel_rfl
@[go_sem] theorem teq_127 : teq Tryz.prog 127 = some [0, 0, 0, 0, 0, 0, 0, 0, 0, 1] := by kernel_rfl
@[go_sem] theorem tz_127 : tz Tryz.prog 127 = some [.int .i64 0, .int .i64 0, .int .i64 0, .int .i64 0, .int .i64 0, .int .i64 0, .int .i64 0, .int .i64 0, .int .i64 0, .bool false] := by kernel_rfl
@[go_sem] theorem tflat_127 : tflat Tryz.prog 127 = true := by kernel_rfl
@[go_sem] theorem tbool_127 : tbool Tryz.prog 127 = false := by kernel_rfl
@[go_sem] theorem tc_128 : Tryz.prog.cellsOf 128 = 1 := by kernel_rfl
@[go_sem] theorem tl_128 : tl Tryz.prog 128 = some (false, 1) := by kernel_rfl
@[go_sem] theorem te_128 : te Tryz.prog 128 = some (210, 2, 16) := by kernel_rfl
@[go_sem] theorem tz_128 : tz Tryz.prog 128 = some [.sl 2 []] := by kernel_rfl
@[go_sem] theorem tflat_128 : tflat Tryz.prog 128 = false := by kernel_rfl
@[go_sem] theorem tbool_128 : tbool Tryz.prog 128 = false := by kernel_rfl
@[go_sem] theorem tc_129 : Tryz.prog.cellsOf 129 = 1 := by kernel_rfl
@[go_sem] theorem tl_129 : tl Tryz.prog 129 = some (false, 1) := by kernel_rfl
@[go_sem] theorem te_129 : te Tryz.prog 129 = some (212, 3, 24) := by kernel_rfl
@[go_sem] theorem tz_129 : tz Tryz.prog 129 = some [.sl 3 []] := by kernel_rfl
@[go_sem] theorem tflat_129 : tflat Tryz.prog 129 = false := by kernel_rfl
@[go_sem] theorem tbool_129 : tbool Tryz.prog 129 = false := by kernel_rfl
@[go_sem] theorem tc_130 : Tryz.prog.cellsOf 130 = 1 := by kernel_rfl
@[go_sem] theorem tl_130 : tl Tryz.prog 130 = some (false, 1) := by kernel_rfl
@[go_sem] theorem te_130 : te Tryz.prog 130 = some (214, 2, 16) := by kernel_rfl
@[go_sem] theorem tz_130 : tz Tryz.prog 130 = some [.sl 2 []] := by kernel_rfl
@[go_sem] theorem tflat_130 : tflat Tryz.prog 130 = false := by kernel_rfl
@[go_sem] theorem tbool_130 : tbool Tryz.prog 130 = false := by kernel_rfl
@[go_sem] theorem tc_131 : Tryz.prog.cellsOf 131 = 32 := by kernel_rfl
@[go_sem] theorem tl_131 : tl Tryz.prog 131 = some (true, 32) := by kernel_rfl
@[go_sem] theorem te_131 : te Tryz.prog 131 = none := by kernel_rfl
@[go_sem] theorem tp_131 : tp Tryz.prog 131 = some [(0, 1), (1, 2), (3, 1), (4, 1), (5, 1), (6, 1), (7, 1), (8, 1), (9, 1), (10, 1), (11, 3), (14, 1), (15, 1), (16, 10), (26, 1), (27, 1), (28, 1), (29, 1), (30, 1), (31, 1)] := by kernel_rfl
@[go_sem] theorem tf_131_0 : tf Tryz.prog 131 0 = some (0, false, 1) := by kernel_rfl
@[go_sem] theorem tf_131_1 : tf Tryz.prog 131 1 = some (1, true, 2) := by kernel_rfl
@[go_sem] theorem tf_131_2 : tf Tryz.prog 131 2 = some (3, false, 1) := by kernel_rfl
@[go_sem] theorem tf_131_3 : tf Tryz.prog 131 3 = some (4, false, 1) := by kernel_rfl
@[go_sem] theorem tf_131_4 : tf Tryz.prog 131 4 = some (5, false, 1) := by kernel_rfl
@[go_sem] theorem tf_131_5 : tf Tryz.prog 131 5 = some (6, false, 1) := by kernel_rfl
@[go_sem] theorem tf_131_6 : tf Tryz.prog 131 6 = some (7, false, 1) := by kernel_rfl
@[go_sem] theorem tf_131_7 : tf Tryz.prog 131 7 = some (8, false, 1) := by kernel_rfl
@[go_sem] theorem tf_131_8 : tf Tryz.prog 131 8 = some (9, false, 1) := by kernel_rfl
@[go_sem] theorem tf_131_9 : tf Tryz.prog 131 9 = some (10, false, 1) := by kernel_rfl
@[go_sem] theorem tf_131_10 : tf Tryz.prog 131 10 = some (11, true, 3) := by kernel_rfl
@[go_sem] theorem tf_131_11 : tf Tryz.prog 131 11 = some (14, false, 1) := by kernel_rfl
@[go_sem] theorem tf_131_12 : tf Tryz.prog 131 12 = some (15, false, 1) := by kernel_rfl
@[go_sem] theorem tf_131_13 : tf Tryz.prog 131 13 = some (16, true, 10) := by kernel_rfl
@[go_sem] theorem tf_131_14 : tf Tryz.prog 131 14 = some (26, false, 1) := by kernel_rfl
@[go_sem] theorem tf_131_15 : tf Tryz.prog 131 15 = some (27, false, 1) := by kernel_rfl
@[go_sem] theorem tf_131_16 : tf Tryz.prog 131 16 = some (28, false, 1) := by kernel_rfl
@[go_sem] theorem tf_131_17 : tf Tryz.prog 131 17 = some (29, false, 1) := by kernel_rfl
@[go_sem] theorem tf_131_18 : tf Tryz.prog 131 18 = some (30, false, 1) := by kernel_rfl
@[go_sem] theorem tf_131_19 : tf Tryz.prog 131 19 = some (31, false, 1) := by kernel_rfl
@[go_sem] theorem tz_131 : tz Tryz.prog 131 = some [.bool false, .bool false, .sl 3 [], .int .i64 0, .int .i64 0, .int .i64 0, .int .i64 0, .int .i64 0, .int .i64 0, .int .i64 0, .int .i64 0, .int .i64 0, .int .i64 0, .int .i64 0, .bool false, .int .i64 0, .int .i64 0, .int .i64 0, .int .i64 0, .int .i64 0, .int .i64 0, .int .i64 0, .int .i64 0, .int .i64 0, .int .i64 0, .bool false, .sl 2 [], .sl 3 [], .sl 2 [], .sl 1 [], .sl 1 [], .sl 1 []] := by kernel_rfl
@[go_sem] theorem tflat_131 : tflat Tryz.prog 131 = false := by kernel_rfl
@[go_sem] theorem tbool_131 : tbool Tryz.prog 131 = false := by kernel_rfl
@[go_sem] theorem tc_132 : Tryz.prog.cellsOf 132 = 32 := by kernel_rfl
@[go_sem] theorem tl_132 : tl Tryz.prog 132 = some (true, 32) := by kernel_rfl
@[go_sem] theorem te_132 : te Tryz.prog 132 = none := by kernel_rfl
@[go_sem] theorem tp_132 : tp Tryz.prog 132 = some [(0, 1), (1, 2), (3, 1), (4, 1), (5, 1), (6, 1), (7, 1), (8, 1), (9, 1), (10, 1), (11, 3), (14, 1), (15, 1), (16, 10), (26, 1), (27, 1), (28, 1), (29, 1), (30, 1), (31, 1)] := by kernel_rfl
@[go_sem] theorem tf_132_0 : tf Tryz.prog 132 0 = some (0, false, 1) := by kernel_rfl
@[go_sem] theorem tf_132_1 : tf Tryz.prog 132 1 = some (1, true, 2) := by kernel_rfl
@[go_sem] theorem tf_132_2 : tf Tryz.prog 132 2 = some (3, false, 1) := by kernel_rfl
@[go_sem] theorem tf_132_3 : tf Tryz.prog 132 3 = some (4, false, 1) := by kernel_rfl
@[go_sem] theorem tf_132_4 : tf Tryz.prog 132 4 = some (5, false, 1) := by kernel_rfl
@[go_sem] theorem tf_132_5 : tf Tryz.prog 132 5 = some (6, false, 1) := by kernel_rfl
@[go_sem] theorem tf_132_6 : tf Tryz.prog 132 6 = some (7, false, 1) := by kernel_rfl
@[go_sem] theorem tf_132_7 : tf Tryz.prog 132 7 = some (8, false, 1) := by kernel_rfl
@[go_sem] theorem tf_132_8 : tf Tryz.prog 132 8 = some (9, false, 1) := by kernel_rfl
@[go_sem] theorem tf_132_9 : tf Tryz.prog 132 9 = some (10, false, 1) := by kernel_rfl
@[go_sem] theorem tf_132_10 : tf Tryz.prog 132 10 = some (11, true, 3) := by kernel_rfl
@[go_sem] theorem tf_132_11 : tf Tryz.prog 132 11 = some (14, false, 1) := by kernel_rfl
@[go_sem] theorem tf_132_12 : tf Tryz.prog 132 12 = some (15, false, 1) := by kernel_rfl
@[go_sem] theorem tf_132_13 : tf Tryz.prog 132 13 = some (16, true, 10) := by kernel_rfl
@[go_sem] theorem tf_132_14 : tf Tryz.prog 132 14 = some (26, false, 1) := by kernel_rfl
@[go_sem] theorem tf_132_15 : tf Tryz.prog 132 15 = some (27, false, 1) := by kernel_rfl
@[go_sem] theorem tf_132_16 : tf Tryz.prog 132 16 = some (28, false, 1) := by kernel_rfl
@[go_sem] theorem tf_132_17 : tf Tryz.prog 132 17 = some (29, false, 1) := by kernel_rfl
@[go_sem] theorem tf_132_18 : tf Tryz.prog 132 18 = some (30, false, 1) := by kernel_rfl
@[go_sem] theorem tf_132_19 : tf Tryz.prog 132 19 = some (31, false, 1) := by kernel_rfl
@[go_sem] theorem tz_132 : tz Tryz.prog 132 = some [.bool false, .bool false, .sl 3 [], .int .i64 0, .int .i64 0, .int .i64 0, .int .i64 0, .int .i64 0, .int .i64 0, .int .i64 0, .int .i64 0, .int .i64 0, .int .i64 0, .int .i64 0, .bool false, .int .i64 0, .int .i64 0, .int .i64 0, .int .i64 0, .int .i64 0, .int .i64 0, .int .i64 0, .int .i64 0, .int .i64 0, .int .i64 0, .bool false, .sl 2 [], .sl 3 [], .sl 2 [], .sl 1 [], .sl 1 [], .sl 1 []] := by kernel_rfl
@[go_sem] theorem tflat_132 : tflat Tryz.prog 132 = false := by kernel_rfl
@[go_sem] theorem tbool_132 : tbool Tryz.prog 132 = false := by kernel_rfl
@[go_sem] theorem tc_134 : Tryz.prog.cellsOf 134 = 1 := by kernel_rfl
@[go_sem] theorem tl_134 : tl Tryz.prog 134 = some (false, 1) := by kernel_rfl
@[go_sem] theorem te_134 : te Tryz.prog 134 = some (125, 2, 32) := by kernel_rfl
@[go_sem] theorem tz_134 : tz Tryz.prog 134 = some [.sl 2 []] := by kernel_rfl
@[go_sem] theorem tflat_134 : tflat Tryz.prog 134 = false := by kernel_rfl
@[go_sem] theorem tbool_134 : tbool Tryz.prog 134 = false := by kernel_rfl
@[go_sem] theorem tc_135 : Tryz.prog.cellsOf 135 = 1 := by kernel_rfl
@[go_sem] theorem tl_135 : tl Tryz.prog 135 = some (true, 1) := by kernel_rfl
@[go_sem] theorem te_135 : te Tryz.prog 135 = none := by kernel_rfl
@[go_sem] theorem tp_135 : tp Tryz.prog 135 = some [(0, 1)] := by kernel_rfl
@[go_sem] theorem tf_135_0 : tf Tryz.prog 135 0 = some (0, false, 1) := by kernel_rfl
@[go_sem] theorem tz_135 : tz Tryz.prog 135 = some [.sl 2 []] := by kernel_rfl
@[go_sem] theorem tflat_135 : tflat Tryz.prog 135 = false := by kernel_rfl
@[go_sem] theorem tbool_135 : tbool Tryz.prog 135 = false := by kernel_rfl
@[go_sem] theorem tc_136 : Tryz.prog.cellsOf 136 = 1 := by kernel_rfl
@[go_sem] theorem tl_136 : tl Tryz.prog 136 = some (true, 1) := by kernel_rfl
@[go_sem] theorem te_136 : te Tryz.prog 136 = none := by kernel_rfl
@[go_sem] theorem tp_136 : tp Tryz.prog 136 = some [(0, 1)] := by kernel_rfl
@[go_sem] theorem tf_136_0 : tf Tryz.prog 136 0 = some (0, false, 1) := by kernel_rfl
@[go_sem] theorem tz_136 : tz Tryz.prog 136 = some [.sl 2 []] := by kernel_rfl
@[go_sem] theorem tflat_136 : tflat Tryz.prog 136 = false := by kernel_rfl
@[go_sem] theorem tbool_136 : tbool Tryz.prog 136 = false := by kernel_rfl
@[go_sem] theorem tc_138 : Tryz.prog.cellsOf 138 = 6 := by kernel_rfl
@[go_sem] theorem tl_138 : tl Tryz.prog 138 = some (true, 6) := by kernel_rfl
@[go_sem] theorem te_138 : te Tryz.prog 138 = none := by kernel_rfl
@[go_sem] theorem tp_138 : tp Tryz.prog 138 = some [(0, 1), (1, 1), (2, 1), (3, 1), (4, 1), (5, 1)] := by kernel_rfl
@[go_sem] theorem tf_138_0 : tf Tryz.prog 138 0 = some (0, false, 1) := by kernel_rfl
@[go_sem] theorem tf_138_1 : tf Tryz.prog 138 1 = some (1, false, 1) := by kernel_rfl
@[go_sem] theorem tf_138_2 : tf Tryz.prog 138 2 = some (2, false, 1) := by kernel_rfl
@[go_sem] theorem tf_138_3 : tf Tryz.prog 138 3 = some (3, false, 1) := by kernel_rfl
@[go_sem] theorem tf_138_4 : tf Tryz.prog 138 4 = some (4, false, 1) := by kernel_rfl
@[go_sem] theorem tf_138_5 : tf Tryz.prog 138 5 = some (5, false, 1) := by kernel_rfl
@[go_sem] theorem tz_138 : tz Tryz.prog 138 = some [.int .i64 0, .int .i64 0, .int .i64 0, .int .i64 0, .sl 3 [], .sl 2 []] := by kernel_rfl
@[go_sem] theorem tflat_138 : tflat Tryz.prog 138 = false := by kernel_rfl
@[go_sem] theorem tbool_138 : tbool Tryz.prog 138 = false := by kernel_rfl
@[go_sem] theorem tc_139 : Tryz.prog.cellsOf 139 = 6 := by kernel_rfl
@[go_sem] theorem tl_139 : tl Tryz.prog 139 = some (true, 6) := by kernel_rfl
@[go_sem] theorem te_139 : te Tryz.prog 139 = none := by kernel_rfl
@[go_sem] theorem tp_139 : tp Tryz.prog 139 = some [(0, 1), (1, 1), (2, 1), (3, 1), (4, 1), (5, 1)] := by kernel_rfl
@[go_sem] theorem tf_139_0 : tf Tryz.prog 139 0 = some (0, false, 1) := by kernel_rfl
@[go_sem] theorem tf_139_1 : tf Tryz.prog 139 1 = some (1, false, 1) := by kernel_rfl
@[go_sem] theorem tf_139_2 : tf Tryz.prog 139 2 = some (2, false, 1) := by kernel_rfl
@[go_sem] theorem tf_139_3 : tf Tryz.prog 139 3 = some (3, false, 1) := by kernel_rfl
@[go_sem] theorem tf_139_4 : tf Tryz.prog 139 4 = some (4, false, 1) := by kernel_rfl
@[go_sem] theorem tf_139_5 : tf Tryz.prog 139 5 = some (5, false, 1) := by kernel_rfl
@[go_sem] theorem tz_139 : tz Tryz.prog 139 = some [.int .i64 0, .int .i64 0, .int .i64 0, .int .i64 0, .sl 3 [], .sl 2 []] := by kernel_rfl
@[go_sem] theorem tflat_139 : tflat Tryz.prog 139 = false := by kernel_rfl
@[go_sem] theorem tbool_139 : tbool Tryz.prog 139 = false := by kernel_rfl
@[go_sem] theorem tc_145 : Tryz.prog.cellsOf 145 = 3 := by kernel_rfl
@[go_sem] theorem tl_145 : tl Tryz.prog 145 = some (true, 3) := by kernel_rfl
@[go_sem] theorem te_145 : te Tryz.prog 145 = none := by kernel_rfl
@[go_sem] theorem tp_145 : tp Tryz.prog 145 = some [(0, 1), (1, 1), (2, 1)] := by kernel_rfl
@[go_sem] theorem tf_145_0 : tf Tryz.prog 145 0 = some (0, false, 1) := by kernel_rfl
@[go_sem] theorem tf_145_1 : tf Tryz.prog 145 1 = some (1, false, 1) := by kernel_rfl
@[go_sem] theorem tf_145_2 : tf Tryz.prog 145 2 = some (2, false, 1) := by kernel_rfl
@[go_sem] theorem teq_145 : teq Tryz.prog 145 = some [0, 0, 0] := by kernel_rfl
@[go_sem] theorem tz_145 : tz Tryz.prog 145 = some [.int .i64 0, .int .i64 0, .int .i64 0] := by kernel_rfl
@[go_sem] theorem tflat_145 : tflat Tryz.prog 145 = true := by kernel_rfl
@[go_sem] theorem tbool_145 : tbool Tryz.prog 145 = false := by kernel_rfl
@[go_sem] theorem tc_157 : Tryz.prog.cellsOf 157 = 2 := by kernel_rfl
@[go_sem] theorem tl_157 : tl Tryz.prog 157 = some (true, 2) := by kernel_rfl
@[go_sem] theorem te_157 : te Tryz.prog 157 = none := by kernel_rfl
@[go_sem] theorem tp_157 : tp Tryz.prog 157 = some [(0, 1), (1, 1)] := by kernel_rfl
@[go_sem] theorem tf_157_0 : tf Tryz.prog 157 0 = some (0, false, 1) := by kernel_rfl
@[go_sem] theorem tf_157_1 : tf Tryz.prog 157 1 = some (1, false, 1) := by kernel_rfl
@[go_sem] theorem tz_157 : tz Tryz.prog 157 = some [.int .i64 0, .int .i64 0] := by kernel_rfl
@[go_sem] theorem tflat_157 : tflat Tryz.prog 157 = true := by kernel_rfl
@[go_sem] theorem tbool_157 : tbool Tryz.prog 157 = false := by kernel_rfl
@[go_sem] theorem tc_158 : Tryz.prog.cellsOf 158 = 2 := by kernel_rfl
@[go_sem] theorem tl_158 : tl Tryz.prog 158 = some (true, 2) := by kernel_rfl
@[go_sem] theorem te_158 : te Tryz.prog 158 = none := by kernel_rfl
@[go_sem] theorem tp_158 : tp Tryz.prog 158 = some [(0, 1), (1, 1)] := by kernel_rfl
@[go_sem] theorem tf_158_0 : tf Tryz.prog 158 0 = some (0, false, 1) := by kernel_rfl
@[go_sem] theorem tf_158_1 : tf Tryz.prog 158 1 = some (1, false, 1) := by kernel_rfl
@[go_sem] theorem teq_158 : teq Tryz.prog 158 = some [0, 0] := by kernel_rfl
@[go_sem] theorem tz_158 : tz Tryz.prog 158 = some [.int .i64 0, .int .i64 0] := by kernel_rfl
@[go_sem] theorem tflat_158 : tflat Tryz.prog 158 = true := by kernel_rfl
@[go_sem] theorem tbool_158 : tbool Tryz.prog 158 = false := by kernel_rfl
@[go_sem] theorem tc_160 : Tryz.prog.cellsOf 160 = 3 := by kernel_rfl
@[go_sem] theorem tl_160 : tl Tryz.prog 160 = some (true, 3) := by kernel_rfl
@[go_sem] theorem te_160 : te Tryz.prog 160 = none := by kernel_rfl
@[go_sem] theorem tp_160 : tp Tryz.prog 160 = some [(0, 1), (1, 1), (2, 1)] := by kernel_rfl
@[go_sem] theorem tf_160_0 : tf Tryz.prog 160 0 = some (0, false, 1) := by kernel_rfl
@[go_sem] theorem tf_160_1 : tf Tryz.prog 160 1 = some (1, false, 1) := by kernel_rfl
@[go_sem] theorem tf_160_2 : tf Tryz.prog 160 2 = some (2, false, 1) := by kernel_rfl
@[go_sem] theorem tz_160 : tz Tryz.prog 160 = some [.int .i64 0, .bool false, .int .i64 0] := by kernel_rfl
@[go_sem] theorem tflat_160 : tflat Tryz.prog 160 = true := by kernel_rfl
@[go_sem] theorem tbool_160 : tbool Tryz.prog 160 = false := by kernel_rfl
@[go_sem] theorem tc_161 : Tryz.prog.cellsOf 161 = 3 := by kernel_rfl
@[go_sem] theorem tl_161 : tl Tryz.prog 161 = some (true, 3) := by kernel_rfl
@[go_sem] theorem te_161 : te Tryz.prog 161 = none := by kernel_rfl
@[go_sem] theorem tp_161 : tp Tryz.prog 161 = some [(0, 1), (1, 1), (2, 1)] := by kernel_rfl
@[go_sem] theorem tf_161_0 : tf Tryz.prog 161 0 = some (0, false, 1) := by kernel_rfl
@[go_sem] theorem tf_161_1 : tf Tryz.prog 161 1 = some (1, false, 1) := by kernel_rfl
@[go_sem] theorem tf_161_2 : tf Tryz.prog 161 2 = some (2, false, 1) := by kernel_rfl
@[go_sem] theorem teq_161 : teq Tryz.prog 161 = some [0, 1, 0] := by kernel_rfl
@[go_sem] theorem tz_161 : tz Tryz.prog 161 = some [.int .i64 0, .bool false, .int .i64 0] := by kernel_rfl
@[go_sem] theorem tflat_161 : tflat Tryz.prog 161 = true := by kernel_rfl
@[go_sem] theorem tbool_161 : tbool Tryz.prog 161 = false := by kernel_rfl
@[go_sem] theorem tc_166 : Tryz.prog.cellsOf 166 = 1 := by kernel_rfl
@[go_sem] theorem tl_166 : tl Tryz.prog 166 = some (false, 1) := by kernel_rfl
@[go_sem] theorem te_166 : te Tryz.prog 166 = some (231, 2, 16) := by kernel_rfl
@[go_sem] theorem tz_166 : tz Tryz.prog 166 = some [.sl 2 []] := by kernel_rfl
@[go_sem] theorem tflat_166 : tflat Tryz.prog 166 = false := by kernel_rfl
@[go_sem] theorem tbool_166 : tbool Tryz.prog 166 = false := by kernel_rfl
@[go_sem] theorem tc_167 : Tryz.prog.cellsOf 167 = 1 := by kernel_rfl
@[go_sem] theorem tl_167 : tl Tryz.prog 167 = some (true, 1) := by kernel_rfl
@[go_sem] theorem te_167 : te Tryz.prog 167 = none := by kernel_rfl
@[go_sem] theorem tp_167 : tp Tryz.prog 167 = some [(0, 1)] := by kernel_rfl
@[go_sem] theorem tf_167_0 : tf Tryz.prog 167 0 = some (0, false, 1) := by kernel_rfl
@[go_sem] theorem tz_167 : tz Tryz.prog 167 = some [.sl 2 []] := by kernel_rfl
@[go_sem] theorem tflat_167 : tflat Tryz.prog 167 = false := by kernel_rfl
@[go_sem] theorem tbool_167 : tbool Tryz.prog 167 = false := by kernel_rfl
@[go_sem] theorem tc_168 : Tryz.prog.cellsOf 168 = 1 := by kernel_rfl
@[go_sem] theorem tl_168 : tl Tryz.prog 168 = some (true, 1) := by kernel_rfl
@[go_sem] theorem te_168 : te Tryz.prog 168 = none := by kernel_rfl
@[go_sem] theorem tp_168 : tp Tryz.prog 168 = some [(0, 1)] := by kernel_rfl
@[go_sem] theorem tf_168_0 : tf Tryz.prog 168 0 = some (0, false, 1) := by kernel_rfl
@[go_sem] theorem tz_168 : tz Tryz.prog 168 = some [.sl 2 []] := by kernel_rfl
@[go_sem] theorem tflat_168 : tflat Tryz.prog 168 = false := by kernel_rfl
@[go_sem] theorem tbool_168 : tbool Tryz.prog 168 = false := by kernel_rfl
@[go_sem] theorem tc_178 : Tryz.prog.cellsOf 178 = 1 := by kernel_rfl
@[go_sem] theorem tl_178 : tl Tryz.prog 178 = some (false, 1) := by kernel_rfl
@[go_sem] theorem te_178 : te Tryz.prog 178 = some (200, 2, 16) := by kernel_rfl
@[go_sem] theorem tz_178 : tz Tryz.prog 178 = some [.sl 2 []] := by kernel_rfl
@[go_sem] theorem tflat_178 : tflat Tryz.prog 178 = false := by kernel_rfl
@[go_sem] theorem tbool_178 : tbool Tryz.prog 178 = false := by kernel_rfl
@[go_sem] theorem tc_179 : Tryz.prog.cellsOf 179 = 1 := by kernel_rfl
@[go_sem] theorem tl_179 : tl Tryz.prog 179 = some (true, 1) := by kernel_rfl
@[go_sem] theorem te_179 : te Tryz.prog 179 = none := by kernel_rfl
@[go_sem] theorem tp_179 : tp Tryz.prog 179 = some [(0, 1)] := by kernel_rfl
@[go_sem] theorem tf_179_0 : tf Tryz.prog 179 0 = some (0, false, 1) := by kernel_rfl
@[go_sem] theorem tz_179 : tz Tryz.prog 179 = some [.sl 2 []] := by kernel_rfl
@[go_sem] theorem tflat_179 : tflat Tryz.prog 179 = false := by kernel_rfl
@[go_sem] theorem tbool_179 : tbool Tryz.prog 179 = false := by kernel_rfl
@[go_sem] theorem tc_180 : Tryz.prog.cellsOf 180 = 1 := by kernel_rfl
@[go_sem] theorem tl_180 : tl Tryz.prog 180 = some (true, 1) := by kernel_rfl
@[go_sem] theorem te_180 : te Tryz.prog 180 = none := by kernel_rfl
@[go_sem] theorem tp_180 : tp Tryz.prog 180 = some [(0, 1)] := by kernel_rfl
@[go_sem] theorem tf_180_0 : tf Tryz.prog 180 0 = some (0, false, 1) := by kernel_rfl
@[go_sem] theorem tz_180 : tz Tryz.prog 180 = some [.sl 2 []] := by kernel_rfl
@[go_sem] theorem tflat_180 : tflat Tryz.prog 180 = false := by kernel_rfl
@[go_sem] theorem tbool_180 : tbool Tryz.prog 180 = false := by kernel_rfl
@[go_sem] theorem tc_197 : Tryz.prog.cellsOf 197 = 4 := by kernel_rfl
@[go_sem] theorem tl_197 : tl Tryz.prog 197 = some (true, 4) := by kernel_rfl
@[go_sem] theorem te_197 : te Tryz.prog 197 = none := by kernel_rfl
@[go_sem] theorem tp_197 : tp Tryz.prog 197 = some [(0, 1), (1, 1), (2, 1), (3, 1)] := by kernel_rfl
@[go_sem] theorem tf_197_0 : tf Tryz.prog 197 0 = some (0, false, 1) := by kernel_rfl
@[go_sem] theorem tf_197_1 : tf Tryz.prog 197 1 = some (1, false, 1) := by kernel_rfl
@[go_sem] theorem tf_197_2 : tf Tryz.prog 197 2 = some (2, false, 1) := by kernel_rfl
@[go_sem] theorem tf_197_3 : tf Tryz.prog 197 3 = some (3, false, 1) := by kernel_rfl
@[go_sem] theorem tz_197 : tz Tryz.prog 197 = some [.bool false, .int .i64 0, .bool false, .int .i64 0] := by kernel_rfl
@[go_sem] theorem tflat_197 : tflat Tryz.prog 197 = true := by kernel_rfl
@[go_sem] theorem tbool_197 : tbool Tryz.prog 197 = false := by kernel_rfl
@[go_sem] theorem tc_198 : Tryz.prog.cellsOf 198 = 4 := by kernel_rfl
@[go_sem] theorem tl_198 : tl Tryz.prog 198 = some (true, 4) := by kernel_rfl
@[go_sem] theorem te_198 : te Tryz.prog 198 = none := by kernel_rfl
@[go_sem] theorem tp_198 : tp Tryz.prog 198 = some [(0, 1), (1, 1), (2, 1), (3, 1)] := by kernel_rfl
@[go_sem] theorem tf_198_0 : tf Tryz.prog 198 0 = some (0, false, 1) := by kernel_rfl
@[go_sem] theorem tf_198_1 : tf Tryz.prog 198 1 = some (1, false, 1) := by kernel_rfl
@[go_sem] theorem tf_198_2 : tf Tryz.prog 198 2 = some (2, false, 1) := by kernel_rfl
@[go_sem] theorem tf_198_3 : tf Tryz.prog 198 3 = some (3, false, 1) := by kernel_rfl
@[go_sem] theorem teq_198 : teq Tryz.prog 198 = some [1, 0, 1, 0] := by kernel_rfl
@[go_sem] theorem tz_198 : tz Tryz.prog 198 = some [.bool false, .int .i64 0, .bool false, .int .i64 0] := by kernel_rfl
@[go_sem] theorem tflat_198 : tflat Tryz.prog 198 = true := by kernel_rfl
@[go_sem] theorem tbool_198 : tbool Tryz.prog 198 = false := by kernel_rfl
@[go_sem] theorem tc_199 : Tryz.prog.cellsOf 199 = 2 := by kernel_rfl
@[go_sem] theorem tl_199 : tl Tryz.prog 199 = some (true, 2) := by kernel_rfl
@[go_sem] theorem te_199 : te Tryz.prog 199 = none := by kernel_rfl
@[go_sem] theorem tp_199 : tp Tryz.prog 199 = some [(0, 1), (1, 1)] := by kernel_rfl
@[go_sem] theorem tf_199_0 : tf Tryz.prog 199 0 = some (0, false, 1) := by kernel_rfl
@[go_sem] theorem tf_199_1 : tf Tryz.prog 199 1 = some (1, false, 1) := by kernel_rfl
@[go_sem] theorem tz_199 : tz Tryz.prog 199 = some [.int .i64 0, .int .i64 0] := by kernel_rfl
@[go_sem] theorem tflat_199 : tflat Tryz.prog 199 = true := by kernel_rfl
@[go_sem] theorem tbool_199 : tbool Tryz.prog 199 = false := by kernel_rfl
@[go_sem] theorem tc_200 : Tryz.prog.cellsOf 200 = 2 := by kernel_rfl
@[go_sem] theorem tl_200 : tl Tryz.prog 200 = some (true, 2) := by kernel_rfl
@[go_sem] theorem te_200 : te Tryz.prog 200 = none := by kernel_rfl
@[go_sem] theorem tp_200 : tp Tryz.prog 200 = some [(0, 1), (1, 1)] := by kernel_rfl
@[go_sem] theorem tf_200_0 : tf Tryz.prog 200 0 = some (0, false, 1) := by kernel_rfl
@[go_sem] theorem tf_200_1 : tf Tryz.prog 200 1 = some (1, false, 1) := by kernel_rfl
@[go_sem] theorem teq_200 : teq Tryz.prog 200 = some [0, 0] := by kernel_rfl
@[go_sem] theorem tz_200 : tz Tryz.prog 200 = some [.int .i64 0, .int .i64 0] := by kernel_rfl
@[go_sem] theorem tflat_200 : tflat Tryz.prog 200 = true := by kernel_rfl
@[go_sem] theorem tbool_200 : tbool Tryz.prog 200 = false := by kernel_rfl
@[go_sem] theorem tc_207 : Tryz.prog.cellsOf 207 = 4 := by kernel_rfl
@[go_sem] theorem tl_207 : tl Tryz.prog 207 = some (true, 4) := by kernel_rfl
@[go_sem] theorem te_207 : te Tryz.prog 207 = none := by kernel_rfl
@[go_sem] theorem tp_207 : tp Tryz.prog 207 = some [(0, 1), (1, 1), (2, 1), (3, 1)] := by kernel_rfl
@[go_sem] theorem tf_207_0 : tf Tryz.prog 207 0 = some (0, false, 1) := by kernel_rfl
@[go_sem] theorem tf_207_1 : tf Tryz.prog 207 1 = some (1, false, 1) := by kernel_rfl
@[go_sem] theorem tf_207_2 : tf Tryz.prog 207 2 = some (2, false, 1) := by kernel_rfl
@[go_sem] theorem tf_207_3 : tf Tryz.prog 207 3 = some (3, false, 1) := by kernel_rfl
@[go_sem] theorem teq_207 : teq Tryz.prog 207 = some [1, 0, 1, 0] := by kernel_rfl
@[go_sem] theorem tz_207 : tz Tryz.prog 207 = some [.bool false, .int .i64 0, .bool false, .int .i64 0] := by kernel_rfl
@[go_sem] theorem tflat_207 : tflat Tryz.prog 207 = true := by kernel_rfl
@[go_sem] theorem tbool_207 : tbool Tryz.prog 207 = false := by kernel_rfl
@[go_sem] theorem tc_210 : Tryz.prog.cellsOf 210 = 2 := by kernel_rfl
@[go_sem] theorem tl_210 : tl Tryz.prog 210 = some (true, 2) := by kernel_rfl
@[go_sem] theorem te_210 : te Tryz.prog 210 = none := by kernel_rfl
@[go_sem] theorem tp_210 : tp Tryz.prog 210 = some [(0, 1), (1, 1)] := by kernel_rfl
@[go_sem] theorem tf_210_0 : tf Tryz.prog 210 0 = some (0, false, 1) := by kernel_rfl
@[go_sem] theorem tf_210_1 : tf Tryz.prog 210 1 = some (1, false, 1) := by kernel_rfl
@[go_sem] theorem teq_210 : teq Tryz.prog 210 = some [0, 0] := by kernel_rfl
@[go_sem] theorem tz_210 : tz Tryz.prog 210 = some [.int .i64 0, .int .i64 0] := by kernel_rfl
@[go_sem] theorem tflat_210 : tflat Tryz.prog 210 = true := by kernel_rfl
@[go_sem] theorem tbool_210 : tbool Tryz.prog 210 = false := by kernel_rfl
@[go_sem] theorem tc_212 : Tryz.prog.cellsOf 212 = 3 := by kernel_rfl
@[go_sem] theorem tl_212 : tl Tryz.prog 212 = some (true, 3) := by kernel_rfl
@[go_sem] theorem te_212 : te Tryz.prog 212 = none := by kernel_rfl
@[go_sem] theorem tp_212 : tp Tryz.prog 212 = some [(0, 1), (1, 1), (2, 1)] := by kernel_rfl
@[go_sem] theorem tf_212_0 : tf Tryz.prog 212 0 = some (0, false, 1) := by kernel_rfl
@[go_sem] theorem tf_212_1 : tf Tryz.prog 212 1 = some (1, false, 1) := by kernel_rfl
@[go_sem] theorem tf_212_2 : tf Tryz.prog 212 2 = some (2, false, 1) := by kernel_rfl
@[go_sem] theorem teq_212 : teq Tryz.prog 212 = some [0, 1, 0] := by kernel_rfl
@[go_sem] theorem tz_212 : tz Tryz.prog 212 = some [.int .i64 0, .bool false, .int .i64 0] := by kernel_rfl
@[go_sem] theorem tflat_212 : tflat Tryz.prog 212 = true := by kernel_rfl
@[go_sem] theorem tbool_212 : tbool Tryz.prog 212 = false := by kernel_rfl
@[go_sem] theorem tc_214 : Tryz.prog.cellsOf 214 = 2 := by kernel_rfl
@[go_sem] theorem tl_214 : tl Tryz.prog 214 = some (true, 2) := by kernel_rfl
@[go_sem] theorem te_214 : te Tryz.prog 214 = none := by kernel_rfl
@[go_sem] theorem tp_214 : tp Tryz.prog 214 = some [(0, 1), (1, 1)] := by kernel_rfl
@[go_sem] theorem tf_214_0 : tf Tryz.prog 214 0 = some (0, false, 1) := by kernel_rfl
@[go_sem] theorem tf_214_1 : tf Tryz.prog 214 1 = some (1, false, 1) := by kernel_rfl
@[go_sem] theorem teq_214 : teq Tryz.prog 214 = some [1, 0] := by kernel_rfl
@[go_sem] theorem tz_214 : tz Tryz.prog 214 = some [.bool false, .int .i64 0] := by kernel_rfl
@[go_sem] theorem tflat_214 : tflat Tryz.prog 214 = true := by kernel_rfl
@[go_sem] theorem tbool_214 : tbool Tryz.prog 214 = false := by kernel_rfl
@[go_sem] theorem tc_216 : Tryz.prog.cellsOf 216 = 3 := by kernel_rfl
@[go_sem] theorem tl_216 : tl Tryz.prog 216 = some (true, 3) := by kernel_rfl
@[go_sem] theorem te_216 : te Tryz.prog 216 = none := by kernel_rfl
@[go_sem] theorem tp_216 : tp Tryz.prog 216 = some [(0, 1), (1, 1), (2, 1)] := by kernel_rfl
@[go_sem] theorem tf_216_0 : tf Tryz.prog 216 0 = some (0, false, 1) := by kernel_rfl
@[go_sem] theorem tf_216_1 : tf Tryz.prog 216 1 = some (1, false, 1) := by kernel_rfl
@[go_sem] theorem tf_216_2 : tf Tryz.prog 216 2 = some (2, false, 1) := by kernel_rfl
@[go_sem] theorem teq_216 : teq Tryz.prog 216 = some [0, 0, 0] := by kernel_rfl
@[go_sem] theorem tz_216 : tz Tryz.prog 216 = some [.int .i64 0, .int .i64 0, .int .i64 0] := by kernel_rfl
@[go_sem] theorem tflat_216 : tflat Tryz.prog 216 = true := by kernel_rfl
@[go_sem] theorem tbool_216 : tbool Tryz.prog 216 = false := by kernel_rfl
@[go_sem] theorem tc_223 : Tryz.prog.cellsOf 223 = 1 := by kernel_rfl
@[go_sem] theorem tl_223 : tl Tryz.prog 223 = some (true, 1) := by kernel_rfl
@[go_sem] theorem te_223 : te Tryz.prog 223 = none := by kernel_rfl
@[go_sem] theorem tp_223 : tp Tryz.prog 223 = some [(0, 1)] := by kernel_rfl
@[go_sem] theorem tf_223_0 : tf Tryz.prog 223 0 = some (0, false, 1) := by kernel_rfl
@[go_sem] theorem tz_223 : tz Tryz.prog 223 = some [.sl 1 []] := by kernel_rfl
@[go_sem] theorem tflat_223 : tflat Tryz.prog 223 = false := by kernel_rfl
@[go_sem] theorem tbool_223 : tbool Tryz.prog 223 = false := by kernel_rfl
@[go_sem] theorem tc_224 : Tryz.prog.cellsOf 224 = 1 := by kernel_rfl
@[go_sem] theorem tl_224 : tl Tryz.prog 224 = some (true, 1) := by kernel_rfl
@[go_sem] theorem te_224 : te Tryz.prog 224 = none := by kernel_rfl
@[go_sem] theorem tp_224 : tp Tryz.prog 224 = some [(0, 1)] := by kernel_rfl
@[go_sem] theorem tf_224_0 : tf Tryz.prog 224 0 = some (0, false, 1) := by kernel_rfl
@[go_sem] theorem tz_224 : tz Tryz.prog 224 = some [.sl 1 []] := by kernel_rfl
@[go_sem] theorem tflat_224 : tflat Tryz.prog 224 = false := by kernel_rfl
@[go_sem] theorem tbool_224 : tbool Tryz.prog 224 = false := by kernel_rfl
@[go_sem] theorem tc_228 : Tryz.prog.cellsOf 228 = 1 := by kernel_rfl
@[go_sem] theorem tl_228 : tl Tryz.prog 228 = some (true, 1) := by kernel_rfl
@[go_sem] theorem te_228 : te Tryz.prog 228 = none := by kernel_rfl
@[go_sem] theorem tp_228 : tp Tryz.prog 228 = some [(0, 1)] := by kernel_rfl
@[go_sem] theorem tf_228_0 : tf Tryz.prog 228 0 = some (0, false, 1) := by kernel_rfl
@[go_sem] theorem tz_228 : tz Tryz.prog 228 = some [.sl 1 []] := by kernel_rfl
@[go_sem] theorem tflat_228 : tflat Tryz.prog 228 = false := by kernel_rfl
@[go_sem] theorem tbool_228 : tbool Tryz.prog 228 = false := by kernel_rfl
@[go_sem] theorem tc_231 : Tryz.prog.cellsOf 231 = 2 := by kernel_rfl
@[go_sem] theorem tl_231 : tl Tryz.prog 231 = some (true, 2) := by kernel_rfl
@[go_sem] theorem te_231 : te Tryz.prog 231 = none := by kernel_rfl
@[go_sem] theorem tp_231 : tp Tryz.prog 231 = some [(0, 1), (1, 1)] := by kernel_rfl
@[go_sem] theorem tf_231_0 : tf Tryz.prog 231 0 = some (0, false, 1) := by kernel_rfl
@[go_sem] theorem tf_231_1 : tf Tryz.prog 231 1 = some (1, false, 1) := by kernel_rfl
@[go_sem] theorem teq_231 : teq Tryz.prog 231 = some [0, 0] := by kernel_rfl
@[go_sem] theorem tz_231 : tz Tryz.prog 231 = some [.int .i64 0, .int .i64 0] := by kernel_rfl
@[go_sem] theorem tflat_231 : tflat Tryz.prog 231 = true := by kernel_rfl
@[go_sem] theorem tbool_231 : tbool Tryz.prog 231 = false := by kernel_rfl
@[go_sem] theorem tc_234 : Tryz.prog.cellsOf 234 = 4 := by kernel_rfl
@[go_sem] theorem tl_234 : tl Tryz.prog 234 = some (true, 4) := by kernel_rfl
@[go_sem] theorem te_234 : te Tryz.prog 234 = none := by kernel_rfl
@[go_sem] theorem tp_234 : tp Tryz.prog 234 = some [(0, 1), (1, 1), (2, 1), (3, 1)] := by kernel_rfl
@[go_sem] theorem tf_234_0 : tf Tryz.prog 234 0 = some (0, false, 1) := by kernel_rfl
@[go_sem] theorem tf_234_1 : tf Tryz.prog 234 1 = some (1, false, 1) := by kernel_rfl
@[go_sem] theorem tf_234_2 : tf Tryz.prog 234 2 = some (2, false, 1) := by kernel_rfl
@[go_sem] theorem tf_234_3 : tf Tryz.prog 234 3 = some (3, false, 1) := by kernel_rfl
@[go_sem] theorem tbool_234 : tbool Tryz.prog 234 = false := by kernel_rfl
@[go_sem] theorem tc_235 : Tryz.prog.cellsOf 235 = 4 := by kernel_rfl
@[go_sem] theorem tl_235 : tl Tryz.prog 235 = some (true, 4) := by kernel_rfl
@[go_sem] theorem te_235 : te Tryz.prog 235 = none := by kernel_rfl
@[go_sem] theorem tp_235 : tp Tryz.prog 235 = some [(0, 1), (1, 1), (2, 1), (3, 1)] := by kernel_rfl
@[go_sem] theorem tf_235_0 : tf Tryz.prog 235 0 = some (0, false, 1) := by kernel_rfl
@[go_sem] theorem tf_235_1 : tf Tryz.prog 235 1 = some (1, false, 1) := by kernel_rfl
@[go_sem] theorem tf_235_2 : tf Tryz.prog 235 2 = some (2, false, 1) := by kernel_rfl
@[go_sem] theorem tf_235_3 : tf Tryz.prog 235 3 = some (3, false, 1) := by kernel_rfl
@[go_sem] theorem tbool_235 : tbool Tryz.prog 235 = false := by kernel_rfl
@[go_sem] theorem tc_236 : Tryz.prog.cellsOf 236 = 0 := by kernel_rfl
@[go_sem] theorem tl_236 : tl Tryz.prog 236 = some (true, 0) := by kernel_rfl
@[go_sem] theorem te_236 : te Tryz.prog 236 = none := by kernel_rfl
@[go_sem] theorem ta_236 : ta Tryz.prog 236 = some (0, 16, 1) := by kernel_rfl
@[go_sem] theorem tp_236 : tp Tryz.prog 236 = some [] := by kernel_rfl
@[go_sem] theorem tbool_236 : tbool Tryz.prog 236 = false := by kernel_rfl
@[go_sem] theorem tc_237 : Tryz.prog.cellsOf 237 = 0 := by kernel_rfl
@[go_sem] theorem tl_237 : tl Tryz.prog 237 = some (true, 0) := by kernel_rfl
@[go_sem] theorem te_237 : te Tryz.prog 237 = none := by kernel_rfl
@[go_sem] theorem tp_237 : tp Tryz.prog 237 = some [(0, 0)] := by kernel_rfl
@[go_sem] theorem tbool_237 : tbool Tryz.prog 237 = false := by kernel_rfl
@[go_sem] theorem tc_238 : Tryz.prog.cellsOf 238 = 0 := by kernel_rfl
@[go_sem] theorem tl_238 : tl Tryz.prog 238 = some (true, 0) := by kernel_rfl
@[go_sem] theorem te_238 : te Tryz.prog 238 = none := by kernel_rfl
@[go_sem] theorem tp_238 : tp Tryz.prog 238 = some [(0, 0)] := by kernel_rfl
@[go_sem] theorem tbool_238 : tbool Tryz.prog 238 = false := by kernel_rfl
@[go_sem] theorem tc_240 : Tryz.prog.cellsOf 240 = 1 := by kernel_rfl
@[go_sem] theorem tl_240 : tl Tryz.prog 240 = some (false, 1) := by kernel_rfl
@[go_sem] theorem te_240 : te Tryz.prog 240 = none := by kernel_rfl
@[go_sem] theorem tz_240 : tz Tryz.prog 240 = some [.int .u32 0] := by kernel_rfl
@[go_sem] theorem tflat_240 : tflat Tryz.prog 240 = true := by kernel_rfl
@[go_sem] theorem tbool_240 : tbool Tryz.prog 240 = false := by kernel_rfl
@[go_sem] theorem tkind_240 : tkind Tryz.prog 240 = some .u32 := by kernel_rfl
@[go_sem] theorem tc_241 : Tryz.prog.cellsOf 241 = 1 := by kernel_rfl
@[go_sem] theorem tl_241 : tl Tryz.prog 241 = some (false, 1) := by kernel_rfl
@[go_sem] theorem te_241 : te Tryz.prog 241 = none := by kernel_rfl
@[go_sem] theorem tz_241 : tz Tryz.prog 241 = some [.int .u8 0] := by kernel_rfl
@[go_sem] theorem tflat_241 : tflat Tryz.prog 241 = true := by kernel_rfl
@[go_sem] theorem tbool_241 : tbool Tryz.prog 241 = false := by kernel_rfl
@[go_sem] theorem tkind_241 : tkind Tryz.prog 241 = some .u8 := by kernel_rfl
@[go_sem] theorem tc_242 : Tryz.prog.cellsOf 242 = 1 := by kernel_rfl
@[go_sem] theorem tl_242 : tl Tryz.prog 242 = some (false, 1) := by kernel_rfl
@[go_sem] theorem te_242 : te Tryz.prog 242 = none := by kernel_rfl
@[go_sem] theorem tz_242 : tz Tryz.prog 242 = some [.int .u8 0] := by kernel_rfl
@[go_sem] theorem tflat_242 : tflat Tryz.prog 242 = true := by kernel_rfl
@[go_sem] theorem tbool_242 : tbool Tryz.prog 242 = false := by kernel_rfl
@[go_sem] theorem tkind_242 : tkind Tryz.prog 242 = some .u8 := by kernel_rfl
@[go_sem] theorem tc_244 : Tryz.prog.cellsOf 244 = 1 := by kernel_rfl
@[go_sem] theorem tl_244 : tl Tryz.prog 244 = some (false, 1) := by kernel_rfl
@[go_sem] theorem te_244 : te Tryz.prog 244 = none := by kernel_rfl
@[go_sem] theorem tbool_244 : tbool Tryz.prog 244 = false := by kernel_rfl
@[go_sem] theorem tc_245 : Tryz.prog.cellsOf 245 = 1 := by kernel_rfl
@[go_sem] theorem tl_245 : tl Tryz.prog 245 = some (false, 1) := by kernel_rfl
@[go_sem] theorem te_245 : te Tryz.prog 245 = none := by kernel_rfl
@[go_sem] theorem tz_245 : tz Tryz.prog 245 = some [.int .i32 0] := by kernel_rfl
@[go_sem] theorem tflat_245 : tflat Tryz.prog 245 = true := by kernel_rfl
@[go_sem] theorem tbool_245 : tbool Tryz.prog 245 = false := by kernel_rfl
@[go_sem] theorem tkind_245 : tkind Tryz.prog 245 = some .i32 := by kernel_rfl
@[go_sem] theorem tc_246 : Tryz.prog.cellsOf 246 = 1 := by kernel_rfl
@[go_sem] theorem tl_246 : tl Tryz.prog 246 = some (false, 1) := by kernel_rfl
@[go_sem] theorem te_246 : te Tryz.prog 246 = none := by kernel_rfl
@[go_sem] theorem tz_246 : tz Tryz.prog 246 = some [.int .i32 0] := by kernel_rfl
@[go_sem] theorem tflat_246 : tflat Tryz.prog 246 = true := by kernel_rfl
@[go_sem] theorem tbool_246 : tbool Tryz.prog 246 = false := by kernel_rfl
@[go_sem] theorem tkind_246 : tkind Tryz.prog 246 = some .i32 := by kernel_rfl
@[go_sem] theorem tc_247 : Tryz.prog.cellsOf 247 = 11 := by kernel_rfl
@[go_sem] theorem tl_247 : tl Tryz.prog 247 = some (true, 11) := by kernel_rfl
@[go_sem] theorem te_247 : te Tryz.prog 247 = none := by kernel_rfl
@[go_sem] theorem tf_247_0 : tf Tryz.prog 247 0 = some (0, false, 1) := by kernel_rfl
@[go_sem] theorem tf_247_1 : tf Tryz.prog 247 1 = some (1, false, 1) := by kernel_rfl
@[go_sem] theorem tf_247_2 : tf Tryz.prog 247 2 = some (2, false, 1) := by kernel_rfl
@[go_sem] theorem tf_247_3 : tf Tryz.prog 247 3 = some (3, false, 1) := by kernel_rfl
@[go_sem] theorem tf_247_4 : tf Tryz.prog 247 4 = some (4, false, 1) := by kernel_rfl
@[go_sem] theorem tf_247_5 : tf Tryz.prog 247 5 = some (5, false, 1) := by kernel_rfl
@[go_sem] theorem tf_247_6 : tf Tryz.prog 247 6 = some (6, false, 1) := by kernel_rfl
@[go_sem] theorem tf_247_8 : tf Tryz.prog 247 8 = some (8, false, 1) := by kernel_rfl
@[go_sem] theorem tf_247_9 : tf Tryz.prog 247 9 = some (9, false, 1) := by kernel_rfl
@[go_sem] theorem tf_247_10 : tf Tryz.prog 247 10 = some (10, false, 1) := by kernel_rfl
@[go_sem] theorem tbool_247 : tbool Tryz.prog 247 = false := by kernel_rfl
@[go_sem] theorem tc_248 : Tryz.prog.cellsOf 248 = 11 := by kernel_rfl
@[go_sem] theorem tl_248 : tl Tryz.prog 248 = some (true, 11) := by kernel_rfl
@[go_sem] theorem te_248 : te Tryz.prog 248 = none := by kernel_rfl
@[go_sem] theorem tf_248_0 : tf Tryz.prog 248 0 = some (0, false, 1) := by kernel_rfl
@[go_sem] theorem tf_248_1 : tf Tryz.prog 248 1 = some (1, false, 1) := by kernel_rfl
@[go_sem] theorem tf_248_2 : tf Tryz.prog 248 2 = some (2, false, 1) := by kernel_rfl
@[go_sem] theorem tf_248_3 : tf Tryz.prog 248 3 = some (3, false, 1) := by kernel_rfl
@[go_sem] theorem tf_248_4 : tf Tryz.prog 248 4 = some (4, false, 1) := by kernel_rfl
@[go_sem] theorem tf_248_5 : tf Tryz.prog 248 5 = some (5, false, 1) := by kernel_rfl
@[go_sem] theorem tf_248_6 : tf Tryz.prog 248 6 = some (6, false, 1) := by kernel_rfl
@[go_sem] theorem tf_248_8 : tf Tryz.prog 248 8 = some (8, false, 1) := by kernel_rfl
@[go_sem] theorem tf_248_9 : tf Tryz.prog 248 9 = some (9, false, 1) := by kernel_rfl
@[go_sem] theorem tf_248_10 : tf Tryz.prog 248 10 = some (10, false, 1) := by kernel_rfl
@[go_sem] theorem tbool_248 : tbool Tryz.prog 248 = false := by kernel_rfl
theorem e2 : enters Tryz.prog 2 = true := by kernel_rfl
theorem e3 : enters Tryz.prog 3 = true := by kernel_rfl
theorem e4 : enters Tryz.prog 4 = true := by kernel_rfl
theorem e5 : enters Tryz.prog 5 = true := by kernel_rfl
theorem e6 : enters Tryz.prog 6 = true := by kernel_rfl
theorem e7 : enters Tryz.prog 7 = true := by kernel_rfl
theorem e8 : enters Tryz.prog 8 = true := by kernel_rfl
theorem e9 : enters Tryz.prog 9 = true := by kernel_rfl
theorem e10 : enters Tryz.prog 10 = true := by kernel_rfl
theorem e11 : enters Tryz.prog 11 = true := by kernel_rfl
theorem e12 : enters Tryz.prog 12 = true := by kernel_rfl
theorem e13 : enters Tryz.prog 13 = true := by kernel_rfl
theorem e14 : enters Tryz.prog 14 = true := by kernel_rfl
theorem e15 : enters Tryz.prog 15 = true := by kernel_rfl
theorem e16 : enters Tryz.prog 16 = true := by kernel_rfl
theorem e17 : enters Tryz.prog 17 = true := by kernel_rfl
theorem e18 : enters Tryz.prog 18 = true := by kernel_rfl
theorem e19 : enters Tryz.prog 19 = true := by kernel_rfl
theorem e20 : enters Tryz.prog 20 = true := by kernel_rfl
theorem e21 : enters Tryz.prog 21 = true := by kernel_rfl
theorem e22 : enters Tryz.prog 22 = true := by kernel_rfl
theorem e23 : enters Tryz.prog 23 = true := by kernel_rfl
theorem e24 : enters Tryz.prog 24 = true := by kernel_rfl
theorem e25 : enters Tryz.prog 25 = true := by kernel_rfl
theorem e26 : enters Tryz.prog 26 = true := by kernel_rfl
theorem e27 : enters Tryz.prog 27 = true := by kernel_rfl
theorem e28 : enters Tryz.prog 28 = true := by kernel_rfl
theorem e29 : enters Tryz.prog 29 = true := by kernel_rfl
theorem e30 : enters Tryz.prog 30 = true := by kernel_rfl
theorem e31 : enters Tryz.prog 31 = true := by kernel_rfl
theorem e32 : enters Tryz.prog 32 = true := by kernel_rfl
theorem e33 : enters Tryz.prog 33 = true := by kernel_rfl
theorem e34 : enters Tryz.prog 34 = true := by kernel_rfl
theorem e35 : enters Tryz.prog 35 = true := by kernel_rfl
theorem e36 : enters Tryz.prog 36 = true := by kernel_rfl
theorem e37 : enters Tryz.prog 37 = true := by kernel_rfl
theorem e38 : enters Tryz.prog 38 = true := by kernel_rfl
theorem e39 : enters Tryz.prog 39 = true := by kernel_rfl
theorem e40 : enters Tryz.prog 40 = true := by kernel_rfl
theorem e41 : enters Tryz.prog 41 = true := by kernel_rfl
theorem e42 : enters Tryz.prog 42 = true := by kernel_rfl
theorem e43 : enters Tryz.prog 43 = true := by kernel_rfl
theorem e44 : enters Tryz.prog 44 = true := by kernel_rfl
theorem e45 : enters Tryz.prog 45 = true := by kernel_rfl
theorem e46 : enters Tryz.prog 46 = true := by kernel_rfl
theorem e47 : enters Tryz.prog 47 = true := by kernel_rfl
theorem e48 : enters Tryz.prog 48 = true := by kernel_rfl
theorem e49 : enters Tryz.prog 49 = true := by kernel_rfl
theorem e50 : enters Tryz.prog 50 = true := by kernel_rfl
theorem e51 : enters Tryz.prog 51 = true := by kernel_rfl
theorem e52 : enters Tryz.prog 52 = true := by kernel_rfl
theorem e53 : enters Tryz.prog 53 = true := by kernel_rfl
theorem e54 : enters Tryz.prog 54 = true := by kernel_rfl
theorem e55 : enters Tryz.prog 55 = true := by kernel_rfl
theorem e56 : enters Tryz.prog 56 = true := by kernel_rfl
theorem e57 : enters Tryz.prog 57 = true := by kernel_rfl
theorem e58 : enters Tryz.prog 58 = true := by kernel_rfl
theorem e59 : enters Tryz.prog 59 = true := by kernel_rfl
theorem e60 : enters Tryz.prog 60 = true := by kernel_rfl
theorem e61 : enters Tryz.prog 61 = true := by kernel_rfl
theorem e62 : enters Tryz.prog 62 = true := by kernel_rfl
theorem e63 : enters Tryz.prog 63 = true := by kernel_rfl
theorem e64 : enters Tryz.prog 64 = true := by kernel_rfl
theorem e65 : enters Tryz.prog 65 = true := by kernel_rfl
theorem e66 : enters Tryz.prog 66 = true := by kernel_rfl
theorem e67 : enters Tryz.prog 67 = true := by kernel_rfl
theorem e68 : enters Tryz.prog 68 = true := by kernel_rfl
theorem e69 : enters Tryz.prog 69 = true := by kernel_rfl
theorem e70 : enters Tryz.prog 70 = true := by kernel_rfl
theorem e71 : enters Tryz.prog 71 = true := by kernel_rfl
theorem e72 : enters Tryz.prog 72 = true := by kernel_rfl
theorem e73 : enters Tryz.prog 73 = true := by kernel_rfl
theorem e74 : enters Tryz.prog 74 = true := by kernel_rfl
theorem e75 : enters Tryz.prog 75 = true := by kernel_rfl
theorem e76 : enters Tryz.prog 76 = true := by kernel_rfl
theorem e77 : enters Tryz.prog 77 = true := by kernel_rfl
theorem e78 : enters Tryz.prog 78 = true := by kernel_rfl
theorem e79 : enters Tryz.prog 79 = true := by kernel_rfl
theorem e80 : enters Tryz.prog 80 = true := by kernel_rfl
theorem e81 : enters Tryz.prog 81 = true := by kernel_rfl
theorem e82 : enters Tryz.prog 82 = true := by kernel_rfl
theorem e83 : enters Tryz.prog 83 = true := by kernel_rfl
theorem e84 : enters Tryz.prog 84 = true := by kernel_rfl
theorem e85 : enters Tryz.prog 85 = true := by kernel_rfl
theorem e86 : enters Tryz.prog 86 = true := by kernel_rfl
theorem e87 : enters Tryz.prog 87 = true := by kernel_rfl
theorem e88 : enters Tryz.prog 88 = true := by kernel_rfl
theorem e89 : enters Tryz.prog 89 = true := by kernel_rfl
theorem e90 : enters Tryz.prog 90 = true := by kernel_rfl
theorem e91 : enters Tryz.prog 91 = true := by kernel_rfl
theorem e92 : enters Tryz.prog 92 = true := by kernel_rfl
theorem e93 : enters Tryz.prog 93 = true := by kernel_rfl
theorem e94 : enters Tryz.prog 94 = true := by kernel_rfl
theorem e95 : enters Tryz.prog 95 = true := by kernel_rfl
theorem e96 : enters Tryz.prog 96 = true := by kernel_rfl
theorem e97 : enters Tryz.prog 97 = true := by kernel_rfl
theorem e98 : enters Tryz.prog 98 = true := by kernel_rfl
theorem e99 : enters Tryz.prog 99 = true := by kernel_rfl
theorem e100 : enters Tryz.prog 100 = true := by kernel_rfl
theorem e101 : enters Tryz.prog 101 = true := by kernel_rfl
theorem e102 : enters Tryz.prog 102 = true := by kernel_rfl
theorem e103 : enters Tryz.prog 103 = true := by kernel_rfl
theorem e104 : enters Tryz.prog 104 = true := by kernel_rfl
theorem e105 : enters Tryz.prog 105 = true := by kernel_rfl
theorem e106 : enters Tryz.prog 106 = true := by kernel_rfl
theorem e107 : enters Tryz.prog 107 = true := by kernel_rfl
theorem e108 : enters Tryz.prog 108 = true := by kernel_rfl
theorem e109 : enters Tryz.prog 109 = true := by kernel_rfl
theorem e110 : enters Tryz.prog 110 = true := by kernel_rfl
theorem e111 : enters Tryz.prog 111 = true := by kernel_rfl
theorem e112 : enters Tryz.prog 112 = true := by kernel_rfl
theorem e113 : enters Tryz.prog 113 = true := by kernel_rfl
theorem e114 : enters Tryz.prog 114 = true := by kernel_rfl
theorem e115 : enters Tryz.prog 115 = true := by kernel_rfl
theorem e116 : enters Tryz.prog 116 = true := by kernel_rfl
theorem e117 : enters Tryz.prog 117 = true := by kernel_rfl
theorem e118 : enters Tryz.prog 118 = true := by kernel_rfl
theorem e119 : enters Tryz.prog 119 = true := by kernel_rfl
theorem e120 : enters Tryz.prog 120 = true := by kernel_rfl
theorem e121 : enters Tryz.prog 121 = true := by kernel_rfl
theorem e122 : enters Tryz.prog 122 = true := by kernel_rfl
theorem e123 : enters Tryz.prog 123 = true := by kernel_rfl
theorem e124 : enters Tryz.prog 124 = true := by kernel_rfl
theorem e125 : enters Tryz.prog 125 = true := by kernel_rfl
theorem e126 : enters Tryz.prog 126 = true := by kernel_rfl
theorem e127 : enters Tryz.prog 127 = true := by kernel_rfl
theorem e128 : enters Tryz.prog 128 = true := by kernel_rfl
theorem e129 : enters Tryz.prog 129 = true := by kernel_rfl
theorem e130 : enters Tryz.prog 130 = true := by kernel_rfl
theorem e131 : enters Tryz.prog 131 = true := by kernel_rfl
theorem e132 : enters Tryz.prog 132 = true := by kernel_rfl
theorem e133 : enters Tryz.prog 133 = true := by kernel_rfl
theorem e134 : enters Tryz.prog 134 = true := by kernel_rfl
theorem e135 : enters Tryz.prog 135 = true := by kernel_rfl
theorem e136 : enters Tryz.prog 136 = true := by kernel_rfl
theorem e137 : enters Tryz.prog 137 = true := by kernel_rfl
theorem e138 : enters Tryz.prog 138 = true := by kernel_rfl
theorem e139 : enters Tryz.prog 139 = true := by kernel_rfl
theorem e140 : enters Tryz.prog 140 = true := by kernel_rfl
theorem e141 : enters Tryz.prog 141 = true := by kernel_rfl
theorem e142 : enters Tryz.prog 142 = true := by kernel_rfl
theorem e143 : enters Tryz.prog 143 = true := by kernel_rfl
theorem e144 : enters Tryz.prog 144 = true := by kernel_rfl
theorem e145 : enters Tryz.prog 145 = true := by kernel_rfl
theorem e146 : enters Tryz.prog 146 = true := by kernel_rfl
theorem e147 : enters Tryz.prog 147 = true := by kernel_rfl
theorem e148 : enters Tryz.prog 148 = true := by kernel_rfl
theorem e149 : enters Tryz.prog 149 = true := by kernel_rfl
theorem e150 : enters Tryz.prog 150 = true := by kernel_rfl
theorem e151 : enters Tryz.prog 151 = true := by kernel_rfl
theorem mixed : Tryz.prog.follows .mixedOrders = true := by kernel_rfl
end Go.Proofs.YtjfpaiencojehaaGreat.Ty

