/- Facts on the types of the translation, each closed. Written by wip/tools/gen.py. -/
import Derived.Test.YtacmmahhlognnaaGreatChecked
import Derived.Test.YtacmmahhlognnaaGreatAbsCode
import Derived.KernelRfl
namespace Go.Proofs.YtacmmahhlognnaaGreat.Ty
open Go.Abs Go.Proofs
@[go_sem] theorem tc_2 : Tryz.prog.cellsOf 2 = 1 := by kernel_rfl
@[go_sem] theorem tl_2 : tl Tryz.prog 2 = some (false, 1) := by kernel_rfl
@[go_sem] theorem te_2 : te Tryz.prog 2 = none := by kernel_rfl
@[go_sem] theorem tz_2 : tz Tryz.prog 2 = some [.int .i64 0] := by kernel_rfl
@[go_sem] theorem tflat_2 : tflat Tryz.prog 2 = true := by kernel_rfl
@[go_sem] theorem tbool_2 : tbool Tryz.prog 2 = false := by kernel_rfl
@[go_sem] theorem tkind_2 : tkind Tryz.prog 2 = some .i64 := by kernel_rfl
@[go_sem] theorem tc_3 : Tryz.prog.cellsOf 3 = 1 := by kernel_rfl
@[go_sem] theorem tl_3 : tl Tryz.prog 3 = some (false, 1) := by kernel_rfl
@[go_sem] theorem te_3 : te Tryz.prog 3 = none := by kernel_rfl
@[go_sem] theorem tz_3 : tz Tryz.prog 3 = some [.int .i64 0] := by kernel_rfl
@[go_sem] theorem tflat_3 : tflat Tryz.prog 3 = true := by kernel_rfl
@[go_sem] theorem tbool_3 : tbool Tryz.prog 3 = false := by kernel_rfl
@[go_sem] theorem tkind_3 : tkind Tryz.prog 3 = some .i64 := by kernel_rfl
@[go_sem] theorem tc_4 : Tryz.prog.cellsOf 4 = 1 := by kernel_rfl
@[go_sem] theorem tl_4 : tl Tryz.prog 4 = some (false, 1) := by kernel_rfl
@[go_sem] theorem te_4 : te Tryz.prog 4 = none := by kernel_rfl
@[go_sem] theorem tz_4 : tz Tryz.prog 4 = some [.bool false] := by kernel_rfl
@[go_sem] theorem tflat_4 : tflat Tryz.prog 4 = true := by kernel_rfl
@[go_sem] theorem tbool_4 : tbool Tryz.prog 4 = true := by kernel_rfl
@[go_sem] theorem tc_5 : Tryz.prog.cellsOf 5 = 1 := by kernel_rfl
@[go_sem] theorem tl_5 : tl Tryz.prog 5 = some (false, 1) := by kernel_rfl
@[go_sem] theorem te_5 : te Tryz.prog 5 = none := by kernel_rfl
@[go_sem] theorem tz_5 : tz Tryz.prog 5 = some [.int .u8 0] := by kernel_rfl
@[go_sem] theorem tflat_5 : tflat Tryz.prog 5 = true := by kernel_rfl
@[go_sem] theorem tbool_5 : tbool Tryz.prog 5 = false := by kernel_rfl
@[go_sem] theorem tkind_5 : tkind Tryz.prog 5 = some .u8 := by kernel_rfl
@[go_sem] theorem tc_6 : Tryz.prog.cellsOf 6 = 1 := by kernel_rfl
@[go_sem] theorem tl_6 : tl Tryz.prog 6 = some (false, 1) := by kernel_rfl
@[go_sem] theorem te_6 : te Tryz.prog 6 = none := by kernel_rfl
@[go_sem] theorem tz_6 : tz Tryz.prog 6 = some [.int .u8 0] := by kernel_rfl
@[go_sem] theorem tflat_6 : tflat Tryz.prog 6 = true := by kernel_rfl
@[go_sem] theorem tbool_6 : tbool Tryz.prog 6 = false := by kernel_rfl
@[go_sem] theorem tkind_6 : tkind Tryz.prog 6 = some .u8 := by kernel_rfl
@[go_sem] theorem tc_7 : Tryz.prog.cellsOf 7 = 4 := by kernel_rfl
@[go_sem] theorem tl_7 : tl Tryz.prog 7 = some (true, 4) := by kernel_rfl
@[go_sem] theorem te_7 : te Tryz.prog 7 = none := by kernel_rfl
@[go_sem] theorem tp_7 : tp Tryz.prog 7 = some [(0, 1), (1, 1), (2, 1), (3, 1)] := by kernel_rfl
@[go_sem] theorem tf_7_0 : tf Tryz.prog 7 0 = some (0, false, 1) := by kernel_rfl
@[go_sem] theorem tf_7_1 : tf Tryz.prog 7 1 = some (1, false, 1) := by kernel_rfl
@[go_sem] theorem tf_7_2 : tf Tryz.prog 7 2 = some (2, false, 1) := by kernel_rfl
@[go_sem] theorem tf_7_3 : tf Tryz.prog 7 3 = some (3, false, 1) := by kernel_rfl
@[go_sem] theorem tz_7 : tz Tryz.prog 7 = some [.int .i64 0, .int .i64 0, .bool false, .int .u8 0] := by kernel_rfl
@[go_sem] theorem tflat_7 : tflat Tryz.prog 7 = true := by kernel_rfl
@[go_sem] theorem tbool_7 : tbool Tryz.prog 7 = false := by kernel_rfl
@[go_sem] theorem tc_8 : Tryz.prog.cellsOf 8 = 4 := by kernel_rfl
@[go_sem] theorem tl_8 : tl Tryz.prog 8 = some (true, 4) := by kernel_rfl
@[go_sem] theorem te_8 : te Tryz.prog 8 = none := by kernel_rfl
@[go_sem] theorem tp_8 : tp Tryz.prog 8 = some [(0, 1), (1, 1), (2, 1), (3, 1)] := by kernel_rfl
@[go_sem] theorem tf_8_0 : tf Tryz.prog 8 0 = some (0, false, 1) := by kernel_rfl
@[go_sem] theorem tf_8_1 : tf Tryz.prog 8 1 = some (1, false, 1) := by kernel_rfl
@[go_sem] theorem tf_8_2 : tf Tryz.prog 8 2 = some (2, false, 1) := by kernel_rfl
@[go_sem] theorem tf_8_3 : tf Tryz.prog 8 3 = some (3, false, 1) := by kernel_rfl
@[go_sem] theorem tz_8 : tz Tryz.prog 8 = some [.int .i64 0, .int .i64 0, .bool false, .int .u8 0] := by kernel_rfl
@[go_sem] theorem tflat_8 : tflat Tryz.prog 8 = true := by kernel_rfl
@[go_sem] theorem tbool_8 : tbool Tryz.prog 8 = false := by kernel_rfl
@[go_sem] theorem tc_9 : Tryz.prog.cellsOf 9 = 1 := by kernel_rfl
@[go_sem] theorem tl_9 : tl Tryz.prog 9 = some (false, 1) := by kernel_rfl
@[go_sem] theorem te_9 : te Tryz.prog 9 = none := by kernel_rfl
@[go_sem] theorem tz_9 : tz Tryz.prog 9 = some [.str .empty] := by kernel_rfl
@[go_sem] theorem tflat_9 : tflat Tryz.prog 9 = true := by kernel_rfl
@[go_sem] theorem tbool_9 : tbool Tryz.prog 9 = false := by kernel_rfl
@[go_sem] theorem tstr_9 : tstr Tryz.prog 9 = true := by kernel_rfl
@[go_sem] theorem tc_10 : Tryz.prog.cellsOf 10 = 1 := by kernel_rfl
@[go_sem] theorem tl_10 : tl Tryz.prog 10 = some (false, 1) := by kernel_rfl
@[go_sem] theorem te_10 : te Tryz.prog 10 = none := by kernel_rfl
@[go_sem] theorem tz_10 : tz Tryz.prog 10 = some [.str .empty] := by kernel_rfl
@[go_sem] theorem tflat_10 : tflat Tryz.prog 10 = true := by kernel_rfl
@[go_sem] theorem tbool_10 : tbool Tryz.prog 10 = false := by kernel_rfl
@[go_sem] theorem tstr_10 : tstr Tryz.prog 10 = true := by kernel_rfl
@[go_sem] theorem tc_11 : Tryz.prog.cellsOf 11 = 1 := by kernel_rfl
@[go_sem] theorem tl_11 : tl Tryz.prog 11 = some (false, 1) := by kernel_rfl
@[go_sem] theorem te_11 : te Tryz.prog 11 = none := by kernel_rfl
@[go_sem] theorem tz_11 : tz Tryz.prog 11 = some [.str .empty] := by kernel_rfl
@[go_sem] theorem tflat_11 : tflat Tryz.prog 11 = true := by kernel_rfl
@[go_sem] theorem tbool_11 : tbool Tryz.prog 11 = false := by kernel_rfl
@[go_sem] theorem tstr_11 : tstr Tryz.prog 11 = true := by kernel_rfl
@[go_sem] theorem tc_12 : Tryz.prog.cellsOf 12 = 1 := by kernel_rfl
@[go_sem] theorem tl_12 : tl Tryz.prog 12 = some (false, 1) := by kernel_rfl
@[go_sem] theorem te_12 : te Tryz.prog 12 = none := by kernel_rfl
@[go_sem] theorem tz_12 : tz Tryz.prog 12 = some [.int .u64 0] := by kernel_rfl
@[go_sem] theorem tflat_12 : tflat Tryz.prog 12 = true := by kernel_rfl
@[go_sem] theorem tbool_12 : tbool Tryz.prog 12 = false := by kernel_rfl
@[go_sem] theorem tkind_12 : tkind Tryz.prog 12 = some .u64 := by kernel_rfl
@[go_sem] theorem tc_13 : Tryz.prog.cellsOf 13 = 2 := by kernel_rfl
@[go_sem] theorem tl_13 : tl Tryz.prog 13 = some (true, 2) := by kernel_rfl
@[go_sem] theorem te_13 : te Tryz.prog 13 = none := by kernel_rfl
@[go_sem] theorem tp_13 : tp Tryz.prog 13 = some [(0, 1), (1, 1)] := by kernel_rfl
@[go_sem] theorem tf_13_0 : tf Tryz.prog 13 0 = some (0, false, 1) := by kernel_rfl
@[go_sem] theorem tf_13_1 : tf Tryz.prog 13 1 = some (1, false, 1) := by kernel_rfl
@[go_sem] theorem tz_13 : tz Tryz.prog 13 = some [.str .empty, .int .u64 0] := by kernel_rfl
@[go_sem] theorem tflat_13 : tflat Tryz.prog 13 = true := by kernel_rfl
@[go_sem] theorem tbool_13 : tbool Tryz.prog 13 = false := by kernel_rfl
@[go_sem] theorem tc_14 : Tryz.prog.cellsOf 14 = 2 := by kernel_rfl
@[go_sem] theorem tl_14 : tl Tryz.prog 14 = some (true, 2) := by kernel_rfl
@[go_sem] theorem te_14 : te Tryz.prog 14 = none := by kernel_rfl
@[go_sem] theorem tp_14 : tp Tryz.prog 14 = some [(0, 1), (1, 1)] := by kernel_rfl
@[go_sem] theorem tf_14_0 : tf Tryz.prog 14 0 = some (0, false, 1) := by kernel_rfl
@[go_sem] theorem tf_14_1 : tf Tryz.prog 14 1 = some (1, false, 1) := by kernel_rfl
@[go_sem] theorem tz_14 : tz Tryz.prog 14 = some [.str .empty, .int .u64 0] := by kernel_rfl
@[go_sem] theorem tflat_14 : tflat Tryz.prog 14 = true := by kernel_rfl
@[go_sem] theorem tbool_14 : tbool Tryz.prog 14 = false := by kernel_rfl
@[go_sem] theorem tc_15 : Tryz.prog.cellsOf 15 = 1 := by kernel_rfl
@[go_sem] theorem tl_15 : tl Tryz.prog 15 = some (false, 1) := by kernel_rfl
@[go_sem] theorem te_15 : te Tryz.prog 15 = none := by kernel_rfl
@[go_sem] theorem tbool_15 : tbool Tryz.prog 15 = false := by kernel_rfl
@[go_sem] theorem tc_16 : Tryz.prog.cellsOf 16 = 1 := by kernel_rfl
@[go_sem] theorem tl_16 : tl Tryz.prog 16 = some (false, 1) := by kernel_rfl
@[go_sem] theorem te_16 : te Tryz.prog 16 = none := by kernel_rfl
@[go_sem] theorem tbool_16 : tbool Tryz.prog 16 = false := by kernel_rfl
@[go_sem] theorem tc_17 : Tryz.prog.cellsOf 17 = 1 := by kernel_rfl
@[go_sem] theorem tl_17 : tl Tryz.prog 17 = some (false, 1) := by kernel_rfl
@[go_sem] theorem te_17 : te Tryz.prog 17 = none := by kernel_rfl
@[go_sem] theorem tbool_17 : tbool Tryz.prog 17 = false := by kernel_rfl
@[go_sem] theorem tc_18 : Tryz.prog.cellsOf 18 = 1 := by kernel_rfl
@[go_sem] theorem tl_18 : tl Tryz.prog 18 = some (true, 1) := by kernel_rfl
@[go_sem] theorem te_18 : te Tryz.prog 18 = none := by kernel_rfl
@[go_sem] theorem tp_18 : tp Tryz.prog 18 = some [(0, 1)] := by kernel_rfl
@[go_sem] theorem tf_18_0 : tf Tryz.prog 18 0 = some (0, false, 1) := by kernel_rfl
@[go_sem] theorem tbool_18 : tbool Tryz.prog 18 = false := by kernel_rfl
@[go_sem] theorem tc_19 : Tryz.prog.cellsOf 19 = 1 := by kernel_rfl
@[go_sem] theorem tl_19 : tl Tryz.prog 19 = some (true, 1) := by kernel_rfl
@[go_sem] theorem te_19 : te Tryz.prog 19 = none := by kernel_rfl
@[go_sem] theorem tp_19 : tp Tryz.prog 19 = some [(0, 1)] := by kernel_rfl
@[go_sem] theorem tf_19_0 : tf Tryz.prog 19 0 = some (0, false, 1) := by kernel_rfl
@[go_sem] theorem tbool_19 : tbool Tryz.prog 19 = false := by kernel_rfl
@[go_sem] theorem tc_21 : Tryz.prog.cellsOf 21 = 1 := by kernel_rfl
@[go_sem] theorem tl_21 : tl Tryz.prog 21 = some (false, 1) := by kernel_rfl
@[go_sem] theorem te_21 : te Tryz.prog 21 = none := by kernel_rfl
@[go_sem] theorem tz_21 : tz Tryz.prog 21 = some [.int .i32 0] := by kernel_rfl
@[go_sem] theorem tflat_21 : tflat Tryz.prog 21 = true := by kernel_rfl
@[go_sem] theorem tbool_21 : tbool Tryz.prog 21 = false := by kernel_rfl
@[go_sem] theorem tkind_21 : tkind Tryz.prog 21 = some .i32 := by kernel_rfl
@[go_sem] theorem tc_22 : Tryz.prog.cellsOf 22 = 1 := by kernel_rfl
@[go_sem] theorem tl_22 : tl Tryz.prog 22 = some (false, 1) := by kernel_rfl
@[go_sem] theorem te_22 : te Tryz.prog 22 = some (3, 1, 8) := by kernel_rfl
@[go_sem] theorem tz_22 : tz Tryz.prog 22 = some [.sl 1 []] := by kernel_rfl
@[go_sem] theorem tflat_22 : tflat Tryz.prog 22 = false := by kernel_rfl
@[go_sem] theorem tbool_22 : tbool Tryz.prog 22 = false := by kernel_rfl
@[go_sem] theorem tc_23 : Tryz.prog.cellsOf 23 = 2 := by kernel_rfl
@[go_sem] theorem tl_23 : tl Tryz.prog 23 = some (true, 2) := by kernel_rfl
@[go_sem] theorem te_23 : te Tryz.prog 23 = none := by kernel_rfl
@[go_sem] theorem tp_23 : tp Tryz.prog 23 = some [(0, 1), (1, 1)] := by kernel_rfl
@[go_sem] theorem tf_23_0 : tf Tryz.prog 23 0 = some (0, false, 1) := by kernel_rfl
@[go_sem] theorem tf_23_1 : tf Tryz.prog 23 1 = some (1, false, 1) := by kernel_rfl
@[go_sem] theorem tz_23 : tz Tryz.prog 23 = some [.sl 1 [], .sl 1 []] := by kernel_rfl
@[go_sem] theorem tflat_23 : tflat Tryz.prog 23 = false := by kernel_rfl
@[go_sem] theorem tbool_23 : tbool Tryz.prog 23 = false := by kernel_rfl
@[go_sem] theorem tc_24 : Tryz.prog.cellsOf 24 = 2 := by kernel_rfl
@[go_sem] theorem tl_24 : tl Tryz.prog 24 = some (true, 2) := by kernel_rfl
@[go_sem] theorem te_24 : te Tryz.prog 24 = none := by kernel_rfl
@[go_sem] theorem tp_24 : tp Tryz.prog 24 = some [(0, 1), (1, 1)] := by kernel_rfl
@[go_sem] theorem tf_24_0 : tf Tryz.prog 24 0 = some (0, false, 1) := by kernel_rfl
@[go_sem] theorem tf_24_1 : tf Tryz.prog 24 1 = some (1, false, 1) := by kernel_rfl
@[go_sem] theorem tz_24 : tz Tryz.prog 24 = some [.sl 1 [], .sl 1 []] := by kernel_rfl
@[go_sem] theorem tflat_24 : tflat Tryz.prog 24 = false := by kernel_rfl
@[go_sem] theorem tbool_24 : tbool Tryz.prog 24 = false := by kernel_rfl
@[go_sem] theorem tc_25 : Tryz.prog.cellsOf 25 = 1 := by kernel_rfl
@[go_sem] theorem tl_25 : tl Tryz.prog 25 = some (false, 1) := by kernel_rfl
@[go_sem] theorem te_25 : te Tryz.prog 25 = some (113, 1, 24) := by kernel_rfl
@[go_sem] theorem tz_25 : tz Tryz.prog 25 = some [.sl 1 []] := by kernel_rfl
@[go_sem] theorem tflat_25 : tflat Tryz.prog 25 = false := by kernel_rfl
@[go_sem] theorem tbool_25 : tbool Tryz.prog 25 = false := by kernel_rfl
@[go_sem] theorem tc_26 : Tryz.prog.cellsOf 26 = 2 := by kernel_rfl
@[go_sem] theorem tl_26 : tl Tryz.prog 26 = some (true, 2) := by kernel_rfl
@[go_sem] theorem te_26 : te Tryz.prog 26 = none := by kernel_rfl
@[go_sem] theorem tp_26 : tp Tryz.prog 26 = some [(0, 1), (1, 1)] := by kernel_rfl
@[go_sem] theorem tf_26_0 : tf Tryz.prog 26 0 = some (0, false, 1) := by kernel_rfl
@[go_sem] theorem tf_26_1 : tf Tryz.prog 26 1 = some (1, false, 1) := by kernel_rfl
@[go_sem] theorem tz_26 : tz Tryz.prog 26 = some [.sl 1 [], .sl 1 []] := by kernel_rfl
@[go_sem] theorem tflat_26 : tflat Tryz.prog 26 = false := by kernel_rfl
@[go_sem] theorem tbool_26 : tbool Tryz.prog 26 = false := by kernel_rfl
@[go_sem] theorem tc_27 : Tryz.prog.cellsOf 27 = 2 := by kernel_rfl
@[go_sem] theorem tl_27 : tl Tryz.prog 27 = some (true, 2) := by kernel_rfl
@[go_sem] theorem te_27 : te Tryz.prog 27 = none := by kernel_rfl
@[go_sem] theorem tp_27 : tp Tryz.prog 27 = some [(0, 1), (1, 1)] := by kernel_rfl
@[go_sem] theorem tf_27_0 : tf Tryz.prog 27 0 = some (0, false, 1) := by kernel_rfl
@[go_sem] theorem tf_27_1 : tf Tryz.prog 27 1 = some (1, false, 1) := by kernel_rfl
@[go_sem] theorem tz_27 : tz Tryz.prog 27 = some [.sl 1 [], .sl 1 []] := by kernel_rfl
@[go_sem] theorem tflat_27 : tflat Tryz.prog 27 = false := by kernel_rfl
@[go_sem] theorem tbool_27 : tbool Tryz.prog 27 = false := by kernel_rfl
@[go_sem] theorem tc_28 : Tryz.prog.cellsOf 28 = 4 := by kernel_rfl
@[go_sem] theorem tl_28 : tl Tryz.prog 28 = some (true, 4) := by kernel_rfl
@[go_sem] theorem te_28 : te Tryz.prog 28 = none := by kernel_rfl
@[go_sem] theorem tp_28 : tp Tryz.prog 28 = some [(0, 2), (2, 2)] := by kernel_rfl
@[go_sem] theorem tf_28_0 : tf Tryz.prog 28 0 = some (0, true, 2) := by kernel_rfl
@[go_sem] theorem tf_28_1 : tf Tryz.prog 28 1 = some (2, true, 2) := by kernel_rfl
@[go_sem] theorem tz_28 : tz Tryz.prog 28 = some [.sl 1 [], .sl 1 [], .sl 1 [], .sl 1 []] := by kernel_rfl
@[go_sem] theorem tflat_28 : tflat Tryz.prog 28 = false := by kernel_rfl
@[go_sem] theorem tbool_28 : tbool Tryz.prog 28 = false := by kernel_rfl
@[go_sem] theorem tc_29 : Tryz.prog.cellsOf 29 = 4 := by kernel_rfl
@[go_sem] theorem tl_29 : tl Tryz.prog 29 = some (true, 4) := by kernel_rfl
@[go_sem] theorem te_29 : te Tryz.prog 29 = none := by kernel_rfl
@[go_sem] theorem tp_29 : tp Tryz.prog 29 = some [(0, 2), (2, 2)] := by kernel_rfl
@[go_sem] theorem tf_29_0 : tf Tryz.prog 29 0 = some (0, true, 2) := by kernel_rfl
@[go_sem] theorem tf_29_1 : tf Tryz.prog 29 1 = some (2, true, 2) := by kernel_rfl
@[go_sem] theorem tz_29 : tz Tryz.prog 29 = some [.sl 1 [], .sl 1 [], .sl 1 [], .sl 1 []] := by kernel_rfl
@[go_sem] theorem tflat_29 : tflat Tryz.prog 29 = false := by kernel_rfl
@[go_sem] theorem tbool_29 : tbool Tryz.prog 29 = false := by kernel_rfl
@[go_sem] theorem tc_33 : Tryz.prog.cellsOf 33 = 2 := by kernel_rfl
@[go_sem] theorem tl_33 : tl Tryz.prog 33 = some (true, 2) := by kernel_rfl
@[go_sem] theorem te_33 : te Tryz.prog 33 = none := by kernel_rfl
@[go_sem] theorem tp_33 : tp Tryz.prog 33 = some [(0, 1), (1, 1)] := by kernel_rfl
@[go_sem] theorem tf_33_0 : tf Tryz.prog 33 0 = some (0, false, 1) := by kernel_rfl
@[go_sem] theorem tf_33_1 : tf Tryz.prog 33 1 = some (1, false, 1) := by kernel_rfl
@[go_sem] theorem tz_33 : tz Tryz.prog 33 = some [.sl 1 [], .sl 1 []] := by kernel_rfl
@[go_sem] theorem tflat_33 : tflat Tryz.prog 33 = false := by kernel_rfl
@[go_sem] theorem tbool_33 : tbool Tryz.prog 33 = false := by kernel_rfl
@[go_sem] theorem tc_34 : Tryz.prog.cellsOf 34 = 1 := by kernel_rfl
@[go_sem] theorem tl_34 : tl Tryz.prog 34 = some (false, 1) := by kernel_rfl
@[go_sem] theorem te_34 : te Tryz.prog 34 = some (97, 1, 24) := by kernel_rfl
@[go_sem] theorem tz_34 : tz Tryz.prog 34 = some [.sl 1 []] := by kernel_rfl
@[go_sem] theorem tflat_34 : tflat Tryz.prog 34 = false := by kernel_rfl
@[go_sem] theorem tbool_34 : tbool Tryz.prog 34 = false := by kernel_rfl
@[go_sem] theorem tc_35 : Tryz.prog.cellsOf 35 = 2 := by kernel_rfl
@[go_sem] theorem tl_35 : tl Tryz.prog 35 = some (true, 2) := by kernel_rfl
@[go_sem] theorem te_35 : te Tryz.prog 35 = none := by kernel_rfl
@[go_sem] theorem tp_35 : tp Tryz.prog 35 = some [(0, 1), (1, 1)] := by kernel_rfl
@[go_sem] theorem tf_35_0 : tf Tryz.prog 35 0 = some (0, false, 1) := by kernel_rfl
@[go_sem] theorem tf_35_1 : tf Tryz.prog 35 1 = some (1, false, 1) := by kernel_rfl
@[go_sem] theorem tz_35 : tz Tryz.prog 35 = some [.sl 1 [], .sl 1 []] := by kernel_rfl
@[go_sem] theorem tflat_35 : tflat Tryz.prog 35 = false := by kernel_rfl
@[go_sem] theorem tbool_35 : tbool Tryz.prog 35 = false := by kernel_rfl
@[go_sem] theorem tc_36 : Tryz.prog.cellsOf 36 = 2 := by kernel_rfl
@[go_sem] theorem tl_36 : tl Tryz.prog 36 = some (true, 2) := by kernel_rfl
@[go_sem] theorem te_36 : te Tryz.prog 36 = none := by kernel_rfl
@[go_sem] theorem tp_36 : tp Tryz.prog 36 = some [(0, 1), (1, 1)] := by kernel_rfl
@[go_sem] theorem tf_36_0 : tf Tryz.prog 36 0 = some (0, false, 1) := by kernel_rfl
@[go_sem] theorem tf_36_1 : tf Tryz.prog 36 1 = some (1, false, 1) := by kernel_rfl
@[go_sem] theorem tz_36 : tz Tryz.prog 36 = some [.sl 1 [], .sl 1 []] := by kernel_rfl
@[go_sem] theorem tflat_36 : tflat Tryz.prog 36 = false := by kernel_rfl
@[go_sem] theorem tbool_36 : tbool Tryz.prog 36 = false := by kernel_rfl
@[go_sem] theorem tc_37 : Tryz.prog.cellsOf 37 = 4 := by kernel_rfl
@[go_sem] theorem tl_37 : tl Tryz.prog 37 = some (true, 4) := by kernel_rfl
@[go_sem] theorem te_37 : te Tryz.prog 37 = none := by kernel_rfl
@[go_sem] theorem tp_37 : tp Tryz.prog 37 = some [(0, 2), (2, 2)] := by kernel_rfl
@[go_sem] theorem tf_37_0 : tf Tryz.prog 37 0 = some (0, true, 2) := by kernel_rfl
@[go_sem] theorem tf_37_1 : tf Tryz.prog 37 1 = some (2, true, 2) := by kernel_rfl
@[go_sem] theorem tz_37 : tz Tryz.prog 37 = some [.sl 1 [], .sl 1 [], .sl 1 [], .sl 1 []] := by kernel_rfl
@[go_sem] theorem tflat_37 : tflat Tryz.prog 37 = false := by kernel_rfl
@[go_sem] theorem tbool_37 : tbool Tryz.prog 37 = false := by kernel_rfl
@[go_sem] theorem tc_38 : Tryz.prog.cellsOf 38 = 4 := by kernel_rfl
@[go_sem] theorem tl_38 : tl Tryz.prog 38 = some (true, 4) := by kernel_rfl
@[go_sem] theorem te_38 : te Tryz.prog 38 = none := by kernel_rfl
@[go_sem] theorem tp_38 : tp Tryz.prog 38 = some [(0, 2), (2, 2)] := by kernel_rfl
@[go_sem] theorem tf_38_0 : tf Tryz.prog 38 0 = some (0, true, 2) := by kernel_rfl
@[go_sem] theorem tf_38_1 : tf Tryz.prog 38 1 = some (2, true, 2) := by kernel_rfl
@[go_sem] theorem tz_38 : tz Tryz.prog 38 = some [.sl 1 [], .sl 1 [], .sl 1 [], .sl 1 []] := by kernel_rfl
@[go_sem] theorem tflat_38 : tflat Tryz.prog 38 = false := by kernel_rfl
@[go_sem] theorem tbool_38 : tbool Tryz.prog 38 = false := by kernel_rfl
@[go_sem] theorem tc_45 : Tryz.prog.cellsOf 45 = 1 := by kernel_rfl
@[go_sem] theorem tl_45 : tl Tryz.prog 45 = some (false, 1) := by kernel_rfl
@[go_sem] theorem te_45 : te Tryz.prog 45 = some (80, 2, 16) := by kernel_rfl
@[go_sem] theorem tz_45 : tz Tryz.prog 45 = some [.sl 2 []] := by kernel_rfl
@[go_sem] theorem tflat_45 : tflat Tryz.prog 45 = false := by kernel_rfl
@[go_sem] theorem tbool_45 : tbool Tryz.prog 45 = false := by kernel_rfl
@[go_sem] theorem tc_52 : Tryz.prog.cellsOf 52 = 3 := by kernel_rfl
@[go_sem] theorem tl_52 : tl Tryz.prog 52 = some (true, 3) := by kernel_rfl
@[go_sem] theorem te_52 : te Tryz.prog 52 = none := by kernel_rfl
@[go_sem] theorem tp_52 : tp Tryz.prog 52 = some [(0, 1), (1, 1), (2, 1)] := by kernel_rfl
@[go_sem] theorem tf_52_0 : tf Tryz.prog 52 0 = some (0, false, 1) := by kernel_rfl
@[go_sem] theorem tf_52_1 : tf Tryz.prog 52 1 = some (1, false, 1) := by kernel_rfl
@[go_sem] theorem tf_52_2 : tf Tryz.prog 52 2 = some (2, false, 1) := by kernel_rfl
@[go_sem] theorem tz_52 : tz Tryz.prog 52 = some [.int .i64 0, .int .i64 0, .int .i64 0] := by kernel_rfl
@[go_sem] theorem tflat_52 : tflat Tryz.prog 52 = true := by kernel_rfl
@[go_sem] theorem tbool_52 : tbool Tryz.prog 52 = false := by kernel_rfl
@[go_sem] theorem tc_53 : Tryz.prog.cellsOf 53 = 3 := by kernel_rfl
@[go_sem] theorem tl_53 : tl Tryz.prog 53 = some (true, 3) := by kernel_rfl
@[go_sem] theorem te_53 : te Tryz.prog 53 = none := by kernel_rfl
@[go_sem] theorem tp_53 : tp Tryz.prog 53 = some [(0, 1), (1, 1), (2, 1)] := by kernel_rfl
@[go_sem] theorem tf_53_0 : tf Tryz.prog 53 0 = some (0, false, 1) := by kernel_rfl
@[go_sem] theorem tf_53_1 : tf Tryz.prog 53 1 = some (1, false, 1) := by kernel_rfl
@[go_sem] theorem tf_53_2 : tf Tryz.prog 53 2 = some (2, false, 1) := by kernel_rfl
@[go_sem] theorem teq_53 : teq Tryz.prog 53 = some [0, 0, 0] := by kernel_rfl
@[go_sem] theorem tz_53 : tz Tryz.prog 53 = some [.int .i64 0, .int .i64 0, .int .i64 0] := by kernel_rfl
@[go_sem] theorem tflat_53 : tflat Tryz.prog 53 = true := by kernel_rfl
@[go_sem] theorem tbool_53 : tbool Tryz.prog 53 = false := by kernel_rfl
@[go_sem] theorem tc_55 : Tryz.prog.cellsOf 55 = 3 := by kernel_rfl
@[go_sem] theorem tl_55 : tl Tryz.prog 55 = some (true, 3) := by kernel_rfl
@[go_sem] theorem te_55 : te Tryz.prog 55 = none := by kernel_rfl
@[go_sem] theorem tp_55 : tp Tryz.prog 55 = some [(0, 1), (1, 1), (2, 1)] := by kernel_rfl
@[go_sem] theorem tf_55_0 : tf Tryz.prog 55 0 = some (0, false, 1) := by kernel_rfl
@[go_sem] theorem tf_55_1 : tf Tryz.prog 55 1 = some (1, false, 1) := by kernel_rfl
@[go_sem] theorem tf_55_2 : tf Tryz.prog 55 2 = some (2, false, 1) := by kernel_rfl
@[go_sem] theorem teq_55 : teq Tryz.prog 55 = some [0, 0, 0] := by kernel_rfl
@[go_sem] theorem tz_55 : tz Tryz.prog 55 = some [.int .i64 0, .int .i64 0, .int .i64 0] := by kernel_rfl
@[go_sem] theorem tflat_55 : tflat Tryz.prog 55 = true := by kernel_rfl
@[go_sem] theorem tbool_55 : tbool Tryz.prog 55 = false := by kernel_rfl
@[go_sem] theorem tc_58 : Tryz.prog.cellsOf 58 = 3 := by kernel_rfl
@[go_sem] theorem tl_58 : tl Tryz.prog 58 = some (true, 3) := by kernel_rfl
@[go_sem] theorem te_58 : te Tryz.prog 58 = none := by kernel_rfl
@[go_sem] theorem tp_58 : tp Tryz.prog 58 = some [(0, 1), (1, 1), (2, 1)] := by kernel_rfl
@[go_sem] theorem tf_58_0 : tf Tryz.prog 58 0 = some (0, false, 1) := by kernel_rfl
@[go_sem] theorem tf_58_1 : tf Tryz.prog 58 1 = some (1, false, 1) := by kernel_rfl
@[go_sem] theorem tf_58_2 : tf Tryz.prog 58 2 = some (2, false, 1) := by kernel_rfl
@[go_sem] theorem tz_58 : tz Tryz.prog 58 = some [.int .i64 0, .int .i64 0, .int .i64 0] := by kernel_rfl
@[go_sem] theorem tflat_58 : tflat Tryz.prog 58 = true := by kernel_rfl
@[go_sem] theorem tbool_58 : tbool Tryz.prog 58 = false := by kernel_rfl
@[go_sem] theorem tc_59 : Tryz.prog.cellsOf 59 = 3 := by kernel_rfl
@[go_sem] theorem tl_59 : tl Tryz.prog 59 = some (true, 3) := by kernel_rfl
@[go_sem] theorem te_59 : te Tryz.prog 59 = none := by kernel_rfl
@[go_sem] theorem tp_59 : tp Tryz.prog 59 = some [(0, 1), (1, 1), (2, 1)] := by kernel_rfl
@[go_sem] theorem tf_59_0 : tf Tryz.prog 59 0 = some (0, false, 1) := by kernel_rfl
@[go_sem] theorem tf_59_1 : tf Tryz.prog 59 1 = some (1, false, 1) := by kernel_rfl
@[go_sem] theorem tf_59_2 : tf Tryz.prog 59 2 = some (2, false, 1) := by kernel_rfl
@[go_sem] theorem teq_59 : teq Tryz.prog 59 = some [0, 0, 0] := by kernel_rfl
@[go_sem] theorem tz_59 : tz Tryz.prog 59 = some [.int .i64 0, .int .i64 0, .int .i64 0] := by kernel_rfl
@[go_sem] theorem tflat_59 : tflat Tryz.prog 59 = true := by kernel_rfl
@[go_sem] theorem tbool_59 : tbool Tryz.prog 59 = false := by kernel_rfl
@[go_sem] theorem tc_60 : Tryz.prog.cellsOf 60 = 3 := by kernel_rfl
@[go_sem] theorem tl_60 : tl Tryz.prog 60 = some (true, 3) := by kernel_rfl
@[go_sem] theorem te_60 : te Tryz.prog 60 = none := by kernel_rfl
@[go_sem] theorem tp_60 : tp Tryz.prog 60 = some [(0, 1), (1, 1), (2, 1)] := by kernel_rfl
@[go_sem] theorem tf_60_0 : tf Tryz.prog 60 0 = some (0, false, 1) := by kernel_rfl
@[go_sem] theorem tf_60_1 : tf Tryz.prog 60 1 = some (1, false, 1) := by kernel_rfl
@[go_sem] theorem tf_60_2 : tf Tryz.prog 60 2 = some (2, false, 1) := by kernel_rfl
@[go_sem] theorem teq_60 : teq Tryz.prog 60 = some [0, 0, 0] := by kernel_rfl
@[go_sem] theorem tz_60 : tz Tryz.prog 60 = some [.int .i64 0, .int .i64 0, .int .i64 0] := by kernel_rfl
@[go_sem] theorem tflat_60 : tflat Tryz.prog 60 = true := by kernel_rfl
@[go_sem] theorem tbool_60 : tbool Tryz.prog 60 = false := by kernel_rfl
@[go_sem] theorem tc_79 : Tryz.prog.cellsOf 79 = 2 := by kernel_rfl
@[go_sem] theorem tl_79 : tl Tryz.prog 79 = some (true, 2) := by kernel_rfl
@[go_sem] theorem te_79 : te Tryz.prog 79 = none := by kernel_rfl
@[go_sem] theorem tp_79 : tp Tryz.prog 79 = some [(0, 1), (1, 1)] := by kernel_rfl
@[go_sem] theorem tf_79_0 : tf Tryz.prog 79 0 = some (0, false, 1) := by kernel_rfl
@[go_sem] theorem tf_79_1 : tf Tryz.prog 79 1 = some (1, false, 1) := by kernel_rfl
@[go_sem] theorem tz_79 : tz Tryz.prog 79 = some [.int .i64 0, .int .i64 0] := by kernel_rfl
@[go_sem] theorem tflat_79 : tflat Tryz.prog 79 = true := by kernel_rfl
@[go_sem] theorem tbool_79 : tbool Tryz.prog 79 = false := by kernel_rfl
@[go_sem] theorem tc_80 : Tryz.prog.cellsOf 80 = 2 := by kernel_rfl
@[go_sem] theorem tl_80 : tl Tryz.prog 80 = some (true, 2) := by kernel_rfl
@[go_sem] theorem te_80 : te Tryz.prog 80 = none := by kernel_rfl
@[go_sem] theorem tp_80 : tp Tryz.prog 80 = some [(0, 1), (1, 1)] := by kernel_rfl
@[go_sem] theorem tf_80_0 : tf Tryz.prog 80 0 = some (0, false, 1) := by kernel_rfl
@[go_sem] theorem tf_80_1 : tf Tryz.prog 80 1 = some (1, false, 1) := by kernel_rfl
@[go_sem] theorem teq_80 : teq Tryz.prog 80 = some [0, 0] := by kernel_rfl
@[go_sem] theorem tz_80 : tz Tryz.prog 80 = some [.int .i64 0, .int .i64 0] := by kernel_rfl
@[go_sem] theorem tflat_80 : tflat Tryz.prog 80 = true := by kernel_rfl
@[go_sem] theorem tbool_80 : tbool Tryz.prog 80 = false := by kernel_rfl
@[go_sem] theorem tc_96 : Tryz.prog.cellsOf 96 = 1 := by kernel_rfl
@[go_sem] theorem tl_96 : tl Tryz.prog 96 = some (true, 1) := by kernel_rfl
@[go_sem] theorem te_96 : te Tryz.prog 96 = none := by kernel_rfl
@[go_sem] theorem tp_96 : tp Tryz.prog 96 = some [(0, 1)] := by kernel_rfl
@[go_sem] theorem tf_96_0 : tf Tryz.prog 96 0 = some (0, false, 1) := by kernel_rfl
@[go_sem] theorem tz_96 : tz Tryz.prog 96 = some [.sl 1 []] := by kernel_rfl
@[go_sem] theorem tflat_96 : tflat Tryz.prog 96 = false := by kernel_rfl
@[go_sem] theorem tbool_96 : tbool Tryz.prog 96 = false := by kernel_rfl
@[go_sem] theorem tc_97 : Tryz.prog.cellsOf 97 = 1 := by kernel_rfl
@[go_sem] theorem tl_97 : tl Tryz.prog 97 = some (true, 1) := by kernel_rfl
@[go_sem] theorem te_97 : te Tryz.prog 97 = none := by kernel_rfl
@[go_sem] theorem tp_97 : tp Tryz.prog 97 = some [(0, 1)] := by kernel_rfl
@[go_sem] theorem tf_97_0 : tf Tryz.prog 97 0 = some (0, false, 1) := by kernel_rfl
@[go_sem] theorem tz_97 : tz Tryz.prog 97 = some [.sl 1 []] := by kernel_rfl
@[go_sem] theorem tflat_97 : tflat Tryz.prog 97 = false := by kernel_rfl
@[go_sem] theorem tbool_97 : tbool Tryz.prog 97 = false := by kernel_rfl
@[go_sem] theorem tc_110 : Tryz.prog.cellsOf 110 = 1 := by kernel_rfl
@[go_sem] theorem tl_110 : tl Tryz.prog 110 = some (false, 1) := by kernel_rfl
@[go_sem] theorem te_110 : te Tryz.prog 110 = none := by kernel_rfl
@[go_sem] theorem tz_110 : tz Tryz.prog 110 = some [.int .u64 0] := by kernel_rfl
@[go_sem] theorem tflat_110 : tflat Tryz.prog 110 = true := by kernel_rfl
@[go_sem] theorem tbool_110 : tbool Tryz.prog 110 = false := by kernel_rfl
@[go_sem] theorem tkind_110 : tkind Tryz.prog 110 = some .u64 := by kernel_rfl
@[go_sem] theorem tc_111 : Tryz.prog.cellsOf 111 = 1 := by kernel_rfl
@[go_sem] theorem tl_111 : tl Tryz.prog 111 = some (false, 1) := by kernel_rfl
@[go_sem] theorem te_111 : te Tryz.prog 111 = some (5, 1, 1) := by kernel_rfl
@[go_sem] theorem tz_111 : tz Tryz.prog 111 = some [.sl 1 []] := by kernel_rfl
@[go_sem] theorem tflat_111 : tflat Tryz.prog 111 = false := by kernel_rfl
@[go_sem] theorem tbool_111 : tbool Tryz.prog 111 = false := by kernel_rfl
@[go_sem] theorem tc_113 : Tryz.prog.cellsOf 113 = 1 := by kernel_rfl
@[go_sem] theorem tl_113 : tl Tryz.prog 113 = some (true, 1) := by kernel_rfl
@[go_sem] theorem te_113 : te Tryz.prog 113 = none := by kernel_rfl
@[go_sem] theorem tp_113 : tp Tryz.prog 113 = some [(0, 1)] := by kernel_rfl
@[go_sem] theorem tf_113_0 : tf Tryz.prog 113 0 = some (0, false, 1) := by kernel_rfl
@[go_sem] theorem tz_113 : tz Tryz.prog 113 = some [.sl 1 []] := by kernel_rfl
@[go_sem] theorem tflat_113 : tflat Tryz.prog 113 = false := by kernel_rfl
@[go_sem] theorem tbool_113 : tbool Tryz.prog 113 = false := by kernel_rfl
@[go_sem] theorem tc_116 : Tryz.prog.cellsOf 116 = 24 := by kernel_rfl
@[go_sem] theorem tl_116 : tl Tryz.prog 116 = some (true, 24) := by kernel_rfl
@[go_sem] theorem te_116 : te Tryz.prog 116 = none := by kernel_rfl
@[go_sem] theorem ta_116 : ta Tryz.prog 116 = some (24, 4, 1) := by kernel_rfl
@[go_sem] theorem tp_116 : tp Tryz.prog 116 = some [(0, 1), (1, 1), (2, 1), (3, 1), (4, 1), (5, 1), (6, 1), (7, 1), (8, 1), (9, 1), (10, 1), (11, 1), (12, 1), (13, 1), (14, 1), (15, 1), (16, 1), (17, 1), (18, 1), (19, 1), (20, 1), (21, 1), (22, 1), (23, 1)] := by kernel_rfl
@[go_sem] theorem tz_116 : tz Tryz.prog 116 = some [.bool false, .bool false, .bool false, .bool false, .bool false, .bool false, .bool false, .bool false, .bool false, .bool false, .bool false, .bool false, .bool false, .bool false, .bool false, .bool false, .bool false, .bool false, .bool false, .bool false, .bool false, .bool false, .bool false, .bool false] := by kernel_rfl
@[go_sem] theorem tflat_116 : tflat Tryz.prog 116 = true := by kernel_rfl
@[go_sem] theorem tbool_116 : tbool Tryz.prog 116 = false := by kernel_rfl
@[go_sem] theorem tc_123 : Tryz.prog.cellsOf 123 = 1 := by kernel_rfl
@[go_sem] theorem tl_123 : tl Tryz.prog 123 = some (false, 1) := by kernel_rfl
@[go_sem] theorem te_123 : te Tryz.prog 123 = some (34, 1, 24) := by kernel_rfl
@[go_sem] theorem tz_123 : tz Tryz.prog 123 = some [.sl 1 []] := by kernel_rfl
@[go_sem] theorem tflat_123 : tflat Tryz.prog 123 = false := by kernel_rfl
@[go_sem] theorem tbool_123 : tbool Tryz.prog 123 = false := by kernel_rfl
@[go_sem] theorem tc_125 : Tryz.prog.cellsOf 125 = 3 := by kernel_rfl
@[go_sem] theorem tl_125 : tl Tryz.prog 125 = some (true, 3) := by kernel_rfl
@[go_sem] theorem te_125 : te Tryz.prog 125 = none := by kernel_rfl
@[go_sem] theorem ta_125 : ta Tryz.prog 125 = some (3, 3, 1) := by kernel_rfl
@[go_sem] theorem tp_125 : tp Tryz.prog 125 = some [(0, 1), (1, 1), (2, 1)] := by kernel_rfl
@[go_sem] theorem tz_125 : tz Tryz.prog 125 = some [.int .i64 0, .int .i64 0, .int .i64 0] := by kernel_rfl
@[go_sem] theorem tflat_125 : tflat Tryz.prog 125 = true := by kernel_rfl
@[go_sem] theorem tbool_125 : tbool Tryz.prog 125 = false := by kernel_rfl
@[go_sem] theorem tc_131 : Tryz.prog.cellsOf 131 = 4 := by kernel_rfl
@[go_sem] theorem tl_131 : tl Tryz.prog 131 = some (true, 4) := by kernel_rfl
@[go_sem] theorem te_131 : te Tryz.prog 131 = none := by kernel_rfl
@[go_sem] theorem tp_131 : tp Tryz.prog 131 = some [(0, 1), (1, 1), (2, 1), (3, 1)] := by kernel_rfl
@[go_sem] theorem tf_131_0 : tf Tryz.prog 131 0 = some (0, false, 1) := by kernel_rfl
@[go_sem] theorem tf_131_1 : tf Tryz.prog 131 1 = some (1, false, 1) := by kernel_rfl
@[go_sem] theorem tf_131_2 : tf Tryz.prog 131 2 = some (2, false, 1) := by kernel_rfl
@[go_sem] theorem tf_131_3 : tf Tryz.prog 131 3 = some (3, false, 1) := by kernel_rfl
@[go_sem] theorem tbool_131 : tbool Tryz.prog 131 = false := by kernel_rfl
@[go_sem] theorem tc_132 : Tryz.prog.cellsOf 132 = 4 := by kernel_rfl
@[go_sem] theorem tl_132 : tl Tryz.prog 132 = some (true, 4) := by kernel_rfl
@[go_sem] theorem te_132 : te Tryz.prog 132 = none := by kernel_rfl
@[go_sem] theorem tp_132 : tp Tryz.prog 132 = some [(0, 1), (1, 1), (2, 1), (3, 1)] := by kernel_rfl
@[go_sem] theorem tf_132_0 : tf Tryz.prog 132 0 = some (0, false, 1) := by kernel_rfl
@[go_sem] theorem tf_132_1 : tf Tryz.prog 132 1 = some (1, false, 1) := by kernel_rfl
@[go_sem] theorem tf_132_2 : tf Tryz.prog 132 2 = some (2, false, 1) := by kernel_rfl
@[go_sem] theorem tf_132_3 : tf Tryz.prog 132 3 = some (3, false, 1) := by kernel_rfl
@[go_sem] theorem tbool_132 : tbool Tryz.prog 132 = false := by kernel_rfl
@[go_sem] theorem tc_133 : Tryz.prog.cellsOf 133 = 0 := by kernel_rfl
@[go_sem] theorem tl_133 : tl Tryz.prog 133 = some (true, 0) := by kernel_rfl
@[go_sem] theorem te_133 : te Tryz.prog 133 = none := by kernel_rfl
@[go_sem] theorem ta_133 : ta Tryz.prog 133 = some (0, 16, 1) := by kernel_rfl
@[go_sem] theorem tp_133 : tp Tryz.prog 133 = some [] := by kernel_rfl
@[go_sem] theorem tbool_133 : tbool Tryz.prog 133 = false := by kernel_rfl
@[go_sem] theorem tc_134 : Tryz.prog.cellsOf 134 = 0 := by kernel_rfl
@[go_sem] theorem tl_134 : tl Tryz.prog 134 = some (true, 0) := by kernel_rfl
@[go_sem] theorem te_134 : te Tryz.prog 134 = none := by kernel_rfl
@[go_sem] theorem tp_134 : tp Tryz.prog 134 = some [(0, 0)] := by kernel_rfl
@[go_sem] theorem tbool_134 : tbool Tryz.prog 134 = false := by kernel_rfl
@[go_sem] theorem tc_135 : Tryz.prog.cellsOf 135 = 0 := by kernel_rfl
@[go_sem] theorem tl_135 : tl Tryz.prog 135 = some (true, 0) := by kernel_rfl
@[go_sem] theorem te_135 : te Tryz.prog 135 = none := by kernel_rfl
@[go_sem] theorem tp_135 : tp Tryz.prog 135 = some [(0, 0)] := by kernel_rfl
@[go_sem] theorem tbool_135 : tbool Tryz.prog 135 = false := by kernel_rfl
@[go_sem] theorem tc_137 : Tryz.prog.cellsOf 137 = 1 := by kernel_rfl
@[go_sem] theorem tl_137 : tl Tryz.prog 137 = some (false, 1) := by kernel_rfl
@[go_sem] theorem te_137 : te Tryz.prog 137 = none := by kernel_rfl
@[go_sem] theorem tz_137 : tz Tryz.prog 137 = some [.int .u32 0] := by kernel_rfl
@[go_sem] theorem tflat_137 : tflat Tryz.prog 137 = true := by kernel_rfl
@[go_sem] theorem tbool_137 : tbool Tryz.prog 137 = false := by kernel_rfl
@[go_sem] theorem tkind_137 : tkind Tryz.prog 137 = some .u32 := by kernel_rfl
@[go_sem] theorem tc_138 : Tryz.prog.cellsOf 138 = 1 := by kernel_rfl
@[go_sem] theorem tl_138 : tl Tryz.prog 138 = some (false, 1) := by kernel_rfl
@[go_sem] theorem te_138 : te Tryz.prog 138 = none := by kernel_rfl
@[go_sem] theorem tz_138 : tz Tryz.prog 138 = some [.int .u8 0] := by kernel_rfl
@[go_sem] theorem tflat_138 : tflat Tryz.prog 138 = true := by kernel_rfl
@[go_sem] theorem tbool_138 : tbool Tryz.prog 138 = false := by kernel_rfl
@[go_sem] theorem tkind_138 : tkind Tryz.prog 138 = some .u8 := by kernel_rfl
@[go_sem] theorem tc_139 : Tryz.prog.cellsOf 139 = 1 := by kernel_rfl
@[go_sem] theorem tl_139 : tl Tryz.prog 139 = some (false, 1) := by kernel_rfl
@[go_sem] theorem te_139 : te Tryz.prog 139 = none := by kernel_rfl
@[go_sem] theorem tz_139 : tz Tryz.prog 139 = some [.int .u8 0] := by kernel_rfl
@[go_sem] theorem tflat_139 : tflat Tryz.prog 139 = true := by kernel_rfl
@[go_sem] theorem tbool_139 : tbool Tryz.prog 139 = false := by kernel_rfl
@[go_sem] theorem tkind_139 : tkind Tryz.prog 139 = some .u8 := by kernel_rfl
@[go_sem] theorem tc_141 : Tryz.prog.cellsOf 141 = 1 := by kernel_rfl
@[go_sem] theorem tl_141 : tl Tryz.prog 141 = some (false, 1) := by kernel_rfl
@[go_sem] theorem te_141 : te Tryz.prog 141 = none := by kernel_rfl
@[go_sem] theorem tbool_141 : tbool Tryz.prog 141 = false := by kernel_rfl
@[go_sem] theorem tc_142 : Tryz.prog.cellsOf 142 = 1 := by kernel_rfl
@[go_sem] theorem tl_142 : tl Tryz.prog 142 = some (false, 1) := by kernel_rfl
@[go_sem] theorem te_142 : te Tryz.prog 142 = none := by kernel_rfl
@[go_sem] theorem tz_142 : tz Tryz.prog 142 = some [.int .i32 0] := by kernel_rfl
@[go_sem] theorem tflat_142 : tflat Tryz.prog 142 = true := by kernel_rfl
@[go_sem] theorem tbool_142 : tbool Tryz.prog 142 = false := by kernel_rfl
@[go_sem] theorem tkind_142 : tkind Tryz.prog 142 = some .i32 := by kernel_rfl
@[go_sem] theorem tc_143 : Tryz.prog.cellsOf 143 = 1 := by kernel_rfl
@[go_sem] theorem tl_143 : tl Tryz.prog 143 = some (false, 1) := by kernel_rfl
@[go_sem] theorem te_143 : te Tryz.prog 143 = none := by kernel_rfl
@[go_sem] theorem tz_143 : tz Tryz.prog 143 = some [.int .i32 0] := by kernel_rfl
@[go_sem] theorem tflat_143 : tflat Tryz.prog 143 = true := by kernel_rfl
@[go_sem] theorem tbool_143 : tbool Tryz.prog 143 = false := by kernel_rfl
@[go_sem] theorem tkind_143 : tkind Tryz.prog 143 = some .i32 := by kernel_rfl
@[go_sem] theorem tc_144 : Tryz.prog.cellsOf 144 = 11 := by kernel_rfl
@[go_sem] theorem tl_144 : tl Tryz.prog 144 = some (true, 11) := by kernel_rfl
@[go_sem] theorem te_144 : te Tryz.prog 144 = none := by kernel_rfl
@[go_sem] theorem tf_144_0 : tf Tryz.prog 144 0 = some (0, false, 1) := by kernel_rfl
@[go_sem] theorem tf_144_1 : tf Tryz.prog 144 1 = some (1, false, 1) := by kernel_rfl
@[go_sem] theorem tf_144_2 : tf Tryz.prog 144 2 = some (2, false, 1) := by kernel_rfl
@[go_sem] theorem tf_144_3 : tf Tryz.prog 144 3 = some (3, false, 1) := by kernel_rfl
@[go_sem] theorem tf_144_4 : tf Tryz.prog 144 4 = some (4, false, 1) := by kernel_rfl
@[go_sem] theorem tf_144_5 : tf Tryz.prog 144 5 = some (5, false, 1) := by kernel_rfl
@[go_sem] theorem tf_144_6 : tf Tryz.prog 144 6 = some (6, false, 1) := by kernel_rfl
@[go_sem] theorem tf_144_8 : tf Tryz.prog 144 8 = some (8, false, 1) := by kernel_rfl
@[go_sem] theorem tf_144_9 : tf Tryz.prog 144 9 = some (9, false, 1) := by kernel_rfl
@[go_sem] theorem tf_144_10 : tf Tryz.prog 144 10 = some (10, false, 1) := by kernel_rfl
@[go_sem] theorem tbool_144 : tbool Tryz.prog 144 = false := by kernel_rfl
@[go_sem] theorem tc_145 : Tryz.prog.cellsOf 145 = 11 := by kernel_rfl
@[go_sem] theorem tl_145 : tl Tryz.prog 145 = some (true, 11) := by kernel_rfl
@[go_sem] theorem te_145 : te Tryz.prog 145 = none := by kernel_rfl
@[go_sem] theorem tf_145_0 : tf Tryz.prog 145 0 = some (0, false, 1) := by kernel_rfl
@[go_sem] theorem tf_145_1 : tf Tryz.prog 145 1 = some (1, false, 1) := by kernel_rfl
@[go_sem] theorem tf_145_2 : tf Tryz.prog 145 2 = some (2, false, 1) := by kernel_rfl
@[go_sem] theorem tf_145_3 : tf Tryz.prog 145 3 = some (3, false, 1) := by kernel_rfl
@[go_sem] theorem tf_145_4 : tf Tryz.prog 145 4 = some (4, false, 1) := by kernel_rfl
@[go_sem] theorem tf_145_5 : tf Tryz.prog 145 5 = some (5, false, 1) := by kernel_rfl
@[go_sem] theorem tf_145_6 : tf Tryz.prog 145 6 = some (6, false, 1) := by kernel_rfl
@[go_sem] theorem tf_145_8 : tf Tryz.prog 145 8 = some (8, false, 1) := by kernel_rfl
@[go_sem] theorem tf_145_9 : tf Tryz.prog 145 9 = some (9, false, 1) := by kernel_rfl
@[go_sem] theorem tf_145_10 : tf Tryz.prog 145 10 = some (10, false, 1) := by kernel_rfl
@[go_sem] theorem tbool_145 : tbool Tryz.prog 145 = false := by kernel_rfl
theorem e2 : enters Tryz.prog 2 = true := by kernel_rfl
theorem e3 : enters Tryz.prog 3 = true := by kernel_rfl
theorem e4 : enters Tryz.prog 4 = true := by kernel_rfl
theorem e5 : enters Tryz.prog 5 = true := by kernel_rfl
theorem e6 : enters Tryz.prog 6 = true := by kernel_rfl
theorem e7 : enters Tryz.prog 7 = true := by kernel_rfl
theorem e8 : enters Tryz.prog 8 = true := by kernel_rfl
theorem e9 : enters Tryz.prog 9 = true := by kernel_rfl
theorem e10 : enters Tryz.prog 10 = true := by kernel_rfl
theorem e11 : enters Tryz.prog 11 = true := by kernel_rfl
theorem e12 : enters Tryz.prog 12 = true := by kernel_rfl
theorem e13 : enters Tryz.prog 13 = true := by kernel_rfl
theorem e14 : enters Tryz.prog 14 = true := by kernel_rfl
theorem e15 : enters Tryz.prog 15 = true := by kernel_rfl
theorem e16 : enters Tryz.prog 16 = true := by kernel_rfl
theorem e17 : enters Tryz.prog 17 = true := by kernel_rfl
theorem e18 : enters Tryz.prog 18 = true := by kernel_rfl
theorem e19 : enters Tryz.prog 19 = true := by kernel_rfl
theorem e20 : enters Tryz.prog 20 = true := by kernel_rfl
theorem e21 : enters Tryz.prog 21 = true := by kernel_rfl
theorem e22 : enters Tryz.prog 22 = true := by kernel_rfl
theorem e23 : enters Tryz.prog 23 = true := by kernel_rfl
theorem e24 : enters Tryz.prog 24 = true := by kernel_rfl
theorem e25 : enters Tryz.prog 25 = true := by kernel_rfl
theorem e26 : enters Tryz.prog 26 = true := by kernel_rfl
theorem e27 : enters Tryz.prog 27 = true := by kernel_rfl
theorem e28 : enters Tryz.prog 28 = true := by kernel_rfl
theorem e29 : enters Tryz.prog 29 = true := by kernel_rfl
theorem e30 : enters Tryz.prog 30 = true := by kernel_rfl
theorem e31 : enters Tryz.prog 31 = true := by kernel_rfl
theorem e32 : enters Tryz.prog 32 = true := by kernel_rfl
theorem e33 : enters Tryz.prog 33 = true := by kernel_rfl
theorem e34 : enters Tryz.prog 34 = true := by kernel_rfl
theorem e35 : enters Tryz.prog 35 = true := by kernel_rfl
theorem e36 : enters Tryz.prog 36 = true := by kernel_rfl
theorem e37 : enters Tryz.prog 37 = true := by kernel_rfl
theorem e38 : enters Tryz.prog 38 = true := by kernel_rfl
theorem e39 : enters Tryz.prog 39 = true := by kernel_rfl
theorem e40 : enters Tryz.prog 40 = true := by kernel_rfl
theorem e41 : enters Tryz.prog 41 = true := by kernel_rfl
theorem e42 : enters Tryz.prog 42 = true := by kernel_rfl
theorem e43 : enters Tryz.prog 43 = true := by kernel_rfl
theorem e44 : enters Tryz.prog 44 = true := by kernel_rfl
theorem e45 : enters Tryz.prog 45 = true := by kernel_rfl
theorem e46 : enters Tryz.prog 46 = true := by kernel_rfl
theorem e47 : enters Tryz.prog 47 = true := by kernel_rfl
theorem e48 : enters Tryz.prog 48 = true := by kernel_rfl
theorem e49 : enters Tryz.prog 49 = true := by kernel_rfl
theorem e50 : enters Tryz.prog 50 = true := by kernel_rfl
theorem e51 : enters Tryz.prog 51 = true := by kernel_rfl
theorem e52 : enters Tryz.prog 52 = true := by kernel_rfl
theorem e53 : enters Tryz.prog 53 = true := by kernel_rfl
theorem e54 : enters Tryz.prog 54 = true := by kernel_rfl
theorem e55 : enters Tryz.prog 55 = true := by kernel_rfl
theorem e56 : enters Tryz.prog 56 = true := by kernel_rfl
theorem e57 : enters Tryz.prog 57 = true := by kernel_rfl
theorem e58 : enters Tryz.prog 58 = true := by kernel_rfl
theorem e59 : enters Tryz.prog 59 = true := by kernel_rfl
theorem e60 : enters Tryz.prog 60 = true := by kernel_rfl
theorem e61 : enters Tryz.prog 61 = true := by kernel_rfl
theorem e62 : enters Tryz.prog 62 = true := by kernel_rfl
theorem e63 : enters Tryz.prog 63 = true := by kernel_rfl
theorem e64 : enters Tryz.prog 64 = true := by kernel_rfl
theorem e65 : enters Tryz.prog 65 = true := by kernel_rfl
theorem e66 : enters Tryz.prog 66 = true := by kernel_rfl
theorem e67 : enters Tryz.prog 67 = true := by kernel_rfl
theorem e68 : enters Tryz.prog 68 = true := by kernel_rfl
theorem e69 : enters Tryz.prog 69 = true := by kernel_rfl
theorem e70 : enters Tryz.prog 70 = true := by kernel_rfl
theorem e71 : enters Tryz.prog 71 = true := by kernel_rfl
theorem e72 : enters Tryz.prog 72 = true := by kernel_rfl
theorem e73 : enters Tryz.prog 73 = true := by kernel_rfl
theorem e74 : enters Tryz.prog 74 = true := by kernel_rfl
theorem e75 : enters Tryz.prog 75 = true := by kernel_rfl
theorem e76 : enters Tryz.prog 76 = true := by kernel_rfl
theorem e77 : enters Tryz.prog 77 = true := by kernel_rfl
theorem e78 : enters Tryz.prog 78 = true := by kernel_rfl
theorem e79 : enters Tryz.prog 79 = true := by kernel_rfl
theorem e80 : enters Tryz.prog 80 = true := by kernel_rfl
theorem e81 : enters Tryz.prog 81 = true := by kernel_rfl
theorem e82 : enters Tryz.prog 82 = true := by kernel_rfl
theorem e83 : enters Tryz.prog 83 = true := by kernel_rfl
theorem e84 : enters Tryz.prog 84 = true := by kernel_rfl
theorem e85 : enters Tryz.prog 85 = true := by kernel_rfl
theorem e86 : enters Tryz.prog 86 = true := by kernel_rfl
theorem e87 : enters Tryz.prog 87 = true := by kernel_rfl
theorem e88 : enters Tryz.prog 88 = true := by kernel_rfl
theorem e89 : enters Tryz.prog 89 = true := by kernel_rfl
theorem e90 : enters Tryz.prog 90 = true := by kernel_rfl
theorem e91 : enters Tryz.prog 91 = true := by kernel_rfl
theorem e92 : enters Tryz.prog 92 = true := by kernel_rfl
theorem e93 : enters Tryz.prog 93 = true := by kernel_rfl
theorem e94 : enters Tryz.prog 94 = true := by kernel_rfl
theorem e95 : enters Tryz.prog 95 = true := by kernel_rfl
theorem e96 : enters Tryz.prog 96 = true := by kernel_rfl
theorem e97 : enters Tryz.prog 97 = true := by kernel_rfl
theorem e98 : enters Tryz.prog 98 = true := by kernel_rfl
theorem e99 : enters Tryz.prog 99 = true := by kernel_rfl
theorem e100 : enters Tryz.prog 100 = true := by kernel_rfl
theorem e101 : enters Tryz.prog 101 = true := by kernel_rfl
theorem e102 : enters Tryz.prog 102 = true := by kernel_rfl
theorem e103 : enters Tryz.prog 103 = true := by kernel_rfl
theorem e104 : enters Tryz.prog 104 = true := by kernel_rfl
theorem e105 : enters Tryz.prog 105 = true := by kernel_rfl
theorem e106 : enters Tryz.prog 106 = true := by kernel_rfl
theorem e107 : enters Tryz.prog 107 = true := by kernel_rfl
theorem e108 : enters Tryz.prog 108 = true := by kernel_rfl
theorem e109 : enters Tryz.prog 109 = true := by kernel_rfl
theorem e110 : enters Tryz.prog 110 = true := by kernel_rfl
theorem e111 : enters Tryz.prog 111 = true := by kernel_rfl
theorem e112 : enters Tryz.prog 112 = true := by kernel_rfl
theorem e113 : enters Tryz.prog 113 = true := by kernel_rfl
theorem e114 : enters Tryz.prog 114 = true := by kernel_rfl
theorem e115 : enters Tryz.prog 115 = true := by kernel_rfl
theorem e116 : enters Tryz.prog 116 = true := by kernel_rfl
theorem e117 : enters Tryz.prog 117 = true := by kernel_rfl
theorem e118 : enters Tryz.prog 118 = true := by kernel_rfl
theorem e119 : enters Tryz.prog 119 = true := by kernel_rfl
theorem e120 : enters Tryz.prog 120 = true := by kernel_rfl
theorem e121 : enters Tryz.prog 121 = true := by kernel_rfl
theorem e122 : enters Tryz.prog 122 = true := by kernel_rfl
theorem e123 : enters Tryz.prog 123 = true := by kernel_rfl
theorem e124 : enters Tryz.prog 124 = true := by kernel_rfl
theorem e125 : enters Tryz.prog 125 = true := by kernel_rfl
theorem e126 : enters Tryz.prog 126 = true := by kernel_rfl
theorem e127 : enters Tryz.prog 127 = true := by kernel_rfl
theorem e128 : enters Tryz.prog 128 = true := by kernel_rfl
theorem e129 : enters Tryz.prog 129 = true := by kernel_rfl
theorem e130 : enters Tryz.prog 130 = true := by kernel_rfl
theorem e131 : enters Tryz.prog 131 = true := by kernel_rfl
theorem e132 : enters Tryz.prog 132 = true := by kernel_rfl
theorem e133 : enters Tryz.prog 133 = true := by kernel_rfl
theorem e134 : enters Tryz.prog 134 = true := by kernel_rfl
theorem e135 : enters Tryz.prog 135 = true := by kernel_rfl
theorem e136 : enters Tryz.prog 136 = true := by kernel_rfl
theorem e137 : enters Tryz.prog 137 = true := by kernel_rfl
theorem e138 : enters Tryz.prog 138 = true := by kernel_rfl
theorem e139 : enters Tryz.prog 139 = true := by kernel_rfl
theorem e140 : enters Tryz.prog 140 = true := by kernel_rfl
theorem e141 : enters Tryz.prog 141 = true := by kernel_rfl
theorem e142 : enters Tryz.prog 142 = true := by kernel_rfl
theorem e143 : enters Tryz.prog 143 = true := by kernel_rfl
theorem e144 : enters Tryz.prog 144 = true := by kernel_rfl
theorem e145 : enters Tryz.prog 145 = true := by kernel_rfl
theorem e146 : enters Tryz.prog 146 = true := by kernel_rfl
theorem e147 : enters Tryz.prog 147 = true := by kernel_rfl
theorem e148 : enters Tryz.prog 148 = true := by kernel_rfl
theorem mixed : Tryz.prog.follows .mixedOrders = true := by kernel_rfl
end Go.Proofs.YtacmmahhlognnaaGreat.Ty

