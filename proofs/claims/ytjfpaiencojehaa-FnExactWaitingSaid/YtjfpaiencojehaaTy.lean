/- Facts on the types of the translation, each closed. Written by wip/tools/gen.py. -/
import Derived.Test.YtjfpaiencojehaaChecked
import Derived.Test.YtjfpaiencojehaaAbsCode
import Derived.KernelRfl
namespace Go.Proofs.Ytjfpaiencojehaa.Ty
open Go.Abs Go.Proofs
@[go_sem] theorem tc_2 : Try.prog.cellsOf 2 = 1 := by kernel_rfl
@[go_sem] theorem tl_2 : tl Try.prog 2 = some (false, 1) := by kernel_rfl
@[go_sem] theorem te_2 : te Try.prog 2 = none := by kernel_rfl
@[go_sem] theorem tz_2 : tz Try.prog 2 = some [.int .i64 0] := by kernel_rfl
@[go_sem] theorem tflat_2 : tflat Try.prog 2 = true := by kernel_rfl
@[go_sem] theorem tbool_2 : tbool Try.prog 2 = false := by kernel_rfl
@[go_sem] theorem tkind_2 : tkind Try.prog 2 = some .i64 := by kernel_rfl
@[go_sem] theorem tc_3 : Try.prog.cellsOf 3 = 1 := by kernel_rfl
@[go_sem] theorem tl_3 : tl Try.prog 3 = some (false, 1) := by kernel_rfl
@[go_sem] theorem te_3 : te Try.prog 3 = none := by kernel_rfl
@[go_sem] theorem tz_3 : tz Try.prog 3 = some [.int .i64 0] := by kernel_rfl
@[go_sem] theorem tflat_3 : tflat Try.prog 3 = true := by kernel_rfl
@[go_sem] theorem tbool_3 : tbool Try.prog 3 = false := by kernel_rfl
@[go_sem] theorem tkind_3 : tkind Try.prog 3 = some .i64 := by kernel_rfl
@[go_sem] theorem tc_4 : Try.prog.cellsOf 4 = 1 := by kernel_rfl
@[go_sem] theorem tl_4 : tl Try.prog 4 = some (false, 1) := by kernel_rfl
@[go_sem] theorem te_4 : te Try.prog 4 = none := by kernel_rfl
@[go_sem] theorem tz_4 : tz Try.prog 4 = some [.bool false] := by kernel_rfl
@[go_sem] theorem tflat_4 : tflat Try.prog 4 = true := by kernel_rfl
@[go_sem] theorem tbool_4 : tbool Try.prog 4 = true := by kernel_rfl
@[go_sem] theorem tc_5 : Try.prog.cellsOf 5 = 1 := by kernel_rfl
@[go_sem] theorem tl_5 : tl Try.prog 5 = some (false, 1) := by kernel_rfl
@[go_sem] theorem te_5 : te Try.prog 5 = none := by kernel_rfl
@[go_sem] theorem tz_5 : tz Try.prog 5 = some [.int .u8 0] := by kernel_rfl
@[go_sem] theorem tflat_5 : tflat Try.prog 5 = true := by kernel_rfl
@[go_sem] theorem tbool_5 : tbool Try.prog 5 = false := by kernel_rfl
@[go_sem] theorem tkind_5 : tkind Try.prog 5 = some .u8 := by kernel_rfl
@[go_sem] theorem tc_6 : Try.prog.cellsOf 6 = 1 := by kernel_rfl
@[go_sem] theorem tl_6 : tl Try.prog 6 = some (false, 1) := by kernel_rfl
@[go_sem] theorem te_6 : te Try.prog 6 = none := by kernel_rfl
@[go_sem] theorem tz_6 : tz Try.prog 6 = some [.int .u8 0] := by kernel_rfl
@[go_sem] theorem tflat_6 : tflat Try.prog 6 = true := by kernel_rfl
@[go_sem] theorem tbool_6 : tbool Try.prog 6 = false := by kernel_rfl
@[go_sem] theorem tkind_6 : tkind Try.prog 6 = some .u8 := by kernel_rfl
@[go_sem] theorem tc_7 : Try.prog.cellsOf 7 = 4 := by kernel_rfl
@[go_sem] theorem tl_7 : tl Try.prog 7 = some (true, 4) := by kernel_rfl
@[go_sem] theorem te_7 : te Try.prog 7 = none := by kernel_rfl
@[go_sem] theorem tp_7 : tp Try.prog 7 = some [(0, 1), (1, 1), (2, 1), (3, 1)] := by kernel_rfl
@[go_sem] theorem tf_7_0 : tf Try.prog 7 0 = some (0, false, 1) := by kernel_rfl
@[go_sem] theorem tf_7_1 : tf Try.prog 7 1 = some (1, false, 1) := by kernel_rfl
@[go_sem] theorem tf_7_2 : tf Try.prog 7 2 = some (2, false, 1) := by kernel_rfl
@[go_sem] theorem tf_7_3 : tf Try.prog 7 3 = some (3, false, 1) := by kernel_rfl
@[go_sem] theorem tz_7 : tz Try.prog 7 = some [.int .i64 0, .int .i64 0, .bool false, .int .u8 0] := by kernel_rfl
@[go_sem] theorem tflat_7 : tflat Try.prog 7 = true := by kernel_rfl
@[go_sem] theorem tbool_7 : tbool Try.prog 7 = false := by kernel_rfl
@[go_sem] theorem tc_8 : Try.prog.cellsOf 8 = 4 := by kernel_rfl
@[go_sem] theorem tl_8 : tl Try.prog 8 = some (true, 4) := by kernel_rfl
@[go_sem] theorem te_8 : te Try.prog 8 = none := by kernel_rfl
@[go_sem] theorem tp_8 : tp Try.prog 8 = some [(0, 1), (1, 1), (2, 1), (3, 1)] := by kernel_rfl
@[go_sem] theorem tf_8_0 : tf Try.prog 8 0 = some (0, false, 1) := by kernel_rfl
@[go_sem] theorem tf_8_1 : tf Try.prog 8 1 = some (1, false, 1) := by kernel_rfl
@[go_sem] theorem tf_8_2 : tf Try.prog 8 2 = some (2, false, 1) := by kernel_rfl
@[go_sem] theorem tf_8_3 : tf Try.prog 8 3 = some (3, false, 1) := by kernel_rfl
@[go_sem] theorem tz_8 : tz Try.prog 8 = some [.int .i64 0, .int .i64 0, .bool false, .int .u8 0] := by kernel_rfl
@[go_sem] theorem tflat_8 : tflat Try.prog 8 = true := by kernel_rfl
@[go_sem] theorem tbool_8 : tbool Try.prog 8 = false := by kernel_rfl
@[go_sem] theorem tc_9 : Try.prog.cellsOf 9 = 1 := by kernel_rfl
@[go_sem] theorem tl_9 : tl Try.prog 9 = some (false, 1) := by kernel_rfl
@[go_sem] theorem te_9 : te Try.prog 9 = none := by kernel_rfl
@[go_sem] theorem tz_9 : tz Try.prog 9 = some [.str .empty] := by kernel_rfl
@[go_sem] theorem tflat_9 : tflat Try.prog 9 = true := by kernel_rfl
@[go_sem] theorem tbool_9 : tbool Try.prog 9 = false := by kernel_rfl
@[go_sem] theorem tstr_9 : tstr Try.prog 9 = true := by kernel_rfl
@[go_sem] theorem tc_10 : Try.prog.cellsOf 10 = 1 := by kernel_rfl
@[go_sem] theorem tl_10 : tl Try.prog 10 = some (false, 1) := by kernel_rfl
@[go_sem] theorem te_10 : te Try.prog 10 = none := by kernel_rfl
@[go_sem] theorem tz_10 : tz Try.prog 10 = some [.str .empty] := by kernel_rfl
@[go_sem] theorem tflat_10 : tflat Try.prog 10 = true := by kernel_rfl
@[go_sem] theorem tbool_10 : tbool Try.prog 10 = false := by kernel_rfl
@[go_sem] theorem tstr_10 : tstr Try.prog 10 = true := by kernel_rfl
@[go_sem] theorem tc_11 : Try.prog.cellsOf 11 = 1 := by kernel_rfl
@[go_sem] theorem tl_11 : tl Try.prog 11 = some (false, 1) := by kernel_rfl
@[go_sem] theorem te_11 : te Try.prog 11 = none := by kernel_rfl
@[go_sem] theorem tz_11 : tz Try.prog 11 = some [.str .empty] := by kernel_rfl
@[go_sem] theorem tflat_11 : tflat Try.prog 11 = true := by kernel_rfl
@[go_sem] theorem tbool_11 : tbool Try.prog 11 = false := by kernel_rfl
@[go_sem] theorem tstr_11 : tstr Try.prog 11 = true := by kernel_rfl
@[go_sem] theorem tc_12 : Try.prog.cellsOf 12 = 1 := by kernel_rfl
@[go_sem] theorem tl_12 : tl Try.prog 12 = some (false, 1) := by kernel_rfl
@[go_sem] theorem te_12 : te Try.prog 12 = none := by kernel_rfl
@[go_sem] theorem tz_12 : tz Try.prog 12 = some [.int .u64 0] := by kernel_rfl
@[go_sem] theorem tflat_12 : tflat Try.prog 12 = true := by kernel_rfl
@[go_sem] theorem tbool_12 : tbool Try.prog 12 = false := by kernel_rfl
@[go_sem] theorem tkind_12 : tkind Try.prog 12 = some .u64 := by kernel_rfl
@[go_sem] theorem tc_13 : Try.prog.cellsOf 13 = 2 := by kernel_rfl
@[go_sem] theorem tl_13 : tl Try.prog 13 = some (true, 2) := by kernel_rfl
@[go_sem] theorem te_13 : te Try.prog 13 = none := by kernel_rfl
@[go_sem] theorem tp_13 : tp Try.prog 13 = some [(0, 1), (1, 1)] := by kernel_rfl
@[go_sem] theorem tf_13_0 : tf Try.prog 13 0 = some (0, false, 1) := by kernel_rfl
@[go_sem] theorem tf_13_1 : tf Try.prog 13 1 = some (1, false, 1) := by kernel_rfl
@[go_sem] theorem tz_13 : tz Try.prog 13 = some [.str .empty, .int .u64 0] := by kernel_rfl
@[go_sem] theorem tflat_13 : tflat Try.prog 13 = true := by kernel_rfl
@[go_sem] theorem tbool_13 : tbool Try.prog 13 = false := by kernel_rfl
@[go_sem] theorem tc_14 : Try.prog.cellsOf 14 = 2 := by kernel_rfl
@[go_sem] theorem tl_14 : tl Try.prog 14 = some (true, 2) := by kernel_rfl
@[go_sem] theorem te_14 : te Try.prog 14 = none := by kernel_rfl
@[go_sem] theorem tp_14 : tp Try.prog 14 = some [(0, 1), (1, 1)] := by kernel_rfl
@[go_sem] theorem tf_14_0 : tf Try.prog 14 0 = some (0, false, 1) := by kernel_rfl
@[go_sem] theorem tf_14_1 : tf Try.prog 14 1 = some (1, false, 1) := by kernel_rfl
@[go_sem] theorem tz_14 : tz Try.prog 14 = some [.str .empty, .int .u64 0] := by kernel_rfl
@[go_sem] theorem tflat_14 : tflat Try.prog 14 = true := by kernel_rfl
@[go_sem] theorem tbool_14 : tbool Try.prog 14 = false := by kernel_rfl
@[go_sem] theorem tc_15 : Try.prog.cellsOf 15 = 1 := by kernel_rfl
@[go_sem] theorem tl_15 : tl Try.prog 15 = some (false, 1) := by kernel_rfl
@[go_sem] theorem te_15 : te Try.prog 15 = none := by kernel_rfl
@[go_sem] theorem tbool_15 : tbool Try.prog 15 = false := by kernel_rfl
@[go_sem] theorem tc_16 : Try.prog.cellsOf 16 = 1 := by kernel_rfl
@[go_sem] theorem tl_16 : tl Try.prog 16 = some (false, 1) := by kernel_rfl
@[go_sem] theorem te_16 : te Try.prog 16 = none := by kernel_rfl
@[go_sem] theorem tbool_16 : tbool Try.prog 16 = false := by kernel_rfl
@[go_sem] theorem tc_17 : Try.prog.cellsOf 17 = 1 := by kernel_rfl
@[go_sem] theorem tl_17 : tl Try.prog 17 = some (false, 1) := by kernel_rfl
@[go_sem] theorem te_17 : te Try.prog 17 = none := by kernel_rfl
@[go_sem] theorem tbool_17 : tbool Try.prog 17 = false := by kernel_rfl
@[go_sem] theorem tc_18 : Try.prog.cellsOf 18 = 1 := by kernel_rfl
@[go_sem] theorem tl_18 : tl Try.prog 18 = some (true, 1) := by kernel_rfl
@[go_sem] theorem te_18 : te Try.prog 18 = none := by kernel_rfl
@[go_sem] theorem tp_18 : tp Try.prog 18 = some [(0, 1)] := by kernel_rfl
@[go_sem] theorem tf_18_0 : tf Try.prog 18 0 = some (0, false, 1) := by kernel_rfl
@[go_sem] theorem tbool_18 : tbool Try.prog 18 = false := by kernel_rfl
@[go_sem] theorem tc_19 : Try.prog.cellsOf 19 = 1 := by kernel_rfl
@[go_sem] theorem tl_19 : tl Try.prog 19 = some (true, 1) := by kernel_rfl
@[go_sem] theorem te_19 : te Try.prog 19 = none := by kernel_rfl
@[go_sem] theorem tp_19 : tp Try.prog 19 = some [(0, 1)] := by kernel_rfl
@[go_sem] theorem tf_19_0 : tf Try.prog 19 0 = some (0, false, 1) := by kernel_rfl
@[go_sem] theorem tbool_19 : tbool Try.prog 19 = false := by kernel_rfl
@[go_sem] theorem tc_21 : Try.prog.cellsOf 21 = 1 := by kernel_rfl
@[go_sem] theorem tl_21 : tl Try.prog 21 = some (false, 1) := by kernel_rfl
@[go_sem] theorem te_21 : te Try.prog 21 = none := by kernel_rfl
@[go_sem] theorem tz_21 : tz Try.prog 21 = some [.int .i32 0] := by kernel_rfl
@[go_sem] theorem tflat_21 : tflat Try.prog 21 = true := by kernel_rfl
@[go_sem] theorem tbool_21 : tbool Try.prog 21 = false := by kernel_rfl
@[go_sem] theorem tkind_21 : tkind Try.prog 21 = some .i32 := by kernel_rfl
@[go_sem] theorem tc_22 : Try.prog.cellsOf 22 = 1 := by kernel_rfl
@[go_sem] theorem tl_22 : tl Try.prog 22 = some (false, 1) := by kernel_rfl
@[go_sem] theorem te_22 : te Try.prog 22 = some (84, 6, 80) := by kernel_rfl
@[go_sem] theorem tz_22 : tz Try.prog 22 = some [.sl 6 []] := by kernel_rfl
@[go_sem] theorem tflat_22 : tflat Try.prog 22 = false := by kernel_rfl
@[go_sem] theorem tbool_22 : tbool Try.prog 22 = false := by kernel_rfl
@[go_sem] theorem tc_24 : Try.prog.cellsOf 24 = 1 := by kernel_rfl
@[go_sem] theorem tl_24 : tl Try.prog 24 = some (false, 1) := by kernel_rfl
@[go_sem] theorem te_24 : te Try.prog 24 = some (95, 2, 16) := by kernel_rfl
@[go_sem] theorem tz_24 : tz Try.prog 24 = some [.sl 2 []] := by kernel_rfl
@[go_sem] theorem tflat_24 : tflat Try.prog 24 = false := by kernel_rfl
@[go_sem] theorem tbool_24 : tbool Try.prog 24 = false := by kernel_rfl
@[go_sem] theorem tc_27 : Try.prog.cellsOf 27 = 1 := by kernel_rfl
@[go_sem] theorem tl_27 : tl Try.prog 27 = some (false, 1) := by kernel_rfl
@[go_sem] theorem te_27 : te Try.prog 27 = some (90, 6, 80) := by kernel_rfl
@[go_sem] theorem tz_27 : tz Try.prog 27 = some [.sl 6 []] := by kernel_rfl
@[go_sem] theorem tflat_27 : tflat Try.prog 27 = false := by kernel_rfl
@[go_sem] theorem tbool_27 : tbool Try.prog 27 = false := by kernel_rfl
@[go_sem] theorem tc_36 : Try.prog.cellsOf 36 = 1 := by kernel_rfl
@[go_sem] theorem tl_36 : tl Try.prog 36 = some (false, 1) := by kernel_rfl
@[go_sem] theorem te_36 : te Try.prog 36 = some (3, 1, 8) := by kernel_rfl
@[go_sem] theorem tz_36 : tz Try.prog 36 = some [.sl 1 []] := by kernel_rfl
@[go_sem] theorem tflat_36 : tflat Try.prog 36 = false := by kernel_rfl
@[go_sem] theorem tbool_36 : tbool Try.prog 36 = false := by kernel_rfl
@[go_sem] theorem tc_37 : Try.prog.cellsOf 37 = 2 := by kernel_rfl
@[go_sem] theorem tl_37 : tl Try.prog 37 = some (true, 2) := by kernel_rfl
@[go_sem] theorem te_37 : te Try.prog 37 = none := by kernel_rfl
@[go_sem] theorem tp_37 : tp Try.prog 37 = some [(0, 1), (1, 1)] := by kernel_rfl
@[go_sem] theorem tf_37_0 : tf Try.prog 37 0 = some (0, false, 1) := by kernel_rfl
@[go_sem] theorem tf_37_1 : tf Try.prog 37 1 = some (1, false, 1) := by kernel_rfl
@[go_sem] theorem tz_37 : tz Try.prog 37 = some [.sl 1 [], .sl 1 []] := by kernel_rfl
@[go_sem] theorem tflat_37 : tflat Try.prog 37 = false := by kernel_rfl
@[go_sem] theorem tbool_37 : tbool Try.prog 37 = false := by kernel_rfl
@[go_sem] theorem tc_38 : Try.prog.cellsOf 38 = 2 := by kernel_rfl
@[go_sem] theorem tl_38 : tl Try.prog 38 = some (true, 2) := by kernel_rfl
@[go_sem] theorem te_38 : te Try.prog 38 = none := by kernel_rfl
@[go_sem] theorem tp_38 : tp Try.prog 38 = some [(0, 1), (1, 1)] := by kernel_rfl
@[go_sem] theorem tf_38_0 : tf Try.prog 38 0 = some (0, false, 1) := by kernel_rfl
@[go_sem] theorem tf_38_1 : tf Try.prog 38 1 = some (1, false, 1) := by kernel_rfl
@[go_sem] theorem tz_38 : tz Try.prog 38 = some [.sl 1 [], .sl 1 []] := by kernel_rfl
@[go_sem] theorem tflat_38 : tflat Try.prog 38 = false := by kernel_rfl
@[go_sem] theorem tbool_38 : tbool Try.prog 38 = false := by kernel_rfl
@[go_sem] theorem tc_39 : Try.prog.cellsOf 39 = 1 := by kernel_rfl
@[go_sem] theorem tl_39 : tl Try.prog 39 = some (false, 1) := by kernel_rfl
@[go_sem] theorem te_39 : te Try.prog 39 = some (238, 1, 24) := by kernel_rfl
@[go_sem] theorem tz_39 : tz Try.prog 39 = some [.sl 1 []] := by kernel_rfl
@[go_sem] theorem tflat_39 : tflat Try.prog 39 = false := by kernel_rfl
@[go_sem] theorem tbool_39 : tbool Try.prog 39 = false := by kernel_rfl
@[go_sem] theorem tc_40 : Try.prog.cellsOf 40 = 2 := by kernel_rfl
@[go_sem] theorem tl_40 : tl Try.prog 40 = some (true, 2) := by kernel_rfl
@[go_sem] theorem te_40 : te Try.prog 40 = none := by kernel_rfl
@[go_sem] theorem tp_40 : tp Try.prog 40 = some [(0, 1), (1, 1)] := by kernel_rfl
@[go_sem] theorem tf_40_0 : tf Try.prog 40 0 = some (0, false, 1) := by kernel_rfl
@[go_sem] theorem tf_40_1 : tf Try.prog 40 1 = some (1, false, 1) := by kernel_rfl
@[go_sem] theorem tz_40 : tz Try.prog 40 = some [.sl 1 [], .sl 1 []] := by kernel_rfl
@[go_sem] theorem tflat_40 : tflat Try.prog 40 = false := by kernel_rfl
@[go_sem] theorem tbool_40 : tbool Try.prog 40 = false := by kernel_rfl
@[go_sem] theorem tc_41 : Try.prog.cellsOf 41 = 2 := by kernel_rfl
@[go_sem] theorem tl_41 : tl Try.prog 41 = some (true, 2) := by kernel_rfl
@[go_sem] theorem te_41 : te Try.prog 41 = none := by kernel_rfl
@[go_sem] theorem tp_41 : tp Try.prog 41 = some [(0, 1), (1, 1)] := by kernel_rfl
@[go_sem] theorem tf_41_0 : tf Try.prog 41 0 = some (0, false, 1) := by kernel_rfl
@[go_sem] theorem tf_41_1 : tf Try.prog 41 1 = some (1, false, 1) := by kernel_rfl
@[go_sem] theorem tz_41 : tz Try.prog 41 = some [.sl 1 [], .sl 1 []] := by kernel_rfl
@[go_sem] theorem tflat_41 : tflat Try.prog 41 = false := by kernel_rfl
@[go_sem] theorem tbool_41 : tbool Try.prog 41 = false := by kernel_rfl
@[go_sem] theorem tc_42 : Try.prog.cellsOf 42 = 4 := by kernel_rfl
@[go_sem] theorem tl_42 : tl Try.prog 42 = some (true, 4) := by kernel_rfl
@[go_sem] theorem te_42 : te Try.prog 42 = none := by kernel_rfl
@[go_sem] theorem tp_42 : tp Try.prog 42 = some [(0, 2), (2, 2)] := by kernel_rfl
@[go_sem] theorem tf_42_0 : tf Try.prog 42 0 = some (0, true, 2) := by kernel_rfl
@[go_sem] theorem tf_42_1 : tf Try.prog 42 1 = some (2, true, 2) := by kernel_rfl
@[go_sem] theorem tz_42 : tz Try.prog 42 = some [.sl 1 [], .sl 1 [], .sl 1 [], .sl 1 []] := by kernel_rfl
@[go_sem] theorem tflat_42 : tflat Try.prog 42 = false := by kernel_rfl
@[go_sem] theorem tbool_42 : tbool Try.prog 42 = false := by kernel_rfl
@[go_sem] theorem tc_43 : Try.prog.cellsOf 43 = 4 := by kernel_rfl
@[go_sem] theorem tl_43 : tl Try.prog 43 = some (true, 4) := by kernel_rfl
@[go_sem] theorem te_43 : te Try.prog 43 = none := by kernel_rfl
@[go_sem] theorem tp_43 : tp Try.prog 43 = some [(0, 2), (2, 2)] := by kernel_rfl
@[go_sem] theorem tf_43_0 : tf Try.prog 43 0 = some (0, true, 2) := by kernel_rfl
@[go_sem] theorem tf_43_1 : tf Try.prog 43 1 = some (2, true, 2) := by kernel_rfl
@[go_sem] theorem tz_43 : tz Try.prog 43 = some [.sl 1 [], .sl 1 [], .sl 1 [], .sl 1 []] := by kernel_rfl
@[go_sem] theorem tflat_43 : tflat Try.prog 43 = false := by kernel_rfl
@[go_sem] theorem tbool_43 : tbool Try.prog 43 = false := by kernel_rfl
@[go_sem] theorem tc_44 : Try.prog.cellsOf 44 = 1 := by kernel_rfl
@[go_sem] theorem tl_44 : tl Try.prog 44 = some (false, 1) := by kernel_rfl
@[go_sem] theorem te_44 : te Try.prog 44 = some (225, 4, 32) := by kernel_rfl
@[go_sem] theorem tz_44 : tz Try.prog 44 = some [.sl 4 []] := by kernel_rfl
@[go_sem] theorem tflat_44 : tflat Try.prog 44 = false := by kernel_rfl
@[go_sem] theorem tbool_44 : tbool Try.prog 44 = false := by kernel_rfl
@[go_sem] theorem tc_45 : Try.prog.cellsOf 45 = 2 := by kernel_rfl
@[go_sem] theorem tl_45 : tl Try.prog 45 = some (true, 2) := by kernel_rfl
@[go_sem] theorem te_45 : te Try.prog 45 = none := by kernel_rfl
@[go_sem] theorem tp_45 : tp Try.prog 45 = some [(0, 1), (1, 1)] := by kernel_rfl
@[go_sem] theorem tf_45_0 : tf Try.prog 45 0 = some (0, false, 1) := by kernel_rfl
@[go_sem] theorem tf_45_1 : tf Try.prog 45 1 = some (1, false, 1) := by kernel_rfl
@[go_sem] theorem tz_45 : tz Try.prog 45 = some [.int .i64 0, .sl 4 []] := by kernel_rfl
@[go_sem] theorem tflat_45 : tflat Try.prog 45 = false := by kernel_rfl
@[go_sem] theorem tbool_45 : tbool Try.prog 45 = false := by kernel_rfl
@[go_sem] theorem tc_46 : Try.prog.cellsOf 46 = 2 := by kernel_rfl
@[go_sem] theorem tl_46 : tl Try.prog 46 = some (true, 2) := by kernel_rfl
@[go_sem] theorem te_46 : te Try.prog 46 = none := by kernel_rfl
@[go_sem] theorem tp_46 : tp Try.prog 46 = some [(0, 1), (1, 1)] := by kernel_rfl
@[go_sem] theorem tf_46_0 : tf Try.prog 46 0 = some (0, false, 1) := by kernel_rfl
@[go_sem] theorem tf_46_1 : tf Try.prog 46 1 = some (1, false, 1) := by kernel_rfl
@[go_sem] theorem tz_46 : tz Try.prog 46 = some [.int .i64 0, .sl 4 []] := by kernel_rfl
@[go_sem] theorem tflat_46 : tflat Try.prog 46 = false := by kernel_rfl
@[go_sem] theorem tbool_46 : tbool Try.prog 46 = false := by kernel_rfl
@[go_sem] theorem tc_47 : Try.prog.cellsOf 47 = 1 := by kernel_rfl
@[go_sem] theorem tl_47 : tl Try.prog 47 = some (false, 1) := by kernel_rfl
@[go_sem] theorem te_47 : te Try.prog 47 = some (192, 1, 24) := by kernel_rfl
@[go_sem] theorem tz_47 : tz Try.prog 47 = some [.sl 1 []] := by kernel_rfl
@[go_sem] theorem tflat_47 : tflat Try.prog 47 = false := by kernel_rfl
@[go_sem] theorem tbool_47 : tbool Try.prog 47 = false := by kernel_rfl
@[go_sem] theorem tc_48 : Try.prog.cellsOf 48 = 8 := by kernel_rfl
@[go_sem] theorem tl_48 : tl Try.prog 48 = some (true, 8) := by kernel_rfl
@[go_sem] theorem te_48 : te Try.prog 48 = none := by kernel_rfl
@[go_sem] theorem tp_48 : tp Try.prog 48 = some [(0, 4), (4, 2), (6, 1), (7, 1)] := by kernel_rfl
@[go_sem] theorem tf_48_0 : tf Try.prog 48 0 = some (0, true, 4) := by kernel_rfl
@[go_sem] theorem tf_48_1 : tf Try.prog 48 1 = some (4, true, 2) := by kernel_rfl
@[go_sem] theorem tf_48_2 : tf Try.prog 48 2 = some (6, false, 1) := by kernel_rfl
@[go_sem] theorem tf_48_3 : tf Try.prog 48 3 = some (7, false, 1) := by kernel_rfl
@[go_sem] theorem tz_48 : tz Try.prog 48 = some [.sl 1 [], .sl 1 [], .sl 1 [], .sl 1 [], .int .i64 0, .sl 4 [], .sl 1 [], .sl 1 []] := by kernel_rfl
@[go_sem] theorem tflat_48 : tflat Try.prog 48 = false := by kernel_rfl
@[go_sem] theorem tbool_48 : tbool Try.prog 48 = false := by kernel_rfl
@[go_sem] theorem tc_49 : Try.prog.cellsOf 49 = 8 := by kernel_rfl
@[go_sem] theorem tl_49 : tl Try.prog 49 = some (true, 8) := by kernel_rfl
@[go_sem] theorem te_49 : te Try.prog 49 = none := by kernel_rfl
@[go_sem] theorem tp_49 : tp Try.prog 49 = some [(0, 4), (4, 2), (6, 1), (7, 1)] := by kernel_rfl
@[go_sem] theorem tf_49_0 : tf Try.prog 49 0 = some (0, true, 4) := by kernel_rfl
@[go_sem] theorem tf_49_1 : tf Try.prog 49 1 = some (4, true, 2) := by kernel_rfl
@[go_sem] theorem tf_49_2 : tf Try.prog 49 2 = some (6, false, 1) := by kernel_rfl
@[go_sem] theorem tf_49_3 : tf Try.prog 49 3 = some (7, false, 1) := by kernel_rfl
@[go_sem] theorem tz_49 : tz Try.prog 49 = some [.sl 1 [], .sl 1 [], .sl 1 [], .sl 1 [], .int .i64 0, .sl 4 [], .sl 1 [], .sl 1 []] := by kernel_rfl
@[go_sem] theorem tflat_49 : tflat Try.prog 49 = false := by kernel_rfl
@[go_sem] theorem tbool_49 : tbool Try.prog 49 = false := by kernel_rfl
@[go_sem] theorem tc_50 : Try.prog.cellsOf 50 = 1 := by kernel_rfl
@[go_sem] theorem tl_50 : tl Try.prog 50 = some (false, 1) := by kernel_rfl
@[go_sem] theorem te_50 : te Try.prog 50 = some (156, 21, 168) := by kernel_rfl
@[go_sem] theorem tz_50 : tz Try.prog 50 = some [.sl 21 []] := by kernel_rfl
@[go_sem] theorem tflat_50 : tflat Try.prog 50 = false := by kernel_rfl
@[go_sem] theorem tbool_50 : tbool Try.prog 50 = false := by kernel_rfl
@[go_sem] theorem tc_51 : Try.prog.cellsOf 51 = 1 := by kernel_rfl
@[go_sem] theorem tl_51 : tl Try.prog 51 = some (false, 1) := by kernel_rfl
@[go_sem] theorem te_51 : te Try.prog 51 = some (142, 1, 24) := by kernel_rfl
@[go_sem] theorem tz_51 : tz Try.prog 51 = some [.sl 1 []] := by kernel_rfl
@[go_sem] theorem tflat_51 : tflat Try.prog 51 = false := by kernel_rfl
@[go_sem] theorem tbool_51 : tbool Try.prog 51 = false := by kernel_rfl
@[go_sem] theorem tc_52 : Try.prog.cellsOf 52 = 1 := by kernel_rfl
@[go_sem] theorem tl_52 : tl Try.prog 52 = some (false, 1) := by kernel_rfl
@[go_sem] theorem te_52 : te Try.prog 52 = some (164, 7, 56) := by kernel_rfl
@[go_sem] theorem tz_52 : tz Try.prog 52 = some [.sl 7 []] := by kernel_rfl
@[go_sem] theorem tflat_52 : tflat Try.prog 52 = false := by kernel_rfl
@[go_sem] theorem tbool_52 : tbool Try.prog 52 = false := by kernel_rfl
@[go_sem] theorem tc_53 : Try.prog.cellsOf 53 = 13 := by kernel_rfl
@[go_sem] theorem tl_53 : tl Try.prog 53 = some (true, 13) := by kernel_rfl
@[go_sem] theorem te_53 : te Try.prog 53 = none := by kernel_rfl
@[go_sem] theorem tp_53 : tp Try.prog 53 = some [(0, 8), (8, 1), (9, 1), (10, 1), (11, 1), (12, 1)] := by kernel_rfl
@[go_sem] theorem tf_53_0 : tf Try.prog 53 0 = some (0, true, 8) := by kernel_rfl
@[go_sem] theorem tf_53_1 : tf Try.prog 53 1 = some (8, false, 1) := by kernel_rfl
@[go_sem] theorem tf_53_2 : tf Try.prog 53 2 = some (9, false, 1) := by kernel_rfl
@[go_sem] theorem tf_53_3 : tf Try.prog 53 3 = some (10, false, 1) := by kernel_rfl
@[go_sem] theorem tf_53_4 : tf Try.prog 53 4 = some (11, false, 1) := by kernel_rfl
@[go_sem] theorem tf_53_5 : tf Try.prog 53 5 = some (12, false, 1) := by kernel_rfl
@[go_sem] theorem tz_53 : tz Try.prog 53 = some [.sl 1 [], .sl 1 [], .sl 1 [], .sl 1 [], .int .i64 0, .sl 4 [], .sl 1 [], .sl 1 [], .sl 1 [], .sl 21 [], .sl 1 [], .sl 7 [], .int .i64 0] := by kernel_rfl
@[go_sem] theorem tflat_53 : tflat Try.prog 53 = false := by kernel_rfl
@[go_sem] theorem tbool_53 : tbool Try.prog 53 = false := by kernel_rfl
@[go_sem] theorem tc_54 : Try.prog.cellsOf 54 = 13 := by kernel_rfl
@[go_sem] theorem tl_54 : tl Try.prog 54 = some (true, 13) := by kernel_rfl
@[go_sem] theorem te_54 : te Try.prog 54 = none := by kernel_rfl
@[go_sem] theorem tp_54 : tp Try.prog 54 = some [(0, 8), (8, 1), (9, 1), (10, 1), (11, 1), (12, 1)] := by kernel_rfl
@[go_sem] theorem tf_54_0 : tf Try.prog 54 0 = some (0, true, 8) := by kernel_rfl
@[go_sem] theorem tf_54_1 : tf Try.prog 54 1 = some (8, false, 1) := by kernel_rfl
@[go_sem] theorem tf_54_2 : tf Try.prog 54 2 = some (9, false, 1) := by kernel_rfl
@[go_sem] theorem tf_54_3 : tf Try.prog 54 3 = some (10, false, 1) := by kernel_rfl
@[go_sem] theorem tf_54_4 : tf Try.prog 54 4 = some (11, false, 1) := by kernel_rfl
@[go_sem] theorem tf_54_5 : tf Try.prog 54 5 = some (12, false, 1) := by kernel_rfl
@[go_sem] theorem tz_54 : tz Try.prog 54 = some [.sl 1 [], .sl 1 [], .sl 1 [], .sl 1 [], .int .i64 0, .sl 4 [], .sl 1 [], .sl 1 [], .sl 1 [], .sl 21 [], .sl 1 [], .sl 7 [], .int .i64 0] := by kernel_rfl
@[go_sem] theorem tflat_54 : tflat Try.prog 54 = false := by kernel_rfl
@[go_sem] theorem tbool_54 : tbool Try.prog 54 = false := by kernel_rfl
@[go_sem] theorem tc_57 : Try.prog.cellsOf 57 = 2 := by kernel_rfl
@[go_sem] theorem tl_57 : tl Try.prog 57 = some (true, 2) := by kernel_rfl
@[go_sem] theorem te_57 : te Try.prog 57 = none := by kernel_rfl
@[go_sem] theorem tp_57 : tp Try.prog 57 = some [(0, 1), (1, 1)] := by kernel_rfl
@[go_sem] theorem tf_57_0 : tf Try.prog 57 0 = some (0, false, 1) := by kernel_rfl
@[go_sem] theorem tf_57_1 : tf Try.prog 57 1 = some (1, false, 1) := by kernel_rfl
@[go_sem] theorem tz_57 : tz Try.prog 57 = some [.sl 1 [], .sl 1 []] := by kernel_rfl
@[go_sem] theorem tflat_57 : tflat Try.prog 57 = false := by kernel_rfl
@[go_sem] theorem tbool_57 : tbool Try.prog 57 = false := by kernel_rfl
@[go_sem] theorem tc_58 : Try.prog.cellsOf 58 = 1 := by kernel_rfl
@[go_sem] theorem tl_58 : tl Try.prog 58 = some (false, 1) := by kernel_rfl
@[go_sem] theorem te_58 : te Try.prog 58 = some (239, 1, 24) := by kernel_rfl
@[go_sem] theorem tz_58 : tz Try.prog 58 = some [.sl 1 []] := by kernel_rfl
@[go_sem] theorem tflat_58 : tflat Try.prog 58 = false := by kernel_rfl
@[go_sem] theorem tbool_58 : tbool Try.prog 58 = false := by kernel_rfl
@[go_sem] theorem tc_59 : Try.prog.cellsOf 59 = 2 := by kernel_rfl
@[go_sem] theorem tl_59 : tl Try.prog 59 = some (true, 2) := by kernel_rfl
@[go_sem] theorem te_59 : te Try.prog 59 = none := by kernel_rfl
@[go_sem] theorem tp_59 : tp Try.prog 59 = some [(0, 1), (1, 1)] := by kernel_rfl
@[go_sem] theorem tf_59_0 : tf Try.prog 59 0 = some (0, false, 1) := by kernel_rfl
@[go_sem] theorem tf_59_1 : tf Try.prog 59 1 = some (1, false, 1) := by kernel_rfl
@[go_sem] theorem tz_59 : tz Try.prog 59 = some [.sl 1 [], .sl 1 []] := by kernel_rfl
@[go_sem] theorem tflat_59 : tflat Try.prog 59 = false := by kernel_rfl
@[go_sem] theorem tbool_59 : tbool Try.prog 59 = false := by kernel_rfl
@[go_sem] theorem tc_60 : Try.prog.cellsOf 60 = 2 := by kernel_rfl
@[go_sem] theorem tl_60 : tl Try.prog 60 = some (true, 2) := by kernel_rfl
@[go_sem] theorem te_60 : te Try.prog 60 = none := by kernel_rfl
@[go_sem] theorem tp_60 : tp Try.prog 60 = some [(0, 1), (1, 1)] := by kernel_rfl
@[go_sem] theorem tf_60_0 : tf Try.prog 60 0 = some (0, false, 1) := by kernel_rfl
@[go_sem] theorem tf_60_1 : tf Try.prog 60 1 = some (1, false, 1) := by kernel_rfl
@[go_sem] theorem tz_60 : tz Try.prog 60 = some [.sl 1 [], .sl 1 []] := by kernel_rfl
@[go_sem] theorem tflat_60 : tflat Try.prog 60 = false := by kernel_rfl
@[go_sem] theorem tbool_60 : tbool Try.prog 60 = false := by kernel_rfl
@[go_sem] theorem tc_61 : Try.prog.cellsOf 61 = 4 := by kernel_rfl
@[go_sem] theorem tl_61 : tl Try.prog 61 = some (true, 4) := by kernel_rfl
@[go_sem] theorem te_61 : te Try.prog 61 = none := by kernel_rfl
@[go_sem] theorem tp_61 : tp Try.prog 61 = some [(0, 2), (2, 2)] := by kernel_rfl
@[go_sem] theorem tf_61_0 : tf Try.prog 61 0 = some (0, true, 2) := by kernel_rfl
@[go_sem] theorem tf_61_1 : tf Try.prog 61 1 = some (2, true, 2) := by kernel_rfl
@[go_sem] theorem tz_61 : tz Try.prog 61 = some [.sl 1 [], .sl 1 [], .sl 1 [], .sl 1 []] := by kernel_rfl
@[go_sem] theorem tflat_61 : tflat Try.prog 61 = false := by kernel_rfl
@[go_sem] theorem tbool_61 : tbool Try.prog 61 = false := by kernel_rfl
@[go_sem] theorem tc_62 : Try.prog.cellsOf 62 = 4 := by kernel_rfl
@[go_sem] theorem tl_62 : tl Try.prog 62 = some (true, 4) := by kernel_rfl
@[go_sem] theorem te_62 : te Try.prog 62 = none := by kernel_rfl
@[go_sem] theorem tp_62 : tp Try.prog 62 = some [(0, 2), (2, 2)] := by kernel_rfl
@[go_sem] theorem tf_62_0 : tf Try.prog 62 0 = some (0, true, 2) := by kernel_rfl
@[go_sem] theorem tf_62_1 : tf Try.prog 62 1 = some (2, true, 2) := by kernel_rfl
@[go_sem] theorem tz_62 : tz Try.prog 62 = some [.sl 1 [], .sl 1 [], .sl 1 [], .sl 1 []] := by kernel_rfl
@[go_sem] theorem tflat_62 : tflat Try.prog 62 = false := by kernel_rfl
@[go_sem] theorem tbool_62 : tbool Try.prog 62 = false := by kernel_rfl
@[go_sem] theorem tc_63 : Try.prog.cellsOf 63 = 1 := by kernel_rfl
@[go_sem] theorem tl_63 : tl Try.prog 63 = some (false, 1) := by kernel_rfl
@[go_sem] theorem te_63 : te Try.prog 63 = some (223, 4, 32) := by kernel_rfl
@[go_sem] theorem tz_63 : tz Try.prog 63 = some [.sl 4 []] := by kernel_rfl
@[go_sem] theorem tflat_63 : tflat Try.prog 63 = false := by kernel_rfl
@[go_sem] theorem tbool_63 : tbool Try.prog 63 = false := by kernel_rfl
@[go_sem] theorem tc_64 : Try.prog.cellsOf 64 = 2 := by kernel_rfl
@[go_sem] theorem tl_64 : tl Try.prog 64 = some (true, 2) := by kernel_rfl
@[go_sem] theorem te_64 : te Try.prog 64 = none := by kernel_rfl
@[go_sem] theorem tp_64 : tp Try.prog 64 = some [(0, 1), (1, 1)] := by kernel_rfl
@[go_sem] theorem tf_64_0 : tf Try.prog 64 0 = some (0, false, 1) := by kernel_rfl
@[go_sem] theorem tf_64_1 : tf Try.prog 64 1 = some (1, false, 1) := by kernel_rfl
@[go_sem] theorem tz_64 : tz Try.prog 64 = some [.int .i64 0, .sl 4 []] := by kernel_rfl
@[go_sem] theorem tflat_64 : tflat Try.prog 64 = false := by kernel_rfl
@[go_sem] theorem tbool_64 : tbool Try.prog 64 = false := by kernel_rfl
@[go_sem] theorem tc_65 : Try.prog.cellsOf 65 = 2 := by kernel_rfl
@[go_sem] theorem tl_65 : tl Try.prog 65 = some (true, 2) := by kernel_rfl
@[go_sem] theorem te_65 : te Try.prog 65 = none := by kernel_rfl
@[go_sem] theorem tp_65 : tp Try.prog 65 = some [(0, 1), (1, 1)] := by kernel_rfl
@[go_sem] theorem tf_65_0 : tf Try.prog 65 0 = some (0, false, 1) := by kernel_rfl
@[go_sem] theorem tf_65_1 : tf Try.prog 65 1 = some (1, false, 1) := by kernel_rfl
@[go_sem] theorem tz_65 : tz Try.prog 65 = some [.int .i64 0, .sl 4 []] := by kernel_rfl
@[go_sem] theorem tflat_65 : tflat Try.prog 65 = false := by kernel_rfl
@[go_sem] theorem tbool_65 : tbool Try.prog 65 = false := by kernel_rfl
@[go_sem] theorem tc_66 : Try.prog.cellsOf 66 = 1 := by kernel_rfl
@[go_sem] theorem tl_66 : tl Try.prog 66 = some (false, 1) := by kernel_rfl
@[go_sem] theorem te_66 : te Try.prog 66 = some (113, 1, 24) := by kernel_rfl
@[go_sem] theorem tz_66 : tz Try.prog 66 = some [.sl 1 []] := by kernel_rfl
@[go_sem] theorem tflat_66 : tflat Try.prog 66 = false := by kernel_rfl
@[go_sem] theorem tbool_66 : tbool Try.prog 66 = false := by kernel_rfl
@[go_sem] theorem tc_67 : Try.prog.cellsOf 67 = 8 := by kernel_rfl
@[go_sem] theorem tl_67 : tl Try.prog 67 = some (true, 8) := by kernel_rfl
@[go_sem] theorem te_67 : te Try.prog 67 = none := by kernel_rfl
@[go_sem] theorem tp_67 : tp Try.prog 67 = some [(0, 4), (4, 2), (6, 1), (7, 1)] := by kernel_rfl
@[go_sem] theorem tf_67_0 : tf Try.prog 67 0 = some (0, true, 4) := by kernel_rfl
@[go_sem] theorem tf_67_1 : tf Try.prog 67 1 = some (4, true, 2) := by kernel_rfl
@[go_sem] theorem tf_67_2 : tf Try.prog 67 2 = some (6, false, 1) := by kernel_rfl
@[go_sem] theorem tf_67_3 : tf Try.prog 67 3 = some (7, false, 1) := by kernel_rfl
@[go_sem] theorem tz_67 : tz Try.prog 67 = some [.sl 1 [], .sl 1 [], .sl 1 [], .sl 1 [], .int .i64 0, .sl 4 [], .sl 1 [], .sl 1 []] := by kernel_rfl
@[go_sem] theorem tflat_67 : tflat Try.prog 67 = false := by kernel_rfl
@[go_sem] theorem tbool_67 : tbool Try.prog 67 = false := by kernel_rfl
@[go_sem] theorem tc_68 : Try.prog.cellsOf 68 = 8 := by kernel_rfl
@[go_sem] theorem tl_68 : tl Try.prog 68 = some (true, 8) := by kernel_rfl
@[go_sem] theorem te_68 : te Try.prog 68 = none := by kernel_rfl
@[go_sem] theorem tp_68 : tp Try.prog 68 = some [(0, 4), (4, 2), (6, 1), (7, 1)] := by kernel_rfl
@[go_sem] theorem tf_68_0 : tf Try.prog 68 0 = some (0, true, 4) := by kernel_rfl
@[go_sem] theorem tf_68_1 : tf Try.prog 68 1 = some (4, true, 2) := by kernel_rfl
@[go_sem] theorem tf_68_2 : tf Try.prog 68 2 = some (6, false, 1) := by kernel_rfl
@[go_sem] theorem tf_68_3 : tf Try.prog 68 3 = some (7, false, 1) := by kernel_rfl
@[go_sem] theorem tz_68 : tz Try.prog 68 = some [.sl 1 [], .sl 1 [], .sl 1 [], .sl 1 [], .int .i64 0, .sl 4 [], .sl 1 [], .sl 1 []] := by kernel_rfl
@[go_sem] theorem tflat_68 : tflat Try.prog 68 = false := by kernel_rfl
@[go_sem] theorem tbool_68 : tbool Try.prog 68 = false := by kernel_rfl
@[go_sem] theorem tc_69 : Try.prog.cellsOf 69 = 1 := by kernel_rfl
@[go_sem] theorem tl_69 : tl Try.prog 69 = some (false, 1) := by kernel_rfl
@[go_sem] theorem te_69 : te Try.prog 69 = some (151, 21, 168) := by kernel_rfl
@[go_sem] theorem tz_69 : tz Try.prog 69 = some [.sl 21 []] := by kernel_rfl
@[go_sem] theorem tflat_69 : tflat Try.prog 69 = false := by kernel_rfl
@[go_sem] theorem tbool_69 : tbool Try.prog 69 = false := by kernel_rfl
@[go_sem] theorem tc_70 : Try.prog.cellsOf 70 = 1 := by kernel_rfl
@[go_sem] theorem tl_70 : tl Try.prog 70 = some (false, 1) := by kernel_rfl
@[go_sem] theorem te_70 : te Try.prog 70 = some (159, 1, 24) := by kernel_rfl
@[go_sem] theorem tz_70 : tz Try.prog 70 = some [.sl 1 []] := by kernel_rfl
@[go_sem] theorem tflat_70 : tflat Try.prog 70 = false := by kernel_rfl
@[go_sem] theorem tbool_70 : tbool Try.prog 70 = false := by kernel_rfl
@[go_sem] theorem tc_71 : Try.prog.cellsOf 71 = 1 := by kernel_rfl
@[go_sem] theorem tl_71 : tl Try.prog 71 = some (false, 1) := by kernel_rfl
@[go_sem] theorem te_71 : te Try.prog 71 = some (162, 7, 56) := by kernel_rfl
@[go_sem] theorem tz_71 : tz Try.prog 71 = some [.sl 7 []] := by kernel_rfl
@[go_sem] theorem tflat_71 : tflat Try.prog 71 = false := by kernel_rfl
@[go_sem] theorem tbool_71 : tbool Try.prog 71 = false := by kernel_rfl
@[go_sem] theorem tc_72 : Try.prog.cellsOf 72 = 13 := by kernel_rfl
@[go_sem] theorem tl_72 : tl Try.prog 72 = some (true, 13) := by kernel_rfl
@[go_sem] theorem te_72 : te Try.prog 72 = none := by kernel_rfl
@[go_sem] theorem tp_72 : tp Try.prog 72 = some [(0, 8), (8, 1), (9, 1), (10, 1), (11, 1), (12, 1)] := by kernel_rfl
@[go_sem] theorem tf_72_0 : tf Try.prog 72 0 = some (0, true, 8) := by kernel_rfl
@[go_sem] theorem tf_72_1 : tf Try.prog 72 1 = some (8, false, 1) := by kernel_rfl
@[go_sem] theorem tf_72_2 : tf Try.prog 72 2 = some (9, false, 1) := by kernel_rfl
@[go_sem] theorem tf_72_3 : tf Try.prog 72 3 = some (10, false, 1) := by kernel_rfl
@[go_sem] theorem tf_72_4 : tf Try.prog 72 4 = some (11, false, 1) := by kernel_rfl
@[go_sem] theorem tf_72_5 : tf Try.prog 72 5 = some (12, false, 1) := by kernel_rfl
@[go_sem] theorem tz_72 : tz Try.prog 72 = some [.sl 1 [], .sl 1 [], .sl 1 [], .sl 1 [], .int .i64 0, .sl 4 [], .sl 1 [], .sl 1 [], .sl 1 [], .sl 21 [], .sl 1 [], .sl 7 [], .int .i64 0] := by kernel_rfl
@[go_sem] theorem tflat_72 : tflat Try.prog 72 = false := by kernel_rfl
@[go_sem] theorem tbool_72 : tbool Try.prog 72 = false := by kernel_rfl
@[go_sem] theorem tc_73 : Try.prog.cellsOf 73 = 13 := by kernel_rfl
@[go_sem] theorem tl_73 : tl Try.prog 73 = some (true, 13) := by kernel_rfl
@[go_sem] theorem te_73 : te Try.prog 73 = none := by kernel_rfl
@[go_sem] theorem tp_73 : tp Try.prog 73 = some [(0, 8), (8, 1), (9, 1), (10, 1), (11, 1), (12, 1)] := by kernel_rfl
@[go_sem] theorem tf_73_0 : tf Try.prog 73 0 = some (0, true, 8) := by kernel_rfl
@[go_sem] theorem tf_73_1 : tf Try.prog 73 1 = some (8, false, 1) := by kernel_rfl
@[go_sem] theorem tf_73_2 : tf Try.prog 73 2 = some (9, false, 1) := by kernel_rfl
@[go_sem] theorem tf_73_3 : tf Try.prog 73 3 = some (10, false, 1) := by kernel_rfl
@[go_sem] theorem tf_73_4 : tf Try.prog 73 4 = some (11, false, 1) := by kernel_rfl
@[go_sem] theorem tf_73_5 : tf Try.prog 73 5 = some (12, false, 1) := by kernel_rfl
@[go_sem] theorem tz_73 : tz Try.prog 73 = some [.sl 1 [], .sl 1 [], .sl 1 [], .sl 1 [], .int .i64 0, .sl 4 [], .sl 1 [], .sl 1 [], .sl 1 [], .sl 21 [], .sl 1 [], .sl 7 [], .int .i64 0] := by kernel_rfl
@[go_sem] theorem tflat_73 : tflat Try.prog 73 = false := by kernel_rfl
@[go_sem] theorem tbool_73 : tbool Try.prog 73 = false := by kernel_rfl
@[go_sem] theorem tc_81 : Try.prog.cellsOf 81 = 1 := by kernel_rfl
@[go_sem] theorem tl_81 : tl Try.prog 81 = some (false, 1) := by kernel_rfl
@[go_sem] theorem te_81 : te Try.prog 81 = some (178, 3, 24) := by kernel_rfl
@[go_sem] theorem tz_81 : tz Try.prog 81 = some [.sl 3 []] := by kernel_rfl
@[go_sem] theorem tflat_81 : tflat Try.prog 81 = false := by kernel_rfl
@[go_sem] theorem tbool_81 : tbool Try.prog 81 = false := by kernel_rfl
@[go_sem] theorem tc_82 : Try.prog.cellsOf 82 = 1 := by kernel_rfl
@[go_sem] theorem tl_82 : tl Try.prog 82 = some (false, 1) := by kernel_rfl
@[go_sem] theorem te_82 : te Try.prog 82 = some (180, 2, 16) := by kernel_rfl
@[go_sem] theorem tz_82 : tz Try.prog 82 = some [.sl 2 []] := by kernel_rfl
@[go_sem] theorem tflat_82 : tflat Try.prog 82 = false := by kernel_rfl
@[go_sem] theorem tbool_82 : tbool Try.prog 82 = false := by kernel_rfl
@[go_sem] theorem tc_83 : Try.prog.cellsOf 83 = 6 := by kernel_rfl
@[go_sem] theorem tl_83 : tl Try.prog 83 = some (true, 6) := by kernel_rfl
@[go_sem] theorem te_83 : te Try.prog 83 = none := by kernel_rfl
@[go_sem] theorem tp_83 : tp Try.prog 83 = some [(0, 1), (1, 1), (2, 1), (3, 1), (4, 1), (5, 1)] := by kernel_rfl
@[go_sem] theorem tf_83_0 : tf Try.prog 83 0 = some (0, false, 1) := by kernel_rfl
@[go_sem] theorem tf_83_1 : tf Try.prog 83 1 = some (1, false, 1) := by kernel_rfl
@[go_sem] theorem tf_83_2 : tf Try.prog 83 2 = some (2, false, 1) := by kernel_rfl
@[go_sem] theorem tf_83_3 : tf Try.prog 83 3 = some (3, false, 1) := by kernel_rfl
@[go_sem] theorem tf_83_4 : tf Try.prog 83 4 = some (4, false, 1) := by kernel_rfl
@[go_sem] theorem tf_83_5 : tf Try.prog 83 5 = some (5, false, 1) := by kernel_rfl
@[go_sem] theorem tz_83 : tz Try.prog 83 = some [.int .i64 0, .int .i64 0, .int .i64 0, .int .i64 0, .sl 3 [], .sl 2 []] := by kernel_rfl
@[go_sem] theorem tflat_83 : tflat Try.prog 83 = false := by kernel_rfl
@[go_sem] theorem tbool_83 : tbool Try.prog 83 = false := by kernel_rfl
@[go_sem] theorem tc_84 : Try.prog.cellsOf 84 = 6 := by kernel_rfl
@[go_sem] theorem tl_84 : tl Try.prog 84 = some (true, 6) := by kernel_rfl
@[go_sem] theorem te_84 : te Try.prog 84 = none := by kernel_rfl
@[go_sem] theorem tp_84 : tp Try.prog 84 = some [(0, 1), (1, 1), (2, 1), (3, 1), (4, 1), (5, 1)] := by kernel_rfl
@[go_sem] theorem tf_84_0 : tf Try.prog 84 0 = some (0, false, 1) := by kernel_rfl
@[go_sem] theorem tf_84_1 : tf Try.prog 84 1 = some (1, false, 1) := by kernel_rfl
@[go_sem] theorem tf_84_2 : tf Try.prog 84 2 = some (2, false, 1) := by kernel_rfl
@[go_sem] theorem tf_84_3 : tf Try.prog 84 3 = some (3, false, 1) := by kernel_rfl
@[go_sem] theorem tf_84_4 : tf Try.prog 84 4 = some (4, false, 1) := by kernel_rfl
@[go_sem] theorem tf_84_5 : tf Try.prog 84 5 = some (5, false, 1) := by kernel_rfl
@[go_sem] theorem tz_84 : tz Try.prog 84 = some [.int .i64 0, .int .i64 0, .int .i64 0, .int .i64 0, .sl 3 [], .sl 2 []] := by kernel_rfl
@[go_sem] theorem tflat_84 : tflat Try.prog 84 = false := by kernel_rfl
@[go_sem] theorem tbool_84 : tbool Try.prog 84 = false := by kernel_rfl
@[go_sem] theorem tc_87 : Try.prog.cellsOf 87 = 1 := by kernel_rfl
@[go_sem] theorem tl_87 : tl Try.prog 87 = some (false, 1) := by kernel_rfl
@[go_sem] theorem te_87 : te Try.prog 87 = some (135, 3, 24) := by kernel_rfl
@[go_sem] theorem tz_87 : tz Try.prog 87 = some [.sl 3 []] := by kernel_rfl
@[go_sem] theorem tflat_87 : tflat Try.prog 87 = false := by kernel_rfl
@[go_sem] theorem tbool_87 : tbool Try.prog 87 = false := by kernel_rfl
@[go_sem] theorem tc_88 : Try.prog.cellsOf 88 = 1 := by kernel_rfl
@[go_sem] theorem tl_88 : tl Try.prog 88 = some (false, 1) := by kernel_rfl
@[go_sem] theorem te_88 : te Try.prog 88 = some (132, 2, 16) := by kernel_rfl
@[go_sem] theorem tz_88 : tz Try.prog 88 = some [.sl 2 []] := by kernel_rfl
@[go_sem] theorem tflat_88 : tflat Try.prog 88 = false := by kernel_rfl
@[go_sem] theorem tbool_88 : tbool Try.prog 88 = false := by kernel_rfl
@[go_sem] theorem tc_89 : Try.prog.cellsOf 89 = 6 := by kernel_rfl
@[go_sem] theorem tl_89 : tl Try.prog 89 = some (true, 6) := by kernel_rfl
@[go_sem] theorem te_89 : te Try.prog 89 = none := by kernel_rfl
@[go_sem] theorem tp_89 : tp Try.prog 89 = some [(0, 1), (1, 1), (2, 1), (3, 1), (4, 1), (5, 1)] := by kernel_rfl
@[go_sem] theorem tf_89_0 : tf Try.prog 89 0 = some (0, false, 1) := by kernel_rfl
@[go_sem] theorem tf_89_1 : tf Try.prog 89 1 = some (1, false, 1) := by kernel_rfl
@[go_sem] theorem tf_89_2 : tf Try.prog 89 2 = some (2, false, 1) := by kernel_rfl
@[go_sem] theorem tf_89_3 : tf Try.prog 89 3 = some (3, false, 1) := by kernel_rfl
@[go_sem] theorem tf_89_4 : tf Try.prog 89 4 = some (4, false, 1) := by kernel_rfl
@[go_sem] theorem tf_89_5 : tf Try.prog 89 5 = some (5, false, 1) := by kernel_rfl
@[go_sem] theorem tz_89 : tz Try.prog 89 = some [.int .i64 0, .int .i64 0, .int .i64 0, .int .i64 0, .sl 3 [], .sl 2 []] := by kernel_rfl
@[go_sem] theorem tflat_89 : tflat Try.prog 89 = false := by kernel_rfl
@[go_sem] theorem tbool_89 : tbool Try.prog 89 = false := by kernel_rfl
@[go_sem] theorem tc_90 : Try.prog.cellsOf 90 = 6 := by kernel_rfl
@[go_sem] theorem tl_90 : tl Try.prog 90 = some (true, 6) := by kernel_rfl
@[go_sem] theorem te_90 : te Try.prog 90 = none := by kernel_rfl
@[go_sem] theorem tp_90 : tp Try.prog 90 = some [(0, 1), (1, 1), (2, 1), (3, 1), (4, 1), (5, 1)] := by kernel_rfl
@[go_sem] theorem tf_90_0 : tf Try.prog 90 0 = some (0, false, 1) := by kernel_rfl
@[go_sem] theorem tf_90_1 : tf Try.prog 90 1 = some (1, false, 1) := by kernel_rfl
@[go_sem] theorem tf_90_2 : tf Try.prog 90 2 = some (2, false, 1) := by kernel_rfl
@[go_sem] theorem tf_90_3 : tf Try.prog 90 3 = some (3, false, 1) := by kernel_rfl
@[go_sem] theorem tf_90_4 : tf Try.prog 90 4 = some (4, false, 1) := by kernel_rfl
@[go_sem] theorem tf_90_5 : tf Try.prog 90 5 = some (5, false, 1) := by kernel_rfl
@[go_sem] theorem tz_90 : tz Try.prog 90 = some [.int .i64 0, .int .i64 0, .int .i64 0, .int .i64 0, .sl 3 [], .sl 2 []] := by kernel_rfl
@[go_sem] theorem tflat_90 : tflat Try.prog 90 = false := by kernel_rfl
@[go_sem] theorem tbool_90 : tbool Try.prog 90 = false := by kernel_rfl
@[go_sem] theorem tc_94 : Try.prog.cellsOf 94 = 2 := by kernel_rfl
@[go_sem] theorem tl_94 : tl Try.prog 94 = some (true, 2) := by kernel_rfl
@[go_sem] theorem te_94 : te Try.prog 94 = none := by kernel_rfl
@[go_sem] theorem tp_94 : tp Try.prog 94 = some [(0, 1), (1, 1)] := by kernel_rfl
@[go_sem] theorem tf_94_0 : tf Try.prog 94 0 = some (0, false, 1) := by kernel_rfl
@[go_sem] theorem tf_94_1 : tf Try.prog 94 1 = some (1, false, 1) := by kernel_rfl
@[go_sem] theorem tz_94 : tz Try.prog 94 = some [.int .i64 0, .int .i64 0] := by kernel_rfl
@[go_sem] theorem tflat_94 : tflat Try.prog 94 = true := by kernel_rfl
@[go_sem] theorem tbool_94 : tbool Try.prog 94 = false := by kernel_rfl
@[go_sem] theorem tc_95 : Try.prog.cellsOf 95 = 2 := by kernel_rfl
@[go_sem] theorem tl_95 : tl Try.prog 95 = some (true, 2) := by kernel_rfl
@[go_sem] theorem te_95 : te Try.prog 95 = none := by kernel_rfl
@[go_sem] theorem tp_95 : tp Try.prog 95 = some [(0, 1), (1, 1)] := by kernel_rfl
@[go_sem] theorem tf_95_0 : tf Try.prog 95 0 = some (0, false, 1) := by kernel_rfl
@[go_sem] theorem tf_95_1 : tf Try.prog 95 1 = some (1, false, 1) := by kernel_rfl
@[go_sem] theorem teq_95 : teq Try.prog 95 = some [0, 0] := by kernel_rfl
@[go_sem] theorem tz_95 : tz Try.prog 95 = some [.int .i64 0, .int .i64 0] := by kernel_rfl
@[go_sem] theorem tflat_95 : tflat Try.prog 95 = true := by kernel_rfl
@[go_sem] theorem tbool_95 : tbool Try.prog 95 = false := by kernel_rfl
@[go_sem] theorem tc_103 : Try.prog.cellsOf 103 = 1 := by kernel_rfl
@[go_sem] theorem tl_103 : tl Try.prog 103 = some (false, 1) := by kernel_rfl
@[go_sem] theorem te_103 : te Try.prog 103 = some (106, 2, 16) := by kernel_rfl
@[go_sem] theorem tz_103 : tz Try.prog 103 = some [.sl 2 []] := by kernel_rfl
@[go_sem] theorem tflat_103 : tflat Try.prog 103 = false := by kernel_rfl
@[go_sem] theorem tbool_103 : tbool Try.prog 103 = false := by kernel_rfl
@[go_sem] theorem tc_105 : Try.prog.cellsOf 105 = 2 := by kernel_rfl
@[go_sem] theorem tl_105 : tl Try.prog 105 = some (true, 2) := by kernel_rfl
@[go_sem] theorem te_105 : te Try.prog 105 = none := by kernel_rfl
@[go_sem] theorem tp_105 : tp Try.prog 105 = some [(0, 1), (1, 1)] := by kernel_rfl
@[go_sem] theorem tf_105_0 : tf Try.prog 105 0 = some (0, false, 1) := by kernel_rfl
@[go_sem] theorem tf_105_1 : tf Try.prog 105 1 = some (1, false, 1) := by kernel_rfl
@[go_sem] theorem tz_105 : tz Try.prog 105 = some [.int .i64 0, .int .i64 0] := by kernel_rfl
@[go_sem] theorem tflat_105 : tflat Try.prog 105 = true := by kernel_rfl
@[go_sem] theorem tbool_105 : tbool Try.prog 105 = false := by kernel_rfl
@[go_sem] theorem tc_106 : Try.prog.cellsOf 106 = 2 := by kernel_rfl
@[go_sem] theorem tl_106 : tl Try.prog 106 = some (true, 2) := by kernel_rfl
@[go_sem] theorem te_106 : te Try.prog 106 = none := by kernel_rfl
@[go_sem] theorem tp_106 : tp Try.prog 106 = some [(0, 1), (1, 1)] := by kernel_rfl
@[go_sem] theorem tf_106_0 : tf Try.prog 106 0 = some (0, false, 1) := by kernel_rfl
@[go_sem] theorem tf_106_1 : tf Try.prog 106 1 = some (1, false, 1) := by kernel_rfl
@[go_sem] theorem teq_106 : teq Try.prog 106 = some [0, 0] := by kernel_rfl
@[go_sem] theorem tz_106 : tz Try.prog 106 = some [.int .i64 0, .int .i64 0] := by kernel_rfl
@[go_sem] theorem tflat_106 : tflat Try.prog 106 = true := by kernel_rfl
@[go_sem] theorem tbool_106 : tbool Try.prog 106 = false := by kernel_rfl
@[go_sem] theorem tc_112 : Try.prog.cellsOf 112 = 1 := by kernel_rfl
@[go_sem] theorem tl_112 : tl Try.prog 112 = some (true, 1) := by kernel_rfl
@[go_sem] theorem te_112 : te Try.prog 112 = none := by kernel_rfl
@[go_sem] theorem tp_112 : tp Try.prog 112 = some [(0, 1)] := by kernel_rfl
@[go_sem] theorem tf_112_0 : tf Try.prog 112 0 = some (0, false, 1) := by kernel_rfl
@[go_sem] theorem tz_112 : tz Try.prog 112 = some [.sl 2 []] := by kernel_rfl
@[go_sem] theorem tflat_112 : tflat Try.prog 112 = false := by kernel_rfl
@[go_sem] theorem tbool_112 : tbool Try.prog 112 = false := by kernel_rfl
@[go_sem] theorem tc_113 : Try.prog.cellsOf 113 = 1 := by kernel_rfl
@[go_sem] theorem tl_113 : tl Try.prog 113 = some (true, 1) := by kernel_rfl
@[go_sem] theorem te_113 : te Try.prog 113 = none := by kernel_rfl
@[go_sem] theorem tp_113 : tp Try.prog 113 = some [(0, 1)] := by kernel_rfl
@[go_sem] theorem tf_113_0 : tf Try.prog 113 0 = some (0, false, 1) := by kernel_rfl
@[go_sem] theorem tz_113 : tz Try.prog 113 = some [.sl 2 []] := by kernel_rfl
@[go_sem] theorem tflat_113 : tflat Try.prog 113 = false := by kernel_rfl
@[go_sem] theorem tbool_113 : tbool Try.prog 113 = false := by kernel_rfl
@[go_sem] theorem tc_131 : Try.prog.cellsOf 131 = 2 := by kernel_rfl
@[go_sem] theorem tl_131 : tl Try.prog 131 = some (true, 2) := by kernel_rfl
@[go_sem] theorem te_131 : te Try.prog 131 = none := by kernel_rfl
@[go_sem] theorem tp_131 : tp Try.prog 131 = some [(0, 1), (1, 1)] := by kernel_rfl
@[go_sem] theorem tf_131_0 : tf Try.prog 131 0 = some (0, false, 1) := by kernel_rfl
@[go_sem] theorem tf_131_1 : tf Try.prog 131 1 = some (1, false, 1) := by kernel_rfl
@[go_sem] theorem tz_131 : tz Try.prog 131 = some [.bool false, .int .i64 0] := by kernel_rfl
@[go_sem] theorem tflat_131 : tflat Try.prog 131 = true := by kernel_rfl
@[go_sem] theorem tbool_131 : tbool Try.prog 131 = false := by kernel_rfl
@[go_sem] theorem tc_132 : Try.prog.cellsOf 132 = 2 := by kernel_rfl
@[go_sem] theorem tl_132 : tl Try.prog 132 = some (true, 2) := by kernel_rfl
@[go_sem] theorem te_132 : te Try.prog 132 = none := by kernel_rfl
@[go_sem] theorem tp_132 : tp Try.prog 132 = some [(0, 1), (1, 1)] := by kernel_rfl
@[go_sem] theorem tf_132_0 : tf Try.prog 132 0 = some (0, false, 1) := by kernel_rfl
@[go_sem] theorem tf_132_1 : tf Try.prog 132 1 = some (1, false, 1) := by kernel_rfl
@[go_sem] theorem teq_132 : teq Try.prog 132 = some [1, 0] := by kernel_rfl
@[go_sem] theorem tz_132 : tz Try.prog 132 = some [.bool false, .int .i64 0] := by kernel_rfl
@[go_sem] theorem tflat_132 : tflat Try.prog 132 = true := by kernel_rfl
@[go_sem] theorem tbool_132 : tbool Try.prog 132 = false := by kernel_rfl
@[go_sem] theorem tc_134 : Try.prog.cellsOf 134 = 3 := by kernel_rfl
@[go_sem] theorem tl_134 : tl Try.prog 134 = some (true, 3) := by kernel_rfl
@[go_sem] theorem te_134 : te Try.prog 134 = none := by kernel_rfl
@[go_sem] theorem tp_134 : tp Try.prog 134 = some [(0, 1), (1, 1), (2, 1)] := by kernel_rfl
@[go_sem] theorem tf_134_0 : tf Try.prog 134 0 = some (0, false, 1) := by kernel_rfl
@[go_sem] theorem tf_134_1 : tf Try.prog 134 1 = some (1, false, 1) := by kernel_rfl
@[go_sem] theorem tf_134_2 : tf Try.prog 134 2 = some (2, false, 1) := by kernel_rfl
@[go_sem] theorem tz_134 : tz Try.prog 134 = some [.int .i64 0, .int .i64 0, .int .i64 0] := by kernel_rfl
@[go_sem] theorem tflat_134 : tflat Try.prog 134 = true := by kernel_rfl
@[go_sem] theorem tbool_134 : tbool Try.prog 134 = false := by kernel_rfl
@[go_sem] theorem tc_135 : Try.prog.cellsOf 135 = 3 := by kernel_rfl
@[go_sem] theorem tl_135 : tl Try.prog 135 = some (true, 3) := by kernel_rfl
@[go_sem] theorem te_135 : te Try.prog 135 = none := by kernel_rfl
@[go_sem] theorem tp_135 : tp Try.prog 135 = some [(0, 1), (1, 1), (2, 1)] := by kernel_rfl
@[go_sem] theorem tf_135_0 : tf Try.prog 135 0 = some (0, false, 1) := by kernel_rfl
@[go_sem] theorem tf_135_1 : tf Try.prog 135 1 = some (1, false, 1) := by kernel_rfl
@[go_sem] theorem tf_135_2 : tf Try.prog 135 2 = some (2, false, 1) := by kernel_rfl
@[go_sem] theorem teq_135 : teq Try.prog 135 = some [0, 0, 0] := by kernel_rfl
@[go_sem] theorem tz_135 : tz Try.prog 135 = some [.int .i64 0, .int .i64 0, .int .i64 0] := by kernel_rfl
@[go_sem] theorem tflat_135 : tflat Try.prog 135 = true := by kernel_rfl
@[go_sem] theorem tbool_135 : tbool Try.prog 135 = false := by kernel_rfl
@[go_sem] theorem tc_140 : Try.prog.cellsOf 140 = 1 := by kernel_rfl
@[go_sem] theorem tl_140 : tl Try.prog 140 = some (false, 1) := by kernel_rfl
@[go_sem] theorem te_140 : te Try.prog 140 = some (153, 4, 32) := by kernel_rfl
@[go_sem] theorem tz_140 : tz Try.prog 140 = some [.sl 4 []] := by kernel_rfl
@[go_sem] theorem tflat_140 : tflat Try.prog 140 = false := by kernel_rfl
@[go_sem] theorem tbool_140 : tbool Try.prog 140 = false := by kernel_rfl
@[go_sem] theorem tc_141 : Try.prog.cellsOf 141 = 1 := by kernel_rfl
@[go_sem] theorem tl_141 : tl Try.prog 141 = some (true, 1) := by kernel_rfl
@[go_sem] theorem te_141 : te Try.prog 141 = none := by kernel_rfl
@[go_sem] theorem tp_141 : tp Try.prog 141 = some [(0, 1)] := by kernel_rfl
@[go_sem] theorem tf_141_0 : tf Try.prog 141 0 = some (0, false, 1) := by kernel_rfl
@[go_sem] theorem tz_141 : tz Try.prog 141 = some [.sl 4 []] := by kernel_rfl
@[go_sem] theorem tflat_141 : tflat Try.prog 141 = false := by kernel_rfl
@[go_sem] theorem tbool_141 : tbool Try.prog 141 = false := by kernel_rfl
@[go_sem] theorem tc_142 : Try.prog.cellsOf 142 = 1 := by kernel_rfl
@[go_sem] theorem tl_142 : tl Try.prog 142 = some (true, 1) := by kernel_rfl
@[go_sem] theorem te_142 : te Try.prog 142 = none := by kernel_rfl
@[go_sem] theorem tp_142 : tp Try.prog 142 = some [(0, 1)] := by kernel_rfl
@[go_sem] theorem tf_142_0 : tf Try.prog 142 0 = some (0, false, 1) := by kernel_rfl
@[go_sem] theorem tz_142 : tz Try.prog 142 = some [.sl 4 []] := by kernel_rfl
@[go_sem] theorem tflat_142 : tflat Try.prog 142 = false := by kernel_rfl
@[go_sem] theorem tbool_142 : tbool Try.prog 142 = false := by kernel_rfl
@[go_sem] theorem tc_146 : Try.prog.cellsOf 146 = 4 := by kernel_rfl
@[go_sem] theorem tl_146 : tl Try.prog 146 = some (true, 4) := by kernel_rfl
@[go_sem] theorem te_146 : te Try.prog 146 = none := by kernel_rfl
@[go_sem] theorem tp_146 : tp Try.prog 146 = some [(0, 1), (1, 1), (2, 1), (3, 1)] := by kernel_rfl
@[go_sem] theorem tf_146_0 : tf Try.prog 146 0 = some (0, false, 1) := by kernel_rfl
@[go_sem] theorem tf_146_1 : tf Try.prog 146 1 = some (1, false, 1) := by kernel_rfl
@[go_sem] theorem tf_146_2 : tf Try.prog 146 2 = some (2, false, 1) := by kernel_rfl
@[go_sem] theorem tf_146_3 : tf Try.prog 146 3 = some (3, false, 1) := by kernel_rfl
@[go_sem] theorem tz_146 : tz Try.prog 146 = some [.int .i64 0, .int .i64 0, .int .i64 0, .int .i64 0] := by kernel_rfl
@[go_sem] theorem tflat_146 : tflat Try.prog 146 = true := by kernel_rfl
@[go_sem] theorem tbool_146 : tbool Try.prog 146 = false := by kernel_rfl
@[go_sem] theorem tc_147 : Try.prog.cellsOf 147 = 4 := by kernel_rfl
@[go_sem] theorem tl_147 : tl Try.prog 147 = some (true, 4) := by kernel_rfl
@[go_sem] theorem te_147 : te Try.prog 147 = none := by kernel_rfl
@[go_sem] theorem tp_147 : tp Try.prog 147 = some [(0, 1), (1, 1), (2, 1), (3, 1)] := by kernel_rfl
@[go_sem] theorem tf_147_0 : tf Try.prog 147 0 = some (0, false, 1) := by kernel_rfl
@[go_sem] theorem tf_147_1 : tf Try.prog 147 1 = some (1, false, 1) := by kernel_rfl
@[go_sem] theorem tf_147_2 : tf Try.prog 147 2 = some (2, false, 1) := by kernel_rfl
@[go_sem] theorem tf_147_3 : tf Try.prog 147 3 = some (3, false, 1) := by kernel_rfl
@[go_sem] theorem teq_147 : teq Try.prog 147 = some [0, 0, 0, 0] := by kernel_rfl
@[go_sem] theorem tz_147 : tz Try.prog 147 = some [.int .i64 0, .int .i64 0, .int .i64 0, .int .i64 0] := by kernel_rfl
@[go_sem] theorem tflat_147 : tflat Try.prog 147 = true := by kernel_rfl
@[go_sem] theorem tbool_147 : tbool Try.prog 147 = false := by kernel_rfl
@[go_sem] theorem tc_148 : Try.prog.cellsOf 148 = 10 := by kernel_rfl
@[go_sem] theorem tl_148 : tl Try.prog 148 = some (true, 10) := by kernel_rfl
@[go_sem] theorem te_148 : te Try.prog 148 = none := by kernel_rfl
@[go_sem] theorem tp_148 : tp Try.prog 148 = some [(0, 1), (1, 1), (2, 1), (3, 1), (4, 1), (5, 1), (6, 1), (7, 1), (8, 1), (9, 1)] := by kernel_rfl
@[go_sem] theorem tf_148_0 : tf Try.prog 148 0 = some (0, false, 1) := by kernel_rfl
@[go_sem] theorem tf_148_1 : tf Try.prog 148 1 = some (1, false, 1) := by kernel_rfl
@[go_sem] theorem tf_148_2 : tf Try.prog 148 2 = some (2, false, 1) := by kernel_rfl
@[go_sem] theorem tf_148_3 : tf Try.prog 148 3 = some (3, false, 1) := by kernel_rfl
@[go_sem] theorem tf_148_4 : tf Try.prog 148 4 = some (4, false, 1) := by kernel_rfl
@[go_sem] theorem tf_148_5 : tf Try.prog 148 5 = some (5, false, 1) := by kernel_rfl
@[go_sem] theorem tf_148_6 : tf Try.prog 148 6 = some (6, false, 1) := by kernel_rfl
@[go_sem] theorem tf_148_7 : tf Try.prog 148 7 = some (7, false, 1) := by kernel_rfl
@[go_sem] theorem tf_148_8 : tf Try.prog 148 8 = some (8, false, 1) := by kernel_rfl
@[go_sem] theorem tf_148_9 : tf Try.prog 148 9 = some (9, false, 1) := by kernel_rfl
@[go_sem] theorem tz_148 : tz Try.prog 148 = some [.int .i64 0, .int .i64 0, .int .i64 0, .int .i64 0, .int .i64 0, .int .i64 0, .int .i64 0, .int .i64 0, .int .i64 0, .bool false] := by kernel_rfl
@[go_sem] theorem tflat_148 : tflat Try.prog 148 = true := by kernel_rfl
@[go_sem] theorem tbool_148 : tbool Try.prog 148 = false := by kernel_rfl
@[go_sem] theorem tc_149 : Try.prog.cellsOf 149 = 10 := by kernel_rfl
@[go_sem] theorem tl_149 : tl Try.prog 149 = some (true, 10) := by kernel_rfl
@[go_sem] theorem te_149 : te Try.prog 149 = none := by kernel_rfl
@[go_sem] theorem tp_149 : tp Try.prog 149 = some [(0, 1), (1, 1), (2, 1), (3, 1), (4, 1), (5, 1), (6, 1), (7, 1), (8, 1), (9, 1)] := by kernel_rfl
@[go_sem] theorem tf_149_0 : tf Try.prog 149 0 = some (0, false, 1) := by kernel_rfl
@[go_sem] theorem tf_149_1 : tf Try.prog 149 1 = some (1, false, 1) := by kernel_rfl
@[go_sem] theorem tf_149_2 : tf Try.prog 149 2 = some (2, false, 1) := by kernel_rfl
@[go_sem] theorem tf_149_3 : tf Try.prog 149 3 = some (3, false, 1) := by kernel_rfl
@[go_sem] theorem tf_149_4 : tf Try.prog 149 4 = some (4, false, 1) := by kernel_rfl
@[go_sem] theorem tf_149_5 : tf Try.prog 149 5 = some (5, false, 1) := by kernel_rfl
@[go_sem] theorem tf_149_6 : tf Try.prog 149 6 = some (6, false, 1) := by kernel_rfl
@[go_sem] theorem tf_149_7 : tf Try.prog 149 7 = some (7, false, 1) := by kernel_rfl
@[go_sem] theorem tf_149_8 : tf Try.prog 149 8 = some (8, false, 1) := by kernel_rfl
@[go_sem] theorem tf_149_9 : tf Try.prog 149 9 = some (9, false, 1) := by kernel_rfl
@[go_sem] theorem teq_149 : teq Try.prog 149 = some [0, 0, 0, 0, 0, 0, 0, 0, 0, 1] := by kernel_rfl
@[go_sem] theorem tz_149 : tz Try.prog 149 = some [.int .i64 0, .int .i64 0, .int .i64 0, .int .i64 0, .int .i64 0, .int .i64 0, .int .i64 0, .int .i64 0, .int .i64 0, .bool false] := by kernel_rfl
@[go_sem] theorem tflat_149 : tflat Try.prog 149 = true := by kernel_rfl
@[go_sem] theorem tbool_149 : tbool Try.prog 149 = false := by kernel_rfl
@[go_sem] theorem tc_150 : Try.prog.cellsOf 150 = 21 := by kernel_rfl
@[go_sem] theorem tl_150 : tl Try.prog 150 = some (true, 21) := by kernel_rfl
@[go_sem] theorem te_150 : te Try.prog 150 = none := by kernel_rfl
@[go_sem] theorem tp_150 : tp Try.prog 150 = some [(0, 1), (1, 4), (5, 1), (6, 1), (7, 10), (17, 1), (18, 1), (19, 1), (20, 1)] := by kernel_rfl
@[go_sem] theorem tf_150_0 : tf Try.prog 150 0 = some (0, false, 1) := by kernel_rfl
@[go_sem] theorem tf_150_1 : tf Try.prog 150 1 = some (1, true, 4) := by kernel_rfl
@[go_sem] theorem tf_150_2 : tf Try.prog 150 2 = some (5, false, 1) := by kernel_rfl
@[go_sem] theorem tf_150_3 : tf Try.prog 150 3 = some (6, false, 1) := by kernel_rfl
@[go_sem] theorem tf_150_4 : tf Try.prog 150 4 = some (7, true, 10) := by kernel_rfl
@[go_sem] theorem tf_150_5 : tf Try.prog 150 5 = some (17, false, 1) := by kernel_rfl
@[go_sem] theorem tf_150_6 : tf Try.prog 150 6 = some (18, false, 1) := by kernel_rfl
@[go_sem] theorem tf_150_7 : tf Try.prog 150 7 = some (19, false, 1) := by kernel_rfl
@[go_sem] theorem tf_150_8 : tf Try.prog 150 8 = some (20, false, 1) := by kernel_rfl
@[go_sem] theorem tz_150 : tz Try.prog 150 = some [.bool false, .int .i64 0, .int .i64 0, .int .i64 0, .int .i64 0, .int .i64 0, .int .i64 0, .int .i64 0, .int .i64 0, .int .i64 0, .int .i64 0, .int .i64 0, .int .i64 0, .int .i64 0, .int .i64 0, .int .i64 0, .bool false, .int .i64 0, .int .i64 0, .int .i64 0, .int .i64 0] := by kernel_rfl
@[go_sem] theorem tflat_150 : tflat Try.prog 150 = true := by kernel_rfl
@[go_sem] theorem tbool_150 : tbool Try.prog 150 = false := by kernel_rfl
@[go_sem] theorem tc_151 : Try.prog.cellsOf 151 = 21 := by kernel_rfl
@[go_sem] theorem tl_151 : tl Try.prog 151 = some (true, 21) := by kernel_rfl
@[go_sem] theorem te_151 : te Try.prog 151 = none := by kernel_rfl
@[go_sem] theorem tp_151 : tp Try.prog 151 = some [(0, 1), (1, 4), (5, 1), (6, 1), (7, 10), (17, 1), (18, 1), (19, 1), (20, 1)] := by kernel_rfl
@[go_sem] theorem tf_151_0 : tf Try.prog 151 0 = some (0, false, 1) := by kernel_rfl
@[go_sem] theorem tf_151_1 : tf Try.prog 151 1 = some (1, true, 4) := by kernel_rfl
@[go_sem] theorem tf_151_2 : tf Try.prog 151 2 = some (5, false, 1) := by kernel_rfl
@[go_sem] theorem tf_151_3 : tf Try.prog 151 3 = some (6, false, 1) := by kernel_rfl
@[go_sem] theorem tf_151_4 : tf Try.prog 151 4 = some (7, true, 10) := by kernel_rfl
@[go_sem] theorem tf_151_5 : tf Try.prog 151 5 = some (17, false, 1) := by kernel_rfl
@[go_sem] theorem tf_151_6 : tf Try.prog 151 6 = some (18, false, 1) := by kernel_rfl
@[go_sem] theorem tf_151_7 : tf Try.prog 151 7 = some (19, false, 1) := by kernel_rfl
@[go_sem] theorem tf_151_8 : tf Try.prog 151 8 = some (20, false, 1) := by kernel_rfl
@[go_sem] theorem tz_151 : tz Try.prog 151 = some [.bool false, .int .i64 0, .int .i64 0, .int .i64 0, .int .i64 0, .int .i64 0, .int .i64 0, .int .i64 0, .int .i64 0, .int .i64 0, .int .i64 0, .int .i64 0, .int .i64 0, .int .i64 0, .int .i64 0, .int .i64 0, .bool false, .int .i64 0, .int .i64 0, .int .i64 0, .int .i64 0] := by kernel_rfl
@[go_sem] theorem tflat_151 : tflat Try.prog 151 = true := by kernel_rfl
@[go_sem] theorem tbool_151 : tbool Try.prog 151 = false := by kernel_rfl
@[go_sem] theorem tc_153 : Try.prog.cellsOf 153 = 4 := by kernel_rfl
@[go_sem] theorem tl_153 : tl Try.prog 153 = some (true, 4) := by kernel_rfl
@[go_sem] theorem te_153 : te Try.prog 153 = none := by kernel_rfl
@[go_sem] theorem tp_153 : tp Try.prog 153 = some [(0, 1), (1, 1), (2, 1), (3, 1)] := by kernel_rfl
@[go_sem] theorem tf_153_0 : tf Try.prog 153 0 = some (0, false, 1) := by kernel_rfl
@[go_sem] theorem tf_153_1 : tf Try.prog 153 1 = some (1, false, 1) := by kernel_rfl
@[go_sem] theorem tf_153_2 : tf Try.prog 153 2 = some (2, false, 1) := by kernel_rfl
@[go_sem] theorem tf_153_3 : tf Try.prog 153 3 = some (3, false, 1) := by kernel_rfl
@[go_sem] theorem teq_153 : teq Try.prog 153 = some [0, 0, 0, 0] := by kernel_rfl
@[go_sem] theorem tz_153 : tz Try.prog 153 = some [.int .i64 0, .int .i64 0, .int .i64 0, .int .i64 0] := by kernel_rfl
@[go_sem] theorem tflat_153 : tflat Try.prog 153 = true := by kernel_rfl
@[go_sem] theorem tbool_153 : tbool Try.prog 153 = false := by kernel_rfl
@[go_sem] theorem tc_154 : Try.prog.cellsOf 154 = 10 := by kernel_rfl
@[go_sem] theorem tl_154 : tl Try.prog 154 = some (true, 10) := by kernel_rfl
@[go_sem] theorem te_154 : te Try.prog 154 = none := by kernel_rfl
@[go_sem] theorem tp_154 : tp Try.prog 154 = some [(0, 1), (1, 1), (2, 1), (3, 1), (4, 1), (5, 1), (6, 1), (7, 1), (8, 1), (9, 1)] := by kernel_rfl
@[go_sem] theorem tf_154_0 : tf Try.prog 154 0 = some (0, false, 1) := by kernel_rfl
@[go_sem] theorem tf_154_1 : tf Try.prog 154 1 = some (1, false, 1) := by kernel_rfl
@[go_sem] theorem tf_154_2 : tf Try.prog 154 2 = some (2, false, 1) := by kernel_rfl
@[go_sem] theorem tf_154_3 : tf Try.prog 154 3 = some (3, false, 1) := by kernel_rfl
@[go_sem] theorem tf_154_4 : tf Try.prog 154 4 = some (4, false, 1) := by kernel_rfl
@[go_sem] theorem tf_154_5 : tf Try.prog 154 5 = some (5, false, 1) := by kernel_rfl
@[go_sem] theorem tf_154_6 : tf Try.prog 154 6 = some (6, false, 1) := by kernel_rfl
@[go_sem] theorem tf_154_7 : tf Try.prog 154 7 = some (7, false, 1) := by kernel_rfl
@[go_sem] theorem tf_154_8 : tf Try.prog 154 8 = some (8, false, 1) := by kernel_rfl
@[go_sem] theorem tf_154_9 : tf Try.prog 154 9 = some (9, false, 1) := by kernel_rfl
@[go_sem] theorem teq_154 : teq Try.prog 154 = some [0, 0, 0, 0, 0, 0, 0, 0, 0, 1] := by kernel_rfl
@[go_sem] theorem tz_154 : tz Try.prog 154 = some [.int .i64 0, .int .i64 0, .int .i64 0, .int .i64 0, .int .i64 0, .int .i64 0, .int .i64 0, .int .i64 0, .int .i64 0, .bool false] := by kernel_rfl
@[go_sem] theorem tflat_154 : tflat Try.prog 154 = true := by kernel_rfl
@[go_sem] theorem tbool_154 : tbool Try.prog 154 = false := by kernel_rfl
@[go_sem] theorem tc_155 : Try.prog.cellsOf 155 = 21 := by kernel_rfl
@[go_sem] theorem tl_155 : tl Try.prog 155 = some (true, 21) := by kernel_rfl
@[go_sem] theorem te_155 : te Try.prog 155 = none := by kernel_rfl
@[go_sem] theorem tp_155 : tp Try.prog 155 = some [(0, 1), (1, 4), (5, 1), (6, 1), (7, 10), (17, 1), (18, 1), (19, 1), (20, 1)] := by kernel_rfl
@[go_sem] theorem tf_155_0 : tf Try.prog 155 0 = some (0, false, 1) := by kernel_rfl
@[go_sem] theorem tf_155_1 : tf Try.prog 155 1 = some (1, true, 4) := by kernel_rfl
@[go_sem] theorem tf_155_2 : tf Try.prog 155 2 = some (5, false, 1) := by kernel_rfl
@[go_sem] theorem tf_155_3 : tf Try.prog 155 3 = some (6, false, 1) := by kernel_rfl
@[go_sem] theorem tf_155_4 : tf Try.prog 155 4 = some (7, true, 10) := by kernel_rfl
@[go_sem] theorem tf_155_5 : tf Try.prog 155 5 = some (17, false, 1) := by kernel_rfl
@[go_sem] theorem tf_155_6 : tf Try.prog 155 6 = some (18, false, 1) := by kernel_rfl
@[go_sem] theorem tf_155_7 : tf Try.prog 155 7 = some (19, false, 1) := by kernel_rfl
@[go_sem] theorem tf_155_8 : tf Try.prog 155 8 = some (20, false, 1) := by kernel_rfl
@[go_sem] theorem tz_155 : tz Try.prog 155 = some [.bool false, .int .i64 0, .int .i64 0, .int .i64 0, .int .i64 0, .int .i64 0, .int .i64 0, .int .i64 0, .int .i64 0, .int .i64 0, .int .i64 0, .int .i64 0, .int .i64 0, .int .i64 0, .int .i64 0, .int .i64 0, .bool false, .int .i64 0, .int .i64 0, .int .i64 0, .int .i64 0] := by kernel_rfl
@[go_sem] theorem tflat_155 : tflat Try.prog 155 = true := by kernel_rfl
@[go_sem] theorem tbool_155 : tbool Try.prog 155 = false := by kernel_rfl
@[go_sem] theorem tc_156 : Try.prog.cellsOf 156 = 21 := by kernel_rfl
@[go_sem] theorem tl_156 : tl Try.prog 156 = some (true, 21) := by kernel_rfl
@[go_sem] theorem te_156 : te Try.prog 156 = none := by kernel_rfl
@[go_sem] theorem tp_156 : tp Try.prog 156 = some [(0, 1), (1, 4), (5, 1), (6, 1), (7, 10), (17, 1), (18, 1), (19, 1), (20, 1)] := by kernel_rfl
@[go_sem] theorem tf_156_0 : tf Try.prog 156 0 = some (0, false, 1) := by kernel_rfl
@[go_sem] theorem tf_156_1 : tf Try.prog 156 1 = some (1, true, 4) := by kernel_rfl
@[go_sem] theorem tf_156_2 : tf Try.prog 156 2 = some (5, false, 1) := by kernel_rfl
@[go_sem] theorem tf_156_3 : tf Try.prog 156 3 = some (6, false, 1) := by kernel_rfl
@[go_sem] theorem tf_156_4 : tf Try.prog 156 4 = some (7, true, 10) := by kernel_rfl
@[go_sem] theorem tf_156_5 : tf Try.prog 156 5 = some (17, false, 1) := by kernel_rfl
@[go_sem] theorem tf_156_6 : tf Try.prog 156 6 = some (18, false, 1) := by kernel_rfl
@[go_sem] theorem tf_156_7 : tf Try.prog 156 7 = some (19, false, 1) := by kernel_rfl
@[go_sem] theorem tf_156_8 : tf Try.prog 156 8 = some (20, false, 1) := by kernel_rfl
@[go_sem] theorem tz_156 : tz Try.prog 156 = some [.bool false, .int .i64 0, .int .i64 0, .int .i64 0, .int .i64 0, .int .i64 0, .int .i64 0, .int .i64 0, .int .i64 0, .int .i64 0, .int .i64 0, .int .i64 0, .int .i64 0, .int .i64 0, .int .i64 0, .int .i64 0, .bool false, .int .i64 0, .int .i64 0, .int .i64 0, .int .i64 0] := by kernel_rfl
@[go_sem] theorem tflat_156 : tflat Try.prog 156 = true := by kernel_rfl
@[go_sem] theorem tbool_156 : tbool Try.prog 156 = false := by kernel_rfl
@[go_sem] theorem tc_157 : Try.prog.cellsOf 157 = 1 := by kernel_rfl
@[go_sem] theorem tl_157 : tl Try.prog 157 = some (false, 1) := by kernel_rfl
@[go_sem] theorem te_157 : te Try.prog 157 = some (147, 4, 32) := by kernel_rfl
@[go_sem] theorem tz_157 : tz Try.prog 157 = some [.sl 4 []] := by kernel_rfl
@[go_sem] theorem tflat_157 : tflat Try.prog 157 = false := by kernel_rfl
@[go_sem] theorem tbool_157 : tbool Try.prog 157 = false := by kernel_rfl
@[go_sem] theorem tc_158 : Try.prog.cellsOf 158 = 1 := by kernel_rfl
@[go_sem] theorem tl_158 : tl Try.prog 158 = some (true, 1) := by kernel_rfl
@[go_sem] theorem te_158 : te Try.prog 158 = none := by kernel_rfl
@[go_sem] theorem tp_158 : tp Try.prog 158 = some [(0, 1)] := by kernel_rfl
@[go_sem] theorem tf_158_0 : tf Try.prog 158 0 = some (0, false, 1) := by kernel_rfl
@[go_sem] theorem tz_158 : tz Try.prog 158 = some [.sl 4 []] := by kernel_rfl
@[go_sem] theorem tflat_158 : tflat Try.prog 158 = false := by kernel_rfl
@[go_sem] theorem tbool_158 : tbool Try.prog 158 = false := by kernel_rfl
@[go_sem] theorem tc_159 : Try.prog.cellsOf 159 = 1 := by kernel_rfl
@[go_sem] theorem tl_159 : tl Try.prog 159 = some (true, 1) := by kernel_rfl
@[go_sem] theorem te_159 : te Try.prog 159 = none := by kernel_rfl
@[go_sem] theorem tp_159 : tp Try.prog 159 = some [(0, 1)] := by kernel_rfl
@[go_sem] theorem tf_159_0 : tf Try.prog 159 0 = some (0, false, 1) := by kernel_rfl
@[go_sem] theorem tz_159 : tz Try.prog 159 = some [.sl 4 []] := by kernel_rfl
@[go_sem] theorem tflat_159 : tflat Try.prog 159 = false := by kernel_rfl
@[go_sem] theorem tbool_159 : tbool Try.prog 159 = false := by kernel_rfl
@[go_sem] theorem tc_161 : Try.prog.cellsOf 161 = 7 := by kernel_rfl
@[go_sem] theorem tl_161 : tl Try.prog 161 = some (true, 7) := by kernel_rfl
@[go_sem] theorem te_161 : te Try.prog 161 = none := by kernel_rfl
@[go_sem] theorem tp_161 : tp Try.prog 161 = some [(0, 1), (1, 1), (2, 1), (3, 1), (4, 1), (5, 1), (6, 1)] := by kernel_rfl
@[go_sem] theorem tf_161_0 : tf Try.prog 161 0 = some (0, false, 1) := by kernel_rfl
@[go_sem] theorem tf_161_1 : tf Try.prog 161 1 = some (1, false, 1) := by kernel_rfl
@[go_sem] theorem tf_161_2 : tf Try.prog 161 2 = some (2, false, 1) := by kernel_rfl
@[go_sem] theorem tf_161_3 : tf Try.prog 161 3 = some (3, false, 1) := by kernel_rfl
@[go_sem] theorem tf_161_4 : tf Try.prog 161 4 = some (4, false, 1) := by kernel_rfl
@[go_sem] theorem tf_161_5 : tf Try.prog 161 5 = some (5, false, 1) := by kernel_rfl
@[go_sem] theorem tf_161_6 : tf Try.prog 161 6 = some (6, false, 1) := by kernel_rfl
@[go_sem] theorem tz_161 : tz Try.prog 161 = some [.int .i64 0, .int .i64 0, .int .i64 0, .int .i64 0, .int .i64 0, .int .i64 0, .int .i64 0] := by kernel_rfl
@[go_sem] theorem tflat_161 : tflat Try.prog 161 = true := by kernel_rfl
@[go_sem] theorem tbool_161 : tbool Try.prog 161 = false := by kernel_rfl
@[go_sem] theorem tc_162 : Try.prog.cellsOf 162 = 7 := by kernel_rfl
@[go_sem] theorem tl_162 : tl Try.prog 162 = some (true, 7) := by kernel_rfl
@[go_sem] theorem te_162 : te Try.prog 162 = none := by kernel_rfl
@[go_sem] theorem tp_162 : tp Try.prog 162 = some [(0, 1), (1, 1), (2, 1), (3, 1), (4, 1), (5, 1), (6, 1)] := by kernel_rfl
@[go_sem] theorem tf_162_0 : tf Try.prog 162 0 = some (0, false, 1) := by kernel_rfl
@[go_sem] theorem tf_162_1 : tf Try.prog 162 1 = some (1, false, 1) := by kernel_rfl
@[go_sem] theorem tf_162_2 : tf Try.prog 162 2 = some (2, false, 1) := by kernel_rfl
@[go_sem] theorem tf_162_3 : tf Try.prog 162 3 = some (3, false, 1) := by kernel_rfl
@[go_sem] theorem tf_162_4 : tf Try.prog 162 4 = some (4, false, 1) := by kernel_rfl
@[go_sem] theorem tf_162_5 : tf Try.prog 162 5 = some (5, false, 1) := by kernel_rfl
@[go_sem] theorem tf_162_6 : tf Try.prog 162 6 = some (6, false, 1) := by kernel_rfl
@[go_sem] theorem teq_162 : teq Try.prog 162 = some [0, 0, 0, 0, 0, 0, 0] := by kernel_rfl
@[go_sem] theorem tz_162 : tz Try.prog 162 = some [.int .i64 0, .int .i64 0, .int .i64 0, .int .i64 0, .int .i64 0, .int .i64 0, .int .i64 0] := by kernel_rfl
@[go_sem] theorem tflat_162 : tflat Try.prog 162 = true := by kernel_rfl
@[go_sem] theorem tbool_162 : tbool Try.prog 162 = false := by kernel_rfl
@[go_sem] theorem tc_164 : Try.prog.cellsOf 164 = 7 := by kernel_rfl
@[go_sem] theorem tl_164 : tl Try.prog 164 = some (true, 7) := by kernel_rfl
@[go_sem] theorem te_164 : te Try.prog 164 = none := by kernel_rfl
@[go_sem] theorem tp_164 : tp Try.prog 164 = some [(0, 1), (1, 1), (2, 1), (3, 1), (4, 1), (5, 1), (6, 1)] := by kernel_rfl
@[go_sem] theorem tf_164_0 : tf Try.prog 164 0 = some (0, false, 1) := by kernel_rfl
@[go_sem] theorem tf_164_1 : tf Try.prog 164 1 = some (1, false, 1) := by kernel_rfl
@[go_sem] theorem tf_164_2 : tf Try.prog 164 2 = some (2, false, 1) := by kernel_rfl
@[go_sem] theorem tf_164_3 : tf Try.prog 164 3 = some (3, false, 1) := by kernel_rfl
@[go_sem] theorem tf_164_4 : tf Try.prog 164 4 = some (4, false, 1) := by kernel_rfl
@[go_sem] theorem tf_164_5 : tf Try.prog 164 5 = some (5, false, 1) := by kernel_rfl
@[go_sem] theorem tf_164_6 : tf Try.prog 164 6 = some (6, false, 1) := by kernel_rfl
@[go_sem] theorem teq_164 : teq Try.prog 164 = some [0, 0, 0, 0, 0, 0, 0] := by kernel_rfl
@[go_sem] theorem tz_164 : tz Try.prog 164 = some [.int .i64 0, .int .i64 0, .int .i64 0, .int .i64 0, .int .i64 0, .int .i64 0, .int .i64 0] := by kernel_rfl
@[go_sem] theorem tflat_164 : tflat Try.prog 164 = true := by kernel_rfl
@[go_sem] theorem tbool_164 : tbool Try.prog 164 = false := by kernel_rfl
@[go_sem] theorem tc_178 : Try.prog.cellsOf 178 = 3 := by kernel_rfl
@[go_sem] theorem tl_178 : tl Try.prog 178 = some (true, 3) := by kernel_rfl
@[go_sem] theorem te_178 : te Try.prog 178 = none := by kernel_rfl
@[go_sem] theorem tp_178 : tp Try.prog 178 = some [(0, 1), (1, 1), (2, 1)] := by kernel_rfl
@[go_sem] theorem tf_178_0 : tf Try.prog 178 0 = some (0, false, 1) := by kernel_rfl
@[go_sem] theorem tf_178_1 : tf Try.prog 178 1 = some (1, false, 1) := by kernel_rfl
@[go_sem] theorem tf_178_2 : tf Try.prog 178 2 = some (2, false, 1) := by kernel_rfl
@[go_sem] theorem teq_178 : teq Try.prog 178 = some [0, 0, 0] := by kernel_rfl
@[go_sem] theorem tz_178 : tz Try.prog 178 = some [.int .i64 0, .int .i64 0, .int .i64 0] := by kernel_rfl
@[go_sem] theorem tflat_178 : tflat Try.prog 178 = true := by kernel_rfl
@[go_sem] theorem tbool_178 : tbool Try.prog 178 = false := by kernel_rfl
@[go_sem] theorem tc_180 : Try.prog.cellsOf 180 = 2 := by kernel_rfl
@[go_sem] theorem tl_180 : tl Try.prog 180 = some (true, 2) := by kernel_rfl
@[go_sem] theorem te_180 : te Try.prog 180 = none := by kernel_rfl
@[go_sem] theorem tp_180 : tp Try.prog 180 = some [(0, 1), (1, 1)] := by kernel_rfl
@[go_sem] theorem tf_180_0 : tf Try.prog 180 0 = some (0, false, 1) := by kernel_rfl
@[go_sem] theorem tf_180_1 : tf Try.prog 180 1 = some (1, false, 1) := by kernel_rfl
@[go_sem] theorem teq_180 : teq Try.prog 180 = some [1, 0] := by kernel_rfl
@[go_sem] theorem tz_180 : tz Try.prog 180 = some [.bool false, .int .i64 0] := by kernel_rfl
@[go_sem] theorem tflat_180 : tflat Try.prog 180 = true := by kernel_rfl
@[go_sem] theorem tbool_180 : tbool Try.prog 180 = false := by kernel_rfl
@[go_sem] theorem tc_190 : Try.prog.cellsOf 190 = 1 := by kernel_rfl
@[go_sem] theorem tl_190 : tl Try.prog 190 = some (false, 1) := by kernel_rfl
@[go_sem] theorem te_190 : te Try.prog 190 = some (242, 2, 16) := by kernel_rfl
@[go_sem] theorem tz_190 : tz Try.prog 190 = some [.sl 2 []] := by kernel_rfl
@[go_sem] theorem tflat_190 : tflat Try.prog 190 = false := by kernel_rfl
@[go_sem] theorem tbool_190 : tbool Try.prog 190 = false := by kernel_rfl
@[go_sem] theorem tc_191 : Try.prog.cellsOf 191 = 1 := by kernel_rfl
@[go_sem] theorem tl_191 : tl Try.prog 191 = some (true, 1) := by kernel_rfl
@[go_sem] theorem te_191 : te Try.prog 191 = none := by kernel_rfl
@[go_sem] theorem tp_191 : tp Try.prog 191 = some [(0, 1)] := by kernel_rfl
@[go_sem] theorem tf_191_0 : tf Try.prog 191 0 = some (0, false, 1) := by kernel_rfl
@[go_sem] theorem tz_191 : tz Try.prog 191 = some [.sl 2 []] := by kernel_rfl
@[go_sem] theorem tflat_191 : tflat Try.prog 191 = false := by kernel_rfl
@[go_sem] theorem tbool_191 : tbool Try.prog 191 = false := by kernel_rfl
@[go_sem] theorem tc_192 : Try.prog.cellsOf 192 = 1 := by kernel_rfl
@[go_sem] theorem tl_192 : tl Try.prog 192 = some (true, 1) := by kernel_rfl
@[go_sem] theorem te_192 : te Try.prog 192 = none := by kernel_rfl
@[go_sem] theorem tp_192 : tp Try.prog 192 = some [(0, 1)] := by kernel_rfl
@[go_sem] theorem tf_192_0 : tf Try.prog 192 0 = some (0, false, 1) := by kernel_rfl
@[go_sem] theorem tz_192 : tz Try.prog 192 = some [.sl 2 []] := by kernel_rfl
@[go_sem] theorem tflat_192 : tflat Try.prog 192 = false := by kernel_rfl
@[go_sem] theorem tbool_192 : tbool Try.prog 192 = false := by kernel_rfl
@[go_sem] theorem tc_222 : Try.prog.cellsOf 222 = 4 := by kernel_rfl
@[go_sem] theorem tl_222 : tl Try.prog 222 = some (true, 4) := by kernel_rfl
@[go_sem] theorem te_222 : te Try.prog 222 = none := by kernel_rfl
@[go_sem] theorem tp_222 : tp Try.prog 222 = some [(0, 1), (1, 1), (2, 1), (3, 1)] := by kernel_rfl
@[go_sem] theorem tf_222_0 : tf Try.prog 222 0 = some (0, false, 1) := by kernel_rfl
@[go_sem] theorem tf_222_1 : tf Try.prog 222 1 = some (1, false, 1) := by kernel_rfl
@[go_sem] theorem tf_222_2 : tf Try.prog 222 2 = some (2, false, 1) := by kernel_rfl
@[go_sem] theorem tf_222_3 : tf Try.prog 222 3 = some (3, false, 1) := by kernel_rfl
@[go_sem] theorem tz_222 : tz Try.prog 222 = some [.bool false, .int .i64 0, .bool false, .int .i64 0] := by kernel_rfl
@[go_sem] theorem tflat_222 : tflat Try.prog 222 = true := by kernel_rfl
@[go_sem] theorem tbool_222 : tbool Try.prog 222 = false := by kernel_rfl
@[go_sem] theorem tc_223 : Try.prog.cellsOf 223 = 4 := by kernel_rfl
@[go_sem] theorem tl_223 : tl Try.prog 223 = some (true, 4) := by kernel_rfl
@[go_sem] theorem te_223 : te Try.prog 223 = none := by kernel_rfl
@[go_sem] theorem tp_223 : tp Try.prog 223 = some [(0, 1), (1, 1), (2, 1), (3, 1)] := by kernel_rfl
@[go_sem] theorem tf_223_0 : tf Try.prog 223 0 = some (0, false, 1) := by kernel_rfl
@[go_sem] theorem tf_223_1 : tf Try.prog 223 1 = some (1, false, 1) := by kernel_rfl
@[go_sem] theorem tf_223_2 : tf Try.prog 223 2 = some (2, false, 1) := by kernel_rfl
@[go_sem] theorem tf_223_3 : tf Try.prog 223 3 = some (3, false, 1) := by kernel_rfl
@[go_sem] theorem teq_223 : teq Try.prog 223 = some [1, 0, 1, 0] := by kernel_rfl
@[go_sem] theorem tz_223 : tz Try.prog 223 = some [.bool false, .int .i64 0, .bool false, .int .i64 0] := by kernel_rfl
@[go_sem] theorem tflat_223 : tflat Try.prog 223 = true := by kernel_rfl
@[go_sem] theorem tbool_223 : tbool Try.prog 223 = false := by kernel_rfl
@[go_sem] theorem tc_225 : Try.prog.cellsOf 225 = 4 := by kernel_rfl
@[go_sem] theorem tl_225 : tl Try.prog 225 = some (true, 4) := by kernel_rfl
@[go_sem] theorem te_225 : te Try.prog 225 = none := by kernel_rfl
@[go_sem] theorem tp_225 : tp Try.prog 225 = some [(0, 1), (1, 1), (2, 1), (3, 1)] := by kernel_rfl
@[go_sem] theorem tf_225_0 : tf Try.prog 225 0 = some (0, false, 1) := by kernel_rfl
@[go_sem] theorem tf_225_1 : tf Try.prog 225 1 = some (1, false, 1) := by kernel_rfl
@[go_sem] theorem tf_225_2 : tf Try.prog 225 2 = some (2, false, 1) := by kernel_rfl
@[go_sem] theorem tf_225_3 : tf Try.prog 225 3 = some (3, false, 1) := by kernel_rfl
@[go_sem] theorem teq_225 : teq Try.prog 225 = some [1, 0, 1, 0] := by kernel_rfl
@[go_sem] theorem tz_225 : tz Try.prog 225 = some [.bool false, .int .i64 0, .bool false, .int .i64 0] := by kernel_rfl
@[go_sem] theorem tflat_225 : tflat Try.prog 225 = true := by kernel_rfl
@[go_sem] theorem tbool_225 : tbool Try.prog 225 = false := by kernel_rfl
@[go_sem] theorem tc_237 : Try.prog.cellsOf 237 = 1 := by kernel_rfl
@[go_sem] theorem tl_237 : tl Try.prog 237 = some (true, 1) := by kernel_rfl
@[go_sem] theorem te_237 : te Try.prog 237 = none := by kernel_rfl
@[go_sem] theorem tp_237 : tp Try.prog 237 = some [(0, 1)] := by kernel_rfl
@[go_sem] theorem tf_237_0 : tf Try.prog 237 0 = some (0, false, 1) := by kernel_rfl
@[go_sem] theorem tz_237 : tz Try.prog 237 = some [.sl 1 []] := by kernel_rfl
@[go_sem] theorem tflat_237 : tflat Try.prog 237 = false := by kernel_rfl
@[go_sem] theorem tbool_237 : tbool Try.prog 237 = false := by kernel_rfl
@[go_sem] theorem tc_238 : Try.prog.cellsOf 238 = 1 := by kernel_rfl
@[go_sem] theorem tl_238 : tl Try.prog 238 = some (true, 1) := by kernel_rfl
@[go_sem] theorem te_238 : te Try.prog 238 = none := by kernel_rfl
@[go_sem] theorem tp_238 : tp Try.prog 238 = some [(0, 1)] := by kernel_rfl
@[go_sem] theorem tf_238_0 : tf Try.prog 238 0 = some (0, false, 1) := by kernel_rfl
@[go_sem] theorem tz_238 : tz Try.prog 238 = some [.sl 1 []] := by kernel_rfl
@[go_sem] theorem tflat_238 : tflat Try.prog 238 = false := by kernel_rfl
@[go_sem] theorem tbool_238 : tbool Try.prog 238 = false := by kernel_rfl
@[go_sem] theorem tc_239 : Try.prog.cellsOf 239 = 1 := by kernel_rfl
@[go_sem] theorem tl_239 : tl Try.prog 239 = some (true, 1) := by kernel_rfl
@[go_sem] theorem te_239 : te Try.prog 239 = none := by kernel_rfl
@[go_sem] theorem tp_239 : tp Try.prog 239 = some [(0, 1)] := by kernel_rfl
@[go_sem] theorem tf_239_0 : tf Try.prog 239 0 = some (0, false, 1) := by kernel_rfl
@[go_sem] theorem tz_239 : tz Try.prog 239 = some [.sl 1 []] := by kernel_rfl
@[go_sem] theorem tflat_239 : tflat Try.prog 239 = false := by kernel_rfl
@[go_sem] theorem tbool_239 : tbool Try.prog 239 = false := by kernel_rfl
@[go_sem] theorem tc_242 : Try.prog.cellsOf 242 = 2 := by kernel_rfl
@[go_sem] theorem tl_242 : tl Try.prog 242 = some (true, 2) := by kernel_rfl
@[go_sem] theorem te_242 : te Try.prog 242 = none := by kernel_rfl
@[go_sem] theorem tp_242 : tp Try.prog 242 = some [(0, 1), (1, 1)] := by kernel_rfl
@[go_sem] theorem tf_242_0 : tf Try.prog 242 0 = some (0, false, 1) := by kernel_rfl
@[go_sem] theorem tf_242_1 : tf Try.prog 242 1 = some (1, false, 1) := by kernel_rfl
@[go_sem] theorem teq_242 : teq Try.prog 242 = some [0, 0] := by kernel_rfl
@[go_sem] theorem tz_242 : tz Try.prog 242 = some [.int .i64 0, .int .i64 0] := by kernel_rfl
@[go_sem] theorem tflat_242 : tflat Try.prog 242 = true := by kernel_rfl
@[go_sem] theorem tbool_242 : tbool Try.prog 242 = false := by kernel_rfl
@[go_sem] theorem tc_248 : Try.prog.cellsOf 248 = 4 := by kernel_rfl
@[go_sem] theorem tl_248 : tl Try.prog 248 = some (true, 4) := by kernel_rfl
@[go_sem] theorem te_248 : te Try.prog 248 = none := by kernel_rfl
@[go_sem] theorem tp_248 : tp Try.prog 248 = some [(0, 1), (1, 1), (2, 1), (3, 1)] := by kernel_rfl
@[go_sem] theorem tf_248_0 : tf Try.prog 248 0 = some (0, false, 1) := by kernel_rfl
@[go_sem] theorem tf_248_1 : tf Try.prog 248 1 = some (1, false, 1) := by kernel_rfl
@[go_sem] theorem tf_248_2 : tf Try.prog 248 2 = some (2, false, 1) := by kernel_rfl
@[go_sem] theorem tf_248_3 : tf Try.prog 248 3 = some (3, false, 1) := by kernel_rfl
@[go_sem] theorem tbool_248 : tbool Try.prog 248 = false := by kernel_rfl
@[go_sem] theorem tc_249 : Try.prog.cellsOf 249 = 4 := by kernel_rfl
@[go_sem] theorem tl_249 : tl Try.prog 249 = some (true, 4) := by kernel_rfl
@[go_sem] theorem te_249 : te Try.prog 249 = none := by kernel_rfl
@[go_sem] theorem tp_249 : tp Try.prog 249 = some [(0, 1), (1, 1), (2, 1), (3, 1)] := by kernel_rfl
@[go_sem] theorem tf_249_0 : tf Try.prog 249 0 = some (0, false, 1) := by kernel_rfl
@[go_sem] theorem tf_249_1 : tf Try.prog 249 1 = some (1, false, 1) := by kernel_rfl
@[go_sem] theorem tf_249_2 : tf Try.prog 249 2 = some (2, false, 1) := by kernel_rfl
@[go_sem] theorem tf_249_3 : tf Try.prog 249 3 = some (3, false, 1) := by kernel_rfl
@[go_sem] theorem tbool_249 : tbool Try.prog 249 = false := by kernel_rfl
@[go_sem] theorem tc_250 : Try.prog.cellsOf 250 = 0 := by kernel_rfl
@[go_sem] theorem tl_250 : tl Try.prog 250 = some (true, 0) := by kernel_rfl
@[go_sem] theorem te_250 : te Try.prog 250 = none := by kernel_rfl
@[go_sem] theorem ta_250 : ta Try.prog 250 = some (0, 16, 1) := by kernel_rfl
@[go_sem] theorem tp_250 : tp Try.prog 250 = some [] := by kernel_rfl
@[go_sem] theorem tbool_250 : tbool Try.prog 250 = false := by kernel_rfl
@[go_sem] theorem tc_251 : Try.prog.cellsOf 251 = 0 := by kernel_rfl
@[go_sem] theorem tl_251 : tl Try.prog 251 = some (true, 0) := by kernel_rfl
@[go_sem] theorem te_251 : te Try.prog 251 = none := by kernel_rfl
@[go_sem] theorem tp_251 : tp Try.prog 251 = some [(0, 0)] := by kernel_rfl
@[go_sem] theorem tbool_251 : tbool Try.prog 251 = false := by kernel_rfl
@[go_sem] theorem tc_252 : Try.prog.cellsOf 252 = 0 := by kernel_rfl
@[go_sem] theorem tl_252 : tl Try.prog 252 = some (true, 0) := by kernel_rfl
@[go_sem] theorem te_252 : te Try.prog 252 = none := by kernel_rfl
@[go_sem] theorem tp_252 : tp Try.prog 252 = some [(0, 0)] := by kernel_rfl
@[go_sem] theorem tbool_252 : tbool Try.prog 252 = false := by kernel_rfl
@[go_sem] theorem tc_254 : Try.prog.cellsOf 254 = 1 := by kernel_rfl
@[go_sem] theorem tl_254 : tl Try.prog 254 = some (false, 1) := by kernel_rfl
@[go_sem] theorem te_254 : te Try.prog 254 = none := by kernel_rfl
@[go_sem] theorem tz_254 : tz Try.prog 254 = some [.int .u32 0] := by kernel_rfl
@[go_sem] theorem tflat_254 : tflat Try.prog 254 = true := by kernel_rfl
@[go_sem] theorem tbool_254 : tbool Try.prog 254 = false := by kernel_rfl
@[go_sem] theorem tkind_254 : tkind Try.prog 254 = some .u32 := by kernel_rfl
@[go_sem] theorem tc_255 : Try.prog.cellsOf 255 = 1 := by kernel_rfl
@[go_sem] theorem tl_255 : tl Try.prog 255 = some (false, 1) := by kernel_rfl
@[go_sem] theorem te_255 : te Try.prog 255 = none := by kernel_rfl
@[go_sem] theorem tz_255 : tz Try.prog 255 = some [.int .u8 0] := by kernel_rfl
@[go_sem] theorem tflat_255 : tflat Try.prog 255 = true := by kernel_rfl
@[go_sem] theorem tbool_255 : tbool Try.prog 255 = false := by kernel_rfl
@[go_sem] theorem tkind_255 : tkind Try.prog 255 = some .u8 := by kernel_rfl
@[go_sem] theorem tc_256 : Try.prog.cellsOf 256 = 1 := by kernel_rfl
@[go_sem] theorem tl_256 : tl Try.prog 256 = some (false, 1) := by kernel_rfl
@[go_sem] theorem te_256 : te Try.prog 256 = none := by kernel_rfl
@[go_sem] theorem tz_256 : tz Try.prog 256 = some [.int .u8 0] := by kernel_rfl
@[go_sem] theorem tflat_256 : tflat Try.prog 256 = true := by kernel_rfl
@[go_sem] theorem tbool_256 : tbool Try.prog 256 = false := by kernel_rfl
@[go_sem] theorem tkind_256 : tkind Try.prog 256 = some .u8 := by kernel_rfl
@[go_sem] theorem tc_258 : Try.prog.cellsOf 258 = 1 := by kernel_rfl
@[go_sem] theorem tl_258 : tl Try.prog 258 = some (false, 1) := by kernel_rfl
@[go_sem] theorem te_258 : te Try.prog 258 = none := by kernel_rfl
@[go_sem] theorem tbool_258 : tbool Try.prog 258 = false := by kernel_rfl
@[go_sem] theorem tc_259 : Try.prog.cellsOf 259 = 1 := by kernel_rfl
@[go_sem] theorem tl_259 : tl Try.prog 259 = some (false, 1) := by kernel_rfl
@[go_sem] theorem te_259 : te Try.prog 259 = none := by kernel_rfl
@[go_sem] theorem tz_259 : tz Try.prog 259 = some [.int .i32 0] := by kernel_rfl
@[go_sem] theorem tflat_259 : tflat Try.prog 259 = true := by kernel_rfl
@[go_sem] theorem tbool_259 : tbool Try.prog 259 = false := by kernel_rfl
@[go_sem] theorem tkind_259 : tkind Try.prog 259 = some .i32 := by kernel_rfl
@[go_sem] theorem tc_260 : Try.prog.cellsOf 260 = 1 := by kernel_rfl
@[go_sem] theorem tl_260 : tl Try.prog 260 = some (false, 1) := by kernel_rfl
@[go_sem] theorem te_260 : te Try.prog 260 = none := by kernel_rfl
@[go_sem] theorem tz_260 : tz Try.prog 260 = some [.int .i32 0] := by kernel_rfl
@[go_sem] theorem tflat_260 : tflat Try.prog 260 = true := by kernel_rfl
@[go_sem] theorem tbool_260 : tbool Try.prog 260 = false := by kernel_rfl
@[go_sem] theorem tkind_260 : tkind Try.prog 260 = some .i32 := by kernel_rfl
@[go_sem] theorem tc_261 : Try.prog.cellsOf 261 = 11 := by kernel_rfl
@[go_sem] theorem tl_261 : tl Try.prog 261 = some (true, 11) := by kernel_rfl
@[go_sem] theorem te_261 : te Try.prog 261 = none := by kernel_rfl
@[go_sem] theorem tf_261_0 : tf Try.prog 261 0 = some (0, false, 1) := by kernel_rfl
@[go_sem] theorem tf_261_1 : tf Try.prog 261 1 = some (1, false, 1) := by kernel_rfl
@[go_sem] theorem tf_261_2 : tf Try.prog 261 2 = some (2, false, 1) := by kernel_rfl
@[go_sem] theorem tf_261_3 : tf Try.prog 261 3 = some (3, false, 1) := by kernel_rfl
@[go_sem] theorem tf_261_4 : tf Try.prog 261 4 = some (4, false, 1) := by kernel_rfl
@[go_sem] theorem tf_261_5 : tf Try.prog 261 5 = some (5, false, 1) := by kernel_rfl
@[go_sem] theorem tf_261_6 : tf Try.prog 261 6 = some (6, false, 1) := by kernel_rfl
@[go_sem] theorem tf_261_8 : tf Try.prog 261 8 = some (8, false, 1) := by kernel_rfl
@[go_sem] theorem tf_261_9 : tf Try.prog 261 9 = some (9, false, 1) := by kernel_rfl
@[go_sem] theorem tf_261_10 : tf Try.prog 261 10 = some (10, false, 1) := by kernel_rfl
@[go_sem] theorem tbool_261 : tbool Try.prog 261 = false := by kernel_rfl
@[go_sem] theorem tc_262 : Try.prog.cellsOf 262 = 11 := by kernel_rfl
@[go_sem] theorem tl_262 : tl Try.prog 262 = some (true, 11) := by kernel_rfl
@[go_sem] theorem te_262 : te Try.prog 262 = none := by kernel_rfl
@[go_sem] theorem tf_262_0 : tf Try.prog 262 0 = some (0, false, 1) := by kernel_rfl
@[go_sem] theorem tf_262_1 : tf Try.prog 262 1 = some (1, false, 1) := by kernel_rfl
@[go_sem] theorem tf_262_2 : tf Try.prog 262 2 = some (2, false, 1) := by kernel_rfl
@[go_sem] theorem tf_262_3 : tf Try.prog 262 3 = some (3, false, 1) := by kernel_rfl
@[go_sem] theorem tf_262_4 : tf Try.prog 262 4 = some (4, false, 1) := by kernel_rfl
@[go_sem] theorem tf_262_5 : tf Try.prog 262 5 = some (5, false, 1) := by kernel_rfl
@[go_sem] theorem tf_262_6 : tf Try.prog 262 6 = some (6, false, 1) := by kernel_rfl
@[go_sem] theorem tf_262_8 : tf Try.prog 262 8 = some (8, false, 1) := by kernel_rfl
@[go_sem] theorem tf_262_9 : tf Try.prog 262 9 = some (9, false, 1) := by kernel_rfl
@[go_sem] theorem tf_262_10 : tf Try.prog 262 10 = some (10, false, 1) := by kernel_rfl
@[go_sem] theorem tbool_262 : tbool Try.prog 262 = false := by kernel_rfl
theorem e2 : enters Try.prog 2 = true := by kernel_rfl
theorem e3 : enters Try.prog 3 = true := by kernel_rfl
theorem e4 : enters Try.prog 4 = true := by kernel_rfl
theorem e5 : enters Try.prog 5 = true := by kernel_rfl
theorem e6 : enters Try.prog 6 = true := by kernel_rfl
theorem e7 : enters Try.prog 7 = true := by kernel_rfl
theorem e8 : enters Try.prog 8 = true := by kernel_rfl
theorem e9 : enters Try.prog 9 = true := by kernel_rfl
theorem e10 : enters Try.prog 10 = true := by kernel_rfl
theorem e11 : enters Try.prog 11 = true := by kernel_rfl
theorem e12 : enters Try.prog 12 = true := by kernel_rfl
theorem e13 : enters Try.prog 13 = true := by kernel_rfl
theorem e14 : enters Try.prog 14 = true := by kernel_rfl
theorem e15 : enters Try.prog 15 = true := by kernel_rfl
theorem e16 : enters Try.prog 16 = true := by kernel_rfl
theorem e17 : enters Try.prog 17 = true := by kernel_rfl
theorem e18 : enters Try.prog 18 = true := by kernel_rfl
theorem e19 : enters Try.prog 19 = true := by kernel_rfl
theorem e20 : enters Try.prog 20 = true := by kernel_rfl
theorem e21 : enters Try.prog 21 = true := by kernel_rfl
theorem e22 : enters Try.prog 22 = true := by kernel_rfl
theorem e23 : enters Try.prog 23 = true := by kernel_rfl
theorem e24 : enters Try.prog 24 = true := by kernel_rfl
theorem e25 : enters Try.prog 25 = true := by kernel_rfl
theorem e26 : enters Try.prog 26 = true := by kernel_rfl
theorem e27 : enters Try.prog 27 = true := by kernel_rfl
theorem e28 : enters Try.prog 28 = true := by kernel_rfl
theorem e29 : enters Try.prog 29 = true := by kernel_rfl
theorem e30 : enters Try.prog 30 = true := by kernel_rfl
theorem e31 : enters Try.prog 31 = true := by kernel_rfl
theorem e32 : enters Try.prog 32 = true := by kernel_rfl
theorem e33 : enters Try.prog 33 = true := by kernel_rfl
theorem e34 : enters Try.prog 34 = true := by kernel_rfl
theorem e35 : enters Try.prog 35 = true := by kernel_rfl
theorem e36 : enters Try.prog 36 = true := by kernel_rfl
theorem e37 : enters Try.prog 37 = true := by kernel_rfl
theorem e38 : enters Try.prog 38 = true := by kernel_rfl
theorem e39 : enters Try.prog 39 = true := by kernel_rfl
theorem e40 : enters Try.prog 40 = true := by kernel_rfl
theorem e41 : enters Try.prog 41 = true := by kernel_rfl
theorem e42 : enters Try.prog 42 = true := by kernel_rfl
theorem e43 : enters Try.prog 43 = true := by kernel_rfl
theorem e44 : enters Try.prog 44 = true := by kernel_rfl
theorem e45 : enters Try.prog 45 = true := by kernel_rfl
theorem e46 : enters Try.prog 46 = true := by kernel_rfl
theorem e47 : enters Try.prog 47 = true := by kernel_rfl
theorem e48 : enters Try.prog 48 = true := by kernel_rfl
theorem e49 : enters Try.prog 49 = true := by kernel_rfl
theorem e50 : enters Try.prog 50 = true := by kernel_rfl
theorem e51 : enters Try.prog 51 = true := by kernel_rfl
theorem e52 : enters Try.prog 52 = true := by kernel_rfl
theorem e53 : enters Try.prog 53 = true := by kernel_rfl
theorem e54 : enters Try.prog 54 = true := by kernel_rfl
theorem e55 : enters Try.prog 55 = true := by kernel_rfl
theorem e56 : enters Try.prog 56 = true := by kernel_rfl
theorem e57 : enters Try.prog 57 = true := by kernel_rfl
theorem e58 : enters Try.prog 58 = true := by kernel_rfl
theorem e59 : enters Try.prog 59 = true := by kernel_rfl
theorem e60 : enters Try.prog 60 = true := by kernel_rfl
theorem e61 : enters Try.prog 61 = true := by kernel_rfl
theorem e62 : enters Try.prog 62 = true := by kernel_rfl
theorem e63 : enters Try.prog 63 = true := by kernel_rfl
theorem e64 : enters Try.prog 64 = true := by kernel_rfl
theorem e65 : enters Try.prog 65 = true := by kernel_rfl
theorem e66 : enters Try.prog 66 = true := by kernel_rfl
theorem e67 : enters Try.prog 67 = true := by kernel_rfl
theorem e68 : enters Try.prog 68 = true := by kernel_rfl
theorem e69 : enters Try.prog 69 = true := by kernel_rfl
theorem e70 : enters Try.prog 70 = true := by kernel_rfl
theorem e71 : enters Try.prog 71 = true := by kernel_rfl
theorem e72 : enters Try.prog 72 = true := by kernel_rfl
theorem e73 : enters Try.prog 73 = true := by kernel_rfl
theorem e74 : enters Try.prog 74 = true := by kernel_rfl
theorem e75 : enters Try.prog 75 = true := by kernel_rfl
theorem e76 : enters Try.prog 76 = true := by kernel_rfl
theorem e77 : enters Try.prog 77 = true := by kernel_rfl
theorem e78 : enters Try.prog 78 = true := by kernel_rfl
theorem e79 : enters Try.prog 79 = true := by kernel_rfl
theorem e80 : enters Try.prog 80 = true := by kernel_rfl
theorem e81 : enters Try.prog 81 = true := by kernel_rfl
theorem e82 : enters Try.prog 82 = true := by kernel_rfl
theorem e83 : enters Try.prog 83 = true := by kernel_rfl
theorem e84 : enters Try.prog 84 = true := by kernel_rfl
theorem e85 : enters Try.prog 85 = true := by kernel_rfl
theorem e86 : enters Try.prog 86 = true := by kernel_rfl
theorem e87 : enters Try.prog 87 = true := by kernel_rfl
theorem e88 : enters Try.prog 88 = true := by kernel_rfl
theorem e89 : enters Try.prog 89 = true := by kernel_rfl
theorem e90 : enters Try.prog 90 = true := by kernel_rfl
theorem e91 : enters Try.prog 91 = true := by kernel_rfl
theorem e92 : enters Try.prog 92 = true := by kernel_rfl
theorem e93 : enters Try.prog 93 = true := by kernel_rfl
theorem e94 : enters Try.prog 94 = true := by kernel_rfl
theorem e95 : enters Try.prog 95 = true := by kernel_rfl
theorem e96 : enters Try.prog 96 = true := by kernel_rfl
theorem e97 : enters Try.prog 97 = true := by kernel_rfl
theorem e98 : enters Try.prog 98 = true := by kernel_rfl
theorem e99 : enters Try.prog 99 = true := by kernel_rfl
theorem e100 : enters Try.prog 100 = true := by kernel_rfl
theorem e101 : enters Try.prog 101 = true := by kernel_rfl
theorem e102 : enters Try.prog 102 = true := by kernel_rfl
theorem e103 : enters Try.prog 103 = true := by kernel_rfl
theorem e104 : enters Try.prog 104 = true := by kernel_rfl
theorem e105 : enters Try.prog 105 = true := by kernel_rfl
theorem e106 : enters Try.prog 106 = true := by kernel_rfl
theorem e107 : enters Try.prog 107 = true := by kernel_rfl
theorem e108 : enters Try.prog 108 = true := by kernel_rfl
theorem e109 : enters Try.prog 109 = true := by kernel_rfl
theorem e110 : enters Try.prog 110 = true := by kernel_rfl
theorem e111 : enters Try.prog 111 = true := by kernel_rfl
theorem e112 : enters Try.prog 112 = true := by kernel_rfl
theorem e113 : enters Try.prog 113 = true := by kernel_rfl
theorem e114 : enters Try.prog 114 = true := by kernel_rfl
theorem e115 : enters Try.prog 115 = true := by kernel_rfl
theorem e116 : enters Try.prog 116 = true := by kernel_rfl
theorem e117 : enters Try.prog 117 = true := by kernel_rfl
theorem e118 : enters Try.prog 118 = true := by kernel_rfl
theorem e119 : enters Try.prog 119 = true := by kernel_rfl
theorem e120 : enters Try.prog 120 = true := by kernel_rfl
theorem e121 : enters Try.prog 121 = true := by kernel_rfl
theorem e122 : enters Try.prog 122 = true := by kernel_rfl
theorem e123 : enters Try.prog 123 = true := by kernel_rfl
theorem e124 : enters Try.prog 124 = true := by kernel_rfl
theorem e125 : enters Try.prog 125 = true := by kernel_rfl
theorem e126 : enters Try.prog 126 = true := by kernel_rfl
theorem e127 : enters Try.prog 127 = true := by kernel_rfl
theorem e128 : enters Try.prog 128 = true := by kernel_rfl
theorem e129 : enters Try.prog 129 = true := by kernel_rfl
theorem e130 : enters Try.prog 130 = true := by kernel_rfl
theorem e131 : enters Try.prog 131 = true := by kernel_rfl
theorem e132 : enters Try.prog 132 = true := by kernel_rfl
theorem e133 : enters Try.prog 133 = true := by kernel_rfl
theorem e134 : enters Try.prog 134 = true := by kernel_rfl
theorem e135 : enters Try.prog 135 = true := by kernel_rfl
theorem e136 : enters Try.prog 136 = true := by kernel_rfl
theorem e137 : enters Try.prog 137 = true := by kernel_rfl
theorem e138 : enters Try.prog 138 = true := by kernel_rfl
theorem e139 : enters Try.prog 139 = true := by kernel_rfl
theorem e140 : enters Try.prog 140 = true := by kernel_rfl
theorem e141 : enters Try.prog 141 = true := by kernel_rfl
theorem e142 : enters Try.prog 142 = true := by kernel_rfl
theorem e143 : enters Try.prog 143 = true := by kernel_rfl
theorem e144 : enters Try.prog 144 = true := by kernel_rfl
theorem e145 : enters Try.prog 145 = true := by kernel_rfl
theorem e146 : enters Try.prog 146 = true := by kernel_rfl
theorem e147 : enters Try.prog 147 = true := by kernel_rfl
theorem e148 : enters Try.prog 148 = true := by kernel_rfl
theorem e149 : enters Try.prog 149 = true := by kernel_rfl
theorem e150 : enters Try.prog 150 = true := by kernel_rfl
theorem e151 : enters Try.prog 151 = true := by kernel_rfl
theorem e152 : enters Try.prog 152 = true := by kernel_rfl
theorem e153 : enters Try.prog 153 = true := by kernel_rfl
theorem e154 : enters Try.prog 154 = true := by kernel_rfl
theorem e156 : enters Try.prog 156 = true := by kernel_rfl
theorem e157 : enters Try.prog 157 = true := by kernel_rfl
theorem e158 : enters Try.prog 158 = true := by kernel_rfl
theorem o155 : isOverlaps Try.prog 155 := ⟨Try.f155, 24, 4, _, Try.func155, by kernel_rfl, by kernel_rfl, by kernel_rfl, by kernel_rfl, te_24⟩
theorem mixed : Try.prog.follows .mixedOrders = true := by kernel_rfl
end Go.Proofs.Ytjfpaiencojehaa.Ty

