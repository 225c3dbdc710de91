/- Facts on the types of the translation, each closed. Written by wip/tools/gen.py. -/
import Derived.Test.YtomcobpfejdnoaaChecked
import Derived.Test.YtomcobpfejdnoaaAbsCode
import Derived.KernelRfl
namespace Go.Proofs.Ytomcobpfejdnoaa.Ty
open Go.Abs Go.Proofs
@[go_sem] theorem tc_2 : Try.prog.cellsOf 2 = 1 := by kernel_rfl
@[go_sem] theorem tl_2 : tl Try.prog 2 = some (false, 1) := by kernel_rfl
@[go_sem] theorem te_2 : te Try.prog 2 = none := by kernel_rfl
@[go_sem] theorem tz_2 : tz Try.prog 2 = some [.int .i64 0] := by kernel_rfl
@[go_sem] theorem tflat_2 : tflat Try.prog 2 = true := by kernel_rfl
@[go_sem] theorem tbool_2 : tbool Try.prog 2 = false := by kernel_rfl
@[go_sem] theorem tkind_2 : tkind Try.prog 2 = some .i64 := by kernel_rfl
@[go_sem] theorem tc_3 : Try.prog.cellsOf 3 = 1 := by kernel_rfl
@[go_sem] theorem tl_3 : tl Try.prog 3 = some (false, 1) := by kernel_rfl
@[go_sem] theorem te_3 : te Try.prog 3 = none := by kernel_rfl
@[go_sem] theorem tz_3 : tz Try.prog 3 = some [.int .i64 0] := by kernel_rfl
@[go_sem] theorem tflat_3 : tflat Try.prog 3 = true := by kernel_rfl
@[go_sem] theorem tbool_3 : tbool Try.prog 3 = false := by kernel_rfl
@[go_sem] theorem tkind_3 : tkind Try.prog 3 = some .i64 := by kernel_rfl
@[go_sem] theorem tc_4 : Try.prog.cellsOf 4 = 1 := by kernel_rfl
@[go_sem] theorem tl_4 : tl Try.prog 4 = some (false, 1) := by kernel_rfl
@[go_sem] theorem te_4 : te Try.prog 4 = none := by kernel_rfl
@[go_sem] theorem tz_4 : tz Try.prog 4 = some [.bool false] := by kernel_rfl
@[go_sem] theorem tflat_4 : tflat Try.prog 4 = true := by kernel_rfl
@[go_sem] theorem tbool_4 : tbool Try.prog 4 = true := by kernel_rfl
@[go_sem] theorem tc_5 : Try.prog.cellsOf 5 = 1 := by kernel_rfl
@[go_sem] theorem tl_5 : tl Try.prog 5 = some (false, 1) := by kernel_rfl
@[go_sem] theorem te_5 : te Try.prog 5 = none := by kernel_rfl
@[go_sem] theorem tz_5 : tz Try.prog 5 = some [.int .u8 0] := by kernel_rfl
@[go_sem] theorem tflat_5 : tflat Try.prog 5 = true := by kernel_rfl
@[go_sem] theorem tbool_5 : tbool Try.prog 5 = false := by kernel_rfl
@[go_sem] theorem tkind_5 : tkind Try.prog 5 = some .u8 := by kernel_rfl
@[go_sem] theorem tc_6 : Try.prog.cellsOf 6 = 1 := by kernel_rfl
@[go_sem] theorem tl_6 : tl Try.prog 6 = some (false, 1) := by kernel_rfl
@[go_sem] theorem te_6 : te Try.prog 6 = none := by kernel_rfl
@[go_sem] theorem tz_6 : tz Try.prog 6 = some [.int .u8 0] := by kernel_rfl
@[go_sem] theorem tflat_6 : tflat Try.prog 6 = true := by kernel_rfl
@[go_sem] theorem tbool_6 : tbool Try.prog 6 = false := by kernel_rfl
@[go_sem] theorem tkind_6 : tkind Try.prog 6 = some .u8 := by kernel_rfl
@[go_sem] theorem tc_7 : Try.prog.cellsOf 7 = 4 := by kernel_rfl
@[go_sem] theorem tl_7 : tl Try.prog 7 = some (true, 4) := by kernel_rfl
@[go_sem] theorem te_7 : te Try.prog 7 = none := by kernel_rfl
@[go_sem] theorem tp_7 : tp Try.prog 7 = some [(0, 1), (1, 1), (2, 1), (3, 1)] := by kernel_rfl
@[go_sem] theorem tf_7_0 : tf Try.prog 7 0 = some (0, false, 1) := by kernel_rfl
@[go_sem] theorem tf_7_1 : tf Try.prog 7 1 = some (1, false, 1) := by kernel_rfl
@[go_sem] theorem tf_7_2 : tf Try.prog 7 2 = some (2, false, 1) := by kernel_rfl
@[go_sem] theorem tf_7_3 : tf Try.prog 7 3 = some (3, false, 1) := by kernel_rfl
@[go_sem] theorem tz_7 : tz Try.prog 7 = some [.int .i64 0, .int .i64 0, .bool false, .int .u8 0] := by kernel_rfl
@[go_sem] theorem tflat_7 : tflat Try.prog 7 = true := by kernel_rfl
@[go_sem] theorem tbool_7 : tbool Try.prog 7 = false := by kernel_rfl
@[go_sem] theorem tc_8 : Try.prog.cellsOf 8 = 4 := by kernel_rfl
@[go_sem] theorem tl_8 : tl Try.prog 8 = some (true, 4) := by kernel_rfl
@[go_sem] theorem te_8 : te Try.prog 8 = none := by kernel_rfl
@[go_sem] theorem tp_8 : tp Try.prog 8 = some [(0, 1), (1, 1), (2, 1), (3, 1)] := by kernel_rfl
@[go_sem] theorem tf_8_0 : tf Try.prog 8 0 = some (0, false, 1) := by kernel_rfl
@[go_sem] theorem tf_8_1 : tf Try.prog 8 1 = some (1, false, 1) := by kernel_rfl
@[go_sem] theorem tf_8_2 : tf Try.prog 8 2 = some (2, false, 1) := by kernel_rfl
@[go_sem] theorem tf_8_3 : tf Try.prog 8 3 = some (3, false, 1) := by kernel_rfl
@[go_sem] theorem tz_8 : tz Try.prog 8 = some [.int .i64 0, .int .i64 0, .bool false, .int .u8 0] := by kernel_rfl
@[go_sem] theorem tflat_8 : tflat Try.prog 8 = true := by kernel_rfl
@[go_sem] theorem tbool_8 : tbool Try.prog 8 = false := by kernel_rfl
@[go_sem] theorem tc_9 : Try.prog.cellsOf 9 = 1 := by kernel_rfl
@[go_sem] theorem tl_9 : tl Try.prog 9 = some (false, 1) := by kernel_rfl
@[go_sem] theorem te_9 : te Try.prog 9 = none := by kernel_rfl
@[go_sem] theorem tz_9 : tz Try.prog 9 = some [.str .empty] := by kernel_rfl
@[go_sem] theorem tflat_9 : tflat Try.prog 9 = true := by kernel_rfl
@[go_sem] theorem tbool_9 : tbool Try.prog 9 = false := by kernel_rfl
@[go_sem] theorem tstr_9 : tstr Try.prog 9 = true := by kernel_rfl
@[go_sem] theorem tc_10 : Try.prog.cellsOf 10 = 1 := by kernel_rfl
@[go_sem] theorem tl_10 : tl Try.prog 10 = some (false, 1) := by kernel_rfl
@[go_sem] theorem te_10 : te Try.prog 10 = none := by kernel_rfl
@[go_sem] theorem tz_10 : tz Try.prog 10 = some [.str .empty] := by kernel_rfl
@[go_sem] theorem tflat_10 : tflat Try.prog 10 = true := by kernel_rfl
@[go_sem] theorem tbool_10 : tbool Try.prog 10 = false := by kernel_rfl
@[go_sem] theorem tstr_10 : tstr Try.prog 10 = true := by kernel_rfl
@[go_sem] theorem tc_11 : Try.prog.cellsOf 11 = 1 := by kernel_rfl
@[go_sem] theorem tl_11 : tl Try.prog 11 = some (false, 1) := by kernel_rfl
@[go_sem] theorem te_11 : te Try.prog 11 = none := by kernel_rfl
@[go_sem] theorem tz_11 : tz Try.prog 11 = some [.str .empty] := by kernel_rfl
@[go_sem] theorem tflat_11 : tflat Try.prog 11 = true := by kernel_rfl
@[go_sem] theorem tbool_11 : tbool Try.prog 11 = false := by kernel_rfl
@[go_sem] theorem tstr_11 : tstr Try.prog 11 = true := by kernel_rfl
@[go_sem] theorem tc_12 : Try.prog.cellsOf 12 = 1 := by kernel_rfl
@[go_sem] theorem tl_12 : tl Try.prog 12 = some (false, 1) := by kernel_rfl
@[go_sem] theorem te_12 : te Try.prog 12 = none := by kernel_rfl
@[go_sem] theorem tz_12 : tz Try.prog 12 = some [.int .u64 0] := by kernel_rfl
@[go_sem] theorem tflat_12 : tflat Try.prog 12 = true := by kernel_rfl
@[go_sem] theorem tbool_12 : tbool Try.prog 12 = false := by kernel_rfl
@[go_sem] theorem tkind_12 : tkind Try.prog 12 = some .u64 := by kernel_rfl
@[go_sem] theorem tc_13 : Try.prog.cellsOf 13 = 2 := by kernel_rfl
@[go_sem] theorem tl_13 : tl Try.prog 13 = some (true, 2) := by kernel_rfl
@[go_sem] theorem te_13 : te Try.prog 13 = none := by kernel_rfl
@[go_sem] theorem tp_13 : tp Try.prog 13 = some [(0, 1), (1, 1)] := by kernel_rfl
@[go_sem] theorem tf_13_0 : tf Try.prog 13 0 = some (0, false, 1) := by kernel_rfl
@[go_sem] theorem tf_13_1 : tf Try.prog 13 1 = some (1, false, 1) := by kernel_rfl
@[go_sem] theorem tz_13 : tz Try.prog 13 = some [.str .empty, .int .u64 0] := by kernel_rfl
@[go_sem] theorem tflat_13 : tflat Try.prog 13 = true := by kernel_rfl
@[go_sem] theorem tbool_13 : tbool Try.prog 13 = false := by kernel_rfl
@[go_sem] theorem tc_14 : Try.prog.cellsOf 14 = 2 := by kernel_rfl
@[go_sem] theorem tl_14 : tl Try.prog 14 = some (true, 2) := by kernel_rfl
@[go_sem] theorem te_14 : te Try.prog 14 = none := by kernel_rfl
@[go_sem] theorem tp_14 : tp Try.prog 14 = some [(0, 1), (1, 1)] := by kernel_rfl
@[go_sem] theorem tf_14_0 : tf Try.prog 14 0 = some (0, false, 1) := by kernel_rfl
@[go_sem] theorem tf_14_1 : tf Try.prog 14 1 = some (1, false, 1) := by kernel_rfl
@[go_sem] theorem tz_14 : tz Try.prog 14 = some [.str .empty, .int .u64 0] := by kernel_rfl
@[go_sem] theorem tflat_14 : tflat Try.prog 14 = true := by kernel_rfl
@[go_sem] theorem tbool_14 : tbool Try.prog 14 = false := by kernel_rfl
@[go_sem] theorem tc_15 : Try.prog.cellsOf 15 = 1 := by kernel_rfl
@[go_sem] theorem tl_15 : tl Try.prog 15 = some (false, 1) := by kernel_rfl
@[go_sem] theorem te_15 : te Try.prog 15 = none := by kernel_rfl
@[go_sem] theorem tbool_15 : tbool Try.prog 15 = false := by kernel_rfl
@[go_sem] theorem tc_16 : Try.prog.cellsOf 16 = 1 := by kernel_rfl
@[go_sem] theorem tl_16 : tl Try.prog 16 = some (false, 1) := by kernel_rfl
@[go_sem] theorem te_16 : te Try.prog 16 = none := by kernel_rfl
@[go_sem] theorem tbool_16 : tbool Try.prog 16 = false := by kernel_rfl
@[go_sem] theorem tc_17 : Try.prog.cellsOf 17 = 1 := by kernel_rfl
@[go_sem] theorem tl_17 : tl Try.prog 17 = some (false, 1) := by kernel_rfl
@[go_sem] theorem te_17 : te Try.prog 17 = none := by kernel_rfl
@[go_sem] theorem tbool_17 : tbool Try.prog 17 = false := by kernel_rfl
@[go_sem] theorem tc_18 : Try.prog.cellsOf 18 = 1 := by kernel_rfl
@[go_sem] theorem tl_18 : tl Try.prog 18 = some (true, 1) := by kernel_rfl
@[go_sem] theorem te_18 : te Try.prog 18 = none := by kernel_rfl
@[go_sem] theorem tp_18 : tp Try.prog 18 = some [(0, 1)] := by kernel_rfl
@[go_sem] theorem tf_18_0 : tf Try.prog 18 0 = some (0, false, 1) := by kernel_rfl
@[go_sem] theorem tbool_18 : tbool Try.prog 18 = false := by kernel_rfl
@[go_sem] theorem tc_19 : Try.prog.cellsOf 19 = 1 := by kernel_rfl
@[go_sem] theorem tl_19 : tl Try.prog 19 = some (true, 1) := by kernel_rfl
@[go_sem] theorem te_19 : te Try.prog 19 = none := by kernel_rfl
@[go_sem] theorem tp_19 : tp Try.prog 19 = some [(0, 1)] := by kernel_rfl
@[go_sem] theorem tf_19_0 : tf Try.prog 19 0 = some (0, false, 1) := by kernel_rfl
@[go_sem] theorem tbool_19 : tbool Try.prog 19 = false := by kernel_rfl
@[go_sem] theorem tc_21 : Try.prog.cellsOf 21 = 1 := by kernel_rfl
@[go_sem] theorem tl_21 : tl Try.prog 21 = some (false, 1) := by kernel_rfl
@[go_sem] theorem te_21 : te Try.prog 21 = none := by kernel_rfl
@[go_sem] theorem tz_21 : tz Try.prog 21 = some [.int .i32 0] := by kernel_rfl
@[go_sem] theorem tflat_21 : tflat Try.prog 21 = true := by kernel_rfl
@[go_sem] theorem tbool_21 : tbool Try.prog 21 = false := by kernel_rfl
@[go_sem] theorem tkind_21 : tkind Try.prog 21 = some .i32 := by kernel_rfl
@[go_sem] theorem tc_22 : Try.prog.cellsOf 22 = 1 := by kernel_rfl
@[go_sem] theorem tl_22 : tl Try.prog 22 = some (false, 1) := by kernel_rfl
@[go_sem] theorem te_22 : te Try.prog 22 = some (3, 1, 8) := by kernel_rfl
@[go_sem] theorem tz_22 : tz Try.prog 22 = some [.sl 1 []] := by kernel_rfl
@[go_sem] theorem tflat_22 : tflat Try.prog 22 = false := by kernel_rfl
@[go_sem] theorem tbool_22 : tbool Try.prog 22 = false := by kernel_rfl
@[go_sem] theorem tc_23 : Try.prog.cellsOf 23 = 2 := by kernel_rfl
@[go_sem] theorem tl_23 : tl Try.prog 23 = some (true, 2) := by kernel_rfl
@[go_sem] theorem te_23 : te Try.prog 23 = none := by kernel_rfl
@[go_sem] theorem tp_23 : tp Try.prog 23 = some [(0, 1), (1, 1)] := by kernel_rfl
@[go_sem] theorem tf_23_0 : tf Try.prog 23 0 = some (0, false, 1) := by kernel_rfl
@[go_sem] theorem tf_23_1 : tf Try.prog 23 1 = some (1, false, 1) := by kernel_rfl
@[go_sem] theorem tz_23 : tz Try.prog 23 = some [.sl 1 [], .sl 1 []] := by kernel_rfl
@[go_sem] theorem tflat_23 : tflat Try.prog 23 = false := by kernel_rfl
@[go_sem] theorem tbool_23 : tbool Try.prog 23 = false := by kernel_rfl
@[go_sem] theorem tc_24 : Try.prog.cellsOf 24 = 2 := by kernel_rfl
@[go_sem] theorem tl_24 : tl Try.prog 24 = some (true, 2) := by kernel_rfl
@[go_sem] theorem te_24 : te Try.prog 24 = none := by kernel_rfl
@[go_sem] theorem tp_24 : tp Try.prog 24 = some [(0, 1), (1, 1)] := by kernel_rfl
@[go_sem] theorem tf_24_0 : tf Try.prog 24 0 = some (0, false, 1) := by kernel_rfl
@[go_sem] theorem tf_24_1 : tf Try.prog 24 1 = some (1, false, 1) := by kernel_rfl
@[go_sem] theorem tz_24 : tz Try.prog 24 = some [.sl 1 [], .sl 1 []] := by kernel_rfl
@[go_sem] theorem tflat_24 : tflat Try.prog 24 = false := by kernel_rfl
@[go_sem] theorem tbool_24 : tbool Try.prog 24 = false := by kernel_rfl
@[go_sem] theorem tc_25 : Try.prog.cellsOf 25 = 1 := by kernel_rfl
@[go_sem] theorem tl_25 : tl Try.prog 25 = some (false, 1) := by kernel_rfl
@[go_sem] theorem te_25 : te Try.prog 25 = some (82, 1, 24) := by kernel_rfl
@[go_sem] theorem tz_25 : tz Try.prog 25 = some [.sl 1 []] := by kernel_rfl
@[go_sem] theorem tflat_25 : tflat Try.prog 25 = false := by kernel_rfl
@[go_sem] theorem tbool_25 : tbool Try.prog 25 = false := by kernel_rfl
@[go_sem] theorem tc_26 : Try.prog.cellsOf 26 = 2 := by kernel_rfl
@[go_sem] theorem tl_26 : tl Try.prog 26 = some (true, 2) := by kernel_rfl
@[go_sem] theorem te_26 : te Try.prog 26 = none := by kernel_rfl
@[go_sem] theorem tp_26 : tp Try.prog 26 = some [(0, 1), (1, 1)] := by kernel_rfl
@[go_sem] theorem tf_26_0 : tf Try.prog 26 0 = some (0, false, 1) := by kernel_rfl
@[go_sem] theorem tf_26_1 : tf Try.prog 26 1 = some (1, false, 1) := by kernel_rfl
@[go_sem] theorem tz_26 : tz Try.prog 26 = some [.sl 1 [], .sl 1 []] := by kernel_rfl
@[go_sem] theorem tflat_26 : tflat Try.prog 26 = false := by kernel_rfl
@[go_sem] theorem tbool_26 : tbool Try.prog 26 = false := by kernel_rfl
@[go_sem] theorem tc_27 : Try.prog.cellsOf 27 = 2 := by kernel_rfl
@[go_sem] theorem tl_27 : tl Try.prog 27 = some (true, 2) := by kernel_rfl
@[go_sem] theorem te_27 : te Try.prog 27 = none := by kernel_rfl
@[go_sem] theorem tp_27 : tp Try.prog 27 = some [(0, 1), (1, 1)] := by kernel_rfl
@[go_sem] theorem tf_27_0 : tf Try.prog 27 0 = some (0, false, 1) := by kernel_rfl
@[go_sem] theorem tf_27_1 : tf Try.prog 27 1 = some (1, false, 1) := by kernel_rfl
@[go_sem] theorem tz_27 : tz Try.prog 27 = some [.sl 1 [], .sl 1 []] := by kernel_rfl
@[go_sem] theorem tflat_27 : tflat Try.prog 27 = false := by kernel_rfl
@[go_sem] theorem tbool_27 : tbool Try.prog 27 = false := by kernel_rfl
@[go_sem] theorem tc_28 : Try.prog.cellsOf 28 = 4 := by kernel_rfl
@[go_sem] theorem tl_28 : tl Try.prog 28 = some (true, 4) := by kernel_rfl
@[go_sem] theorem te_28 : te Try.prog 28 = none := by kernel_rfl
@[go_sem] theorem tp_28 : tp Try.prog 28 = some [(0, 2), (2, 2)] := by kernel_rfl
@[go_sem] theorem tf_28_0 : tf Try.prog 28 0 = some (0, true, 2) := by kernel_rfl
@[go_sem] theorem tf_28_1 : tf Try.prog 28 1 = some (2, true, 2) := by kernel_rfl
@[go_sem] theorem tz_28 : tz Try.prog 28 = some [.sl 1 [], .sl 1 [], .sl 1 [], .sl 1 []] := by kernel_rfl
@[go_sem] theorem tflat_28 : tflat Try.prog 28 = false := by kernel_rfl
@[go_sem] theorem tbool_28 : tbool Try.prog 28 = false := by kernel_rfl
@[go_sem] theorem tc_29 : Try.prog.cellsOf 29 = 4 := by kernel_rfl
@[go_sem] theorem tl_29 : tl Try.prog 29 = some (true, 4) := by kernel_rfl
@[go_sem] theorem te_29 : te Try.prog 29 = none := by kernel_rfl
@[go_sem] theorem tp_29 : tp Try.prog 29 = some [(0, 2), (2, 2)] := by kernel_rfl
@[go_sem] theorem tf_29_0 : tf Try.prog 29 0 = some (0, true, 2) := by kernel_rfl
@[go_sem] theorem tf_29_1 : tf Try.prog 29 1 = some (2, true, 2) := by kernel_rfl
@[go_sem] theorem tz_29 : tz Try.prog 29 = some [.sl 1 [], .sl 1 [], .sl 1 [], .sl 1 []] := by kernel_rfl
@[go_sem] theorem tflat_29 : tflat Try.prog 29 = false := by kernel_rfl
@[go_sem] theorem tbool_29 : tbool Try.prog 29 = false := by kernel_rfl
@[go_sem] theorem tc_31 : Try.prog.cellsOf 31 = 3 := by kernel_rfl
@[go_sem] theorem tl_31 : tl Try.prog 31 = some (true, 3) := by kernel_rfl
@[go_sem] theorem te_31 : te Try.prog 31 = none := by kernel_rfl
@[go_sem] theorem tp_31 : tp Try.prog 31 = some [(0, 1), (1, 1), (2, 1)] := by kernel_rfl
@[go_sem] theorem tf_31_0 : tf Try.prog 31 0 = some (0, false, 1) := by kernel_rfl
@[go_sem] theorem tf_31_1 : tf Try.prog 31 1 = some (1, false, 1) := by kernel_rfl
@[go_sem] theorem tf_31_2 : tf Try.prog 31 2 = some (2, false, 1) := by kernel_rfl
@[go_sem] theorem tz_31 : tz Try.prog 31 = some [.int .i64 0, .int .i64 0, .int .i64 0] := by kernel_rfl
@[go_sem] theorem tflat_31 : tflat Try.prog 31 = true := by kernel_rfl
@[go_sem] theorem tbool_31 : tbool Try.prog 31 = false := by kernel_rfl
@[go_sem] theorem tc_32 : Try.prog.cellsOf 32 = 3 := by kernel_rfl
@[go_sem] theorem tl_32 : tl Try.prog 32 = some (true, 3) := by kernel_rfl
@[go_sem] theorem te_32 : te Try.prog 32 = none := by kernel_rfl
@[go_sem] theorem tp_32 : tp Try.prog 32 = some [(0, 1), (1, 1), (2, 1)] := by kernel_rfl
@[go_sem] theorem tf_32_0 : tf Try.prog 32 0 = some (0, false, 1) := by kernel_rfl
@[go_sem] theorem tf_32_1 : tf Try.prog 32 1 = some (1, false, 1) := by kernel_rfl
@[go_sem] theorem tf_32_2 : tf Try.prog 32 2 = some (2, false, 1) := by kernel_rfl
@[go_sem] theorem teq_32 : teq Try.prog 32 = some [0, 0, 0] := by kernel_rfl
@[go_sem] theorem tz_32 : tz Try.prog 32 = some [.int .i64 0, .int .i64 0, .int .i64 0] := by kernel_rfl
@[go_sem] theorem tflat_32 : tflat Try.prog 32 = true := by kernel_rfl
@[go_sem] theorem tbool_32 : tbool Try.prog 32 = false := by kernel_rfl
@[go_sem] theorem tc_35 : Try.prog.cellsOf 35 = 2 := by kernel_rfl
@[go_sem] theorem tl_35 : tl Try.prog 35 = some (true, 2) := by kernel_rfl
@[go_sem] theorem te_35 : te Try.prog 35 = none := by kernel_rfl
@[go_sem] theorem tp_35 : tp Try.prog 35 = some [(0, 1), (1, 1)] := by kernel_rfl
@[go_sem] theorem tf_35_0 : tf Try.prog 35 0 = some (0, false, 1) := by kernel_rfl
@[go_sem] theorem tf_35_1 : tf Try.prog 35 1 = some (1, false, 1) := by kernel_rfl
@[go_sem] theorem tz_35 : tz Try.prog 35 = some [.sl 1 [], .sl 1 []] := by kernel_rfl
@[go_sem] theorem tflat_35 : tflat Try.prog 35 = false := by kernel_rfl
@[go_sem] theorem tbool_35 : tbool Try.prog 35 = false := by kernel_rfl
@[go_sem] theorem tc_36 : Try.prog.cellsOf 36 = 1 := by kernel_rfl
@[go_sem] theorem tl_36 : tl Try.prog 36 = some (false, 1) := by kernel_rfl
@[go_sem] theorem te_36 : te Try.prog 36 = some (66, 1, 24) := by kernel_rfl
@[go_sem] theorem tz_36 : tz Try.prog 36 = some [.sl 1 []] := by kernel_rfl
@[go_sem] theorem tflat_36 : tflat Try.prog 36 = false := by kernel_rfl
@[go_sem] theorem tbool_36 : tbool Try.prog 36 = false := by kernel_rfl
@[go_sem] theorem tc_37 : Try.prog.cellsOf 37 = 2 := by kernel_rfl
@[go_sem] theorem tl_37 : tl Try.prog 37 = some (true, 2) := by kernel_rfl
@[go_sem] theorem te_37 : te Try.prog 37 = none := by kernel_rfl
@[go_sem] theorem tp_37 : tp Try.prog 37 = some [(0, 1), (1, 1)] := by kernel_rfl
@[go_sem] theorem tf_37_0 : tf Try.prog 37 0 = some (0, false, 1) := by kernel_rfl
@[go_sem] theorem tf_37_1 : tf Try.prog 37 1 = some (1, false, 1) := by kernel_rfl
@[go_sem] theorem tz_37 : tz Try.prog 37 = some [.sl 1 [], .sl 1 []] := by kernel_rfl
@[go_sem] theorem tflat_37 : tflat Try.prog 37 = false := by kernel_rfl
@[go_sem] theorem tbool_37 : tbool Try.prog 37 = false := by kernel_rfl
@[go_sem] theorem tc_38 : Try.prog.cellsOf 38 = 2 := by kernel_rfl
@[go_sem] theorem tl_38 : tl Try.prog 38 = some (true, 2) := by kernel_rfl
@[go_sem] theorem te_38 : te Try.prog 38 = none := by kernel_rfl
@[go_sem] theorem tp_38 : tp Try.prog 38 = some [(0, 1), (1, 1)] := by kernel_rfl
@[go_sem] theorem tf_38_0 : tf Try.prog 38 0 = some (0, false, 1) := by kernel_rfl
@[go_sem] theorem tf_38_1 : tf Try.prog 38 1 = some (1, false, 1) := by kernel_rfl
@[go_sem] theorem tz_38 : tz Try.prog 38 = some [.sl 1 [], .sl 1 []] := by kernel_rfl
@[go_sem] theorem tflat_38 : tflat Try.prog 38 = false := by kernel_rfl
@[go_sem] theorem tbool_38 : tbool Try.prog 38 = false := by kernel_rfl
@[go_sem] theorem tc_39 : Try.prog.cellsOf 39 = 4 := by kernel_rfl
@[go_sem] theorem tl_39 : tl Try.prog 39 = some (true, 4) := by kernel_rfl
@[go_sem] theorem te_39 : te Try.prog 39 = none := by kernel_rfl
@[go_sem] theorem tp_39 : tp Try.prog 39 = some [(0, 2), (2, 2)] := by kernel_rfl
@[go_sem] theorem tf_39_0 : tf Try.prog 39 0 = some (0, true, 2) := by kernel_rfl
@[go_sem] theorem tf_39_1 : tf Try.prog 39 1 = some (2, true, 2) := by kernel_rfl
@[go_sem] theorem tz_39 : tz Try.prog 39 = some [.sl 1 [], .sl 1 [], .sl 1 [], .sl 1 []] := by kernel_rfl
@[go_sem] theorem tflat_39 : tflat Try.prog 39 = false := by kernel_rfl
@[go_sem] theorem tbool_39 : tbool Try.prog 39 = false := by kernel_rfl
@[go_sem] theorem tc_40 : Try.prog.cellsOf 40 = 4 := by kernel_rfl
@[go_sem] theorem tl_40 : tl Try.prog 40 = some (true, 4) := by kernel_rfl
@[go_sem] theorem te_40 : te Try.prog 40 = none := by kernel_rfl
@[go_sem] theorem tp_40 : tp Try.prog 40 = some [(0, 2), (2, 2)] := by kernel_rfl
@[go_sem] theorem tf_40_0 : tf Try.prog 40 0 = some (0, true, 2) := by kernel_rfl
@[go_sem] theorem tf_40_1 : tf Try.prog 40 1 = some (2, true, 2) := by kernel_rfl
@[go_sem] theorem tz_40 : tz Try.prog 40 = some [.sl 1 [], .sl 1 [], .sl 1 [], .sl 1 []] := by kernel_rfl
@[go_sem] theorem tflat_40 : tflat Try.prog 40 = false := by kernel_rfl
@[go_sem] theorem tbool_40 : tbool Try.prog 40 = false := by kernel_rfl
@[go_sem] theorem tc_65 : Try.prog.cellsOf 65 = 1 := by kernel_rfl
@[go_sem] theorem tl_65 : tl Try.prog 65 = some (true, 1) := by kernel_rfl
@[go_sem] theorem te_65 : te Try.prog 65 = none := by kernel_rfl
@[go_sem] theorem tp_65 : tp Try.prog 65 = some [(0, 1)] := by kernel_rfl
@[go_sem] theorem tf_65_0 : tf Try.prog 65 0 = some (0, false, 1) := by kernel_rfl
@[go_sem] theorem tz_65 : tz Try.prog 65 = some [.sl 1 []] := by kernel_rfl
@[go_sem] theorem tflat_65 : tflat Try.prog 65 = false := by kernel_rfl
@[go_sem] theorem tbool_65 : tbool Try.prog 65 = false := by kernel_rfl
@[go_sem] theorem tc_66 : Try.prog.cellsOf 66 = 1 := by kernel_rfl
@[go_sem] theorem tl_66 : tl Try.prog 66 = some (true, 1) := by kernel_rfl
@[go_sem] theorem te_66 : te Try.prog 66 = none := by kernel_rfl
@[go_sem] theorem tp_66 : tp Try.prog 66 = some [(0, 1)] := by kernel_rfl
@[go_sem] theorem tf_66_0 : tf Try.prog 66 0 = some (0, false, 1) := by kernel_rfl
@[go_sem] theorem tz_66 : tz Try.prog 66 = some [.sl 1 []] := by kernel_rfl
@[go_sem] theorem tflat_66 : tflat Try.prog 66 = false := by kernel_rfl
@[go_sem] theorem tbool_66 : tbool Try.prog 66 = false := by kernel_rfl
@[go_sem] theorem tc_82 : Try.prog.cellsOf 82 = 1 := by kernel_rfl
@[go_sem] theorem tl_82 : tl Try.prog 82 = some (true, 1) := by kernel_rfl
@[go_sem] theorem te_82 : te Try.prog 82 = none := by kernel_rfl
@[go_sem] theorem tp_82 : tp Try.prog 82 = some [(0, 1)] := by kernel_rfl
@[go_sem] theorem tf_82_0 : tf Try.prog 82 0 = some (0, false, 1) := by kernel_rfl
@[go_sem] theorem tz_82 : tz Try.prog 82 = some [.sl 1 []] := by kernel_rfl
@[go_sem] theorem tflat_82 : tflat Try.prog 82 = false := by kernel_rfl
@[go_sem] theorem tbool_82 : tbool Try.prog 82 = false := by kernel_rfl
@[go_sem] theorem tc_86 : Try.prog.cellsOf 86 = 24 := by kernel_rfl
@[go_sem] theorem tl_86 : tl Try.prog 86 = some (true, 24) := by kernel_rfl
@[go_sem] theorem te_86 : te Try.prog 86 = none := by kernel_rfl
@[go_sem] theorem ta_86 : ta Try.prog 86 = some (24, 4, 1) := by kernel_rfl
@[go_sem] theorem tp_86 : tp Try.prog 86 = some [(0, 1), (1, 1), (2, 1), (3, 1), (4, 1), (5, 1), (6, 1), (7, 1), (8, 1), (9, 1), (10, 1), (11, 1), (12, 1), (13, 1), (14, 1), (15, 1), (16, 1), (17, 1), (18, 1), (19, 1), (20, 1), (21, 1), (22, 1), (23, 1)] := by kernel_rfl
@[go_sem] theorem tz_86 : tz Try.prog 86 = some [.bool false, .bool false, .bool false, .bool false, .bool false, .bool false, .bool false, .bool false, .bool false, .bool false, .bool false, .bool false, .bool false, .bool false, .bool false, .bool false, .bool false, .bool false, .bool false, .bool false, .bool false, .bool false, .bool false, .bool false] := by kernel_rfl
@[go_sem] theorem tflat_86 : tflat Try.prog 86 = true := by kernel_rfl
@[go_sem] theorem tbool_86 : tbool Try.prog 86 = false := by kernel_rfl
@[go_sem] theorem tc_92 : Try.prog.cellsOf 92 = 1 := by kernel_rfl
@[go_sem] theorem tl_92 : tl Try.prog 92 = some (false, 1) := by kernel_rfl
@[go_sem] theorem te_92 : te Try.prog 92 = some (36, 1, 24) := by kernel_rfl
@[go_sem] theorem tz_92 : tz Try.prog 92 = some [.sl 1 []] := by kernel_rfl
@[go_sem] theorem tflat_92 : tflat Try.prog 92 = false := by kernel_rfl
@[go_sem] theorem tbool_92 : tbool Try.prog 92 = false := by kernel_rfl
@[go_sem] theorem tc_94 : Try.prog.cellsOf 94 = 3 := by kernel_rfl
@[go_sem] theorem tl_94 : tl Try.prog 94 = some (true, 3) := by kernel_rfl
@[go_sem] theorem te_94 : te Try.prog 94 = none := by kernel_rfl
@[go_sem] theorem ta_94 : ta Try.prog 94 = some (3, 3, 1) := by kernel_rfl
@[go_sem] theorem tp_94 : tp Try.prog 94 = some [(0, 1), (1, 1), (2, 1)] := by kernel_rfl
@[go_sem] theorem tz_94 : tz Try.prog 94 = some [.int .i64 0, .int .i64 0, .int .i64 0] := by kernel_rfl
@[go_sem] theorem tflat_94 : tflat Try.prog 94 = true := by kernel_rfl
@[go_sem] theorem tbool_94 : tbool Try.prog 94 = false := by kernel_rfl
@[go_sem] theorem tc_101 : Try.prog.cellsOf 101 = 4 := by kernel_rfl
@[go_sem] theorem tl_101 : tl Try.prog 101 = some (true, 4) := by kernel_rfl
@[go_sem] theorem te_101 : te Try.prog 101 = none := by kernel_rfl
@[go_sem] theorem tp_101 : tp Try.prog 101 = some [(0, 1), (1, 1), (2, 1), (3, 1)] := by kernel_rfl
@[go_sem] theorem tf_101_0 : tf Try.prog 101 0 = some (0, false, 1) := by kernel_rfl
@[go_sem] theorem tf_101_1 : tf Try.prog 101 1 = some (1, false, 1) := by kernel_rfl
@[go_sem] theorem tf_101_2 : tf Try.prog 101 2 = some (2, false, 1) := by kernel_rfl
@[go_sem] theorem tf_101_3 : tf Try.prog 101 3 = some (3, false, 1) := by kernel_rfl
@[go_sem] theorem tbool_101 : tbool Try.prog 101 = false := by kernel_rfl
@[go_sem] theorem tc_102 : Try.prog.cellsOf 102 = 4 := by kernel_rfl
@[go_sem] theorem tl_102 : tl Try.prog 102 = some (true, 4) := by kernel_rfl
@[go_sem] theorem te_102 : te Try.prog 102 = none := by kernel_rfl
@[go_sem] theorem tp_102 : tp Try.prog 102 = some [(0, 1), (1, 1), (2, 1), (3, 1)] := by kernel_rfl
@[go_sem] theorem tf_102_0 : tf Try.prog 102 0 = some (0, false, 1) := by kernel_rfl
@[go_sem] theorem tf_102_1 : tf Try.prog 102 1 = some (1, false, 1) := by kernel_rfl
@[go_sem] theorem tf_102_2 : tf Try.prog 102 2 = some (2, false, 1) := by kernel_rfl
@[go_sem] theorem tf_102_3 : tf Try.prog 102 3 = some (3, false, 1) := by kernel_rfl
@[go_sem] theorem tbool_102 : tbool Try.prog 102 = false := by kernel_rfl
@[go_sem] theorem tc_103 : Try.prog.cellsOf 103 = 0 := by kernel_rfl
@[go_sem] theorem tl_103 : tl Try.prog 103 = some (true, 0) := by kernel_rfl
@[go_sem] theorem te_103 : te Try.prog 103 = none := by kernel_rfl
@[go_sem] theorem ta_103 : ta Try.prog 103 = some (0, 16, 1) := by kernel_rfl
@[go_sem] theorem tp_103 : tp Try.prog 103 = some [] := by kernel_rfl
@[go_sem] theorem tbool_103 : tbool Try.prog 103 = false := by kernel_rfl
@[go_sem] theorem tc_104 : Try.prog.cellsOf 104 = 0 := by kernel_rfl
@[go_sem] theorem tl_104 : tl Try.prog 104 = some (true, 0) := by kernel_rfl
@[go_sem] theorem te_104 : te Try.prog 104 = none := by kernel_rfl
@[go_sem] theorem tp_104 : tp Try.prog 104 = some [(0, 0)] := by kernel_rfl
@[go_sem] theorem tbool_104 : tbool Try.prog 104 = false := by kernel_rfl
@[go_sem] theorem tc_105 : Try.prog.cellsOf 105 = 0 := by kernel_rfl
@[go_sem] theorem tl_105 : tl Try.prog 105 = some (true, 0) := by kernel_rfl
@[go_sem] theorem te_105 : te Try.prog 105 = none := by kernel_rfl
@[go_sem] theorem tp_105 : tp Try.prog 105 = some [(0, 0)] := by kernel_rfl
@[go_sem] theorem tbool_105 : tbool Try.prog 105 = false := by kernel_rfl
@[go_sem] theorem tc_107 : Try.prog.cellsOf 107 = 1 := by kernel_rfl
@[go_sem] theorem tl_107 : tl Try.prog 107 = some (false, 1) := by kernel_rfl
@[go_sem] theorem te_107 : te Try.prog 107 = none := by kernel_rfl
@[go_sem] theorem tz_107 : tz Try.prog 107 = some [.int .u32 0] := by kernel_rfl
@[go_sem] theorem tflat_107 : tflat Try.prog 107 = true := by kernel_rfl
@[go_sem] theorem tbool_107 : tbool Try.prog 107 = false := by kernel_rfl
@[go_sem] theorem tkind_107 : tkind Try.prog 107 = some .u32 := by kernel_rfl
@[go_sem] theorem tc_108 : Try.prog.cellsOf 108 = 1 := by kernel_rfl
@[go_sem] theorem tl_108 : tl Try.prog 108 = some (false, 1) := by kernel_rfl
@[go_sem] theorem te_108 : te Try.prog 108 = none := by kernel_rfl
@[go_sem] theorem tz_108 : tz Try.prog 108 = some [.int .u8 0] := by kernel_rfl
@[go_sem] theorem tflat_108 : tflat Try.prog 108 = true := by kernel_rfl
@[go_sem] theorem tbool_108 : tbool Try.prog 108 = false := by kernel_rfl
@[go_sem] theorem tkind_108 : tkind Try.prog 108 = some .u8 := by kernel_rfl
@[go_sem] theorem tc_109 : Try.prog.cellsOf 109 = 1 := by kernel_rfl
@[go_sem] theorem tl_109 : tl Try.prog 109 = some (false, 1) := by kernel_rfl
@[go_sem] theorem te_109 : te Try.prog 109 = none := by kernel_rfl
@[go_sem] theorem tz_109 : tz Try.prog 109 = some [.int .u8 0] := by kernel_rfl
@[go_sem] theorem tflat_109 : tflat Try.prog 109 = true := by kernel_rfl
@[go_sem] theorem tbool_109 : tbool Try.prog 109 = false := by kernel_rfl
@[go_sem] theorem tkind_109 : tkind Try.prog 109 = some .u8 := by kernel_rfl
@[go_sem] theorem tc_111 : Try.prog.cellsOf 111 = 1 := by kernel_rfl
@[go_sem] theorem tl_111 : tl Try.prog 111 = some (false, 1) := by kernel_rfl
@[go_sem] theorem te_111 : te Try.prog 111 = none := by kernel_rfl
@[go_sem] theorem tbool_111 : tbool Try.prog 111 = false := by kernel_rfl
@[go_sem] theorem tc_112 : Try.prog.cellsOf 112 = 1 := by kernel_rfl
@[go_sem] theorem tl_112 : tl Try.prog 112 = some (false, 1) := by kernel_rfl
@[go_sem] theorem te_112 : te Try.prog 112 = none := by kernel_rfl
@[go_sem] theorem tz_112 : tz Try.prog 112 = some [.int .i32 0] := by kernel_rfl
@[go_sem] theorem tflat_112 : tflat Try.prog 112 = true := by kernel_rfl
@[go_sem] theorem tbool_112 : tbool Try.prog 112 = false := by kernel_rfl
@[go_sem] theorem tkind_112 : tkind Try.prog 112 = some .i32 := by kernel_rfl
@[go_sem] theorem tc_113 : Try.prog.cellsOf 113 = 1 := by kernel_rfl
@[go_sem] theorem tl_113 : tl Try.prog 113 = some (false, 1) := by kernel_rfl
@[go_sem] theorem te_113 : te Try.prog 113 = none := by kernel_rfl
@[go_sem] theorem tz_113 : tz Try.prog 113 = some [.int .i32 0] := by kernel_rfl
@[go_sem] theorem tflat_113 : tflat Try.prog 113 = true := by kernel_rfl
@[go_sem] theorem tbool_113 : tbool Try.prog 113 = false := by kernel_rfl
@[go_sem] theorem tkind_113 : tkind Try.prog 113 = some .i32 := by kernel_rfl
@[go_sem] theorem tc_114 : Try.prog.cellsOf 114 = 11 := by kernel_rfl
@[go_sem] theorem tl_114 : tl Try.prog 114 = some (true, 11) := by kernel_rfl
@[go_sem] theorem te_114 : te Try.prog 114 = none := by kernel_rfl
@[go_sem] theorem tf_114_0 : tf Try.prog 114 0 = some (0, false, 1) := by kernel_rfl
@[go_sem] theorem tf_114_1 : tf Try.prog 114 1 = some (1, false, 1) := by kernel_rfl
@[go_sem] theorem tf_114_2 : tf Try.prog 114 2 = some (2, false, 1) := by kernel_rfl
@[go_sem] theorem tf_114_3 : tf Try.prog 114 3 = some (3, false, 1) := by kernel_rfl
@[go_sem] theorem tf_114_4 : tf Try.prog 114 4 = some (4, false, 1) := by kernel_rfl
@[go_sem] theorem tf_114_5 : tf Try.prog 114 5 = some (5, false, 1) := by kernel_rfl
@[go_sem] theorem tf_114_6 : tf Try.prog 114 6 = some (6, false, 1) := by kernel_rfl
@[go_sem] theorem tf_114_8 : tf Try.prog 114 8 = some (8, false, 1) := by kernel_rfl
@[go_sem] theorem tf_114_9 : tf Try.prog 114 9 = some (9, false, 1) := by kernel_rfl
@[go_sem] theorem tf_114_10 : tf Try.prog 114 10 = some (10, false, 1) := by kernel_rfl
@[go_sem] theorem tbool_114 : tbool Try.prog 114 = false := by kernel_rfl
@[go_sem] theorem tc_115 : Try.prog.cellsOf 115 = 11 := by kernel_rfl
@[go_sem] theorem tl_115 : tl Try.prog 115 = some (true, 11) := by kernel_rfl
@[go_sem] theorem te_115 : te Try.prog 115 = none := by kernel_rfl
@[go_sem] theorem tf_115_0 : tf Try.prog 115 0 = some (0, false, 1) := by kernel_rfl
@[go_sem] theorem tf_115_1 : tf Try.prog 115 1 = some (1, false, 1) := by kernel_rfl
@[go_sem] theorem tf_115_2 : tf Try.prog 115 2 = some (2, false, 1) := by kernel_rfl
@[go_sem] theorem tf_115_3 : tf Try.prog 115 3 = some (3, false, 1) := by kernel_rfl
@[go_sem] theorem tf_115_4 : tf Try.prog 115 4 = some (4, false, 1) := by kernel_rfl
@[go_sem] theorem tf_115_5 : tf Try.prog 115 5 = some (5, false, 1) := by kernel_rfl
@[go_sem] theorem tf_115_6 : tf Try.prog 115 6 = some (6, false, 1) := by kernel_rfl
@[go_sem] theorem tf_115_8 : tf Try.prog 115 8 = some (8, false, 1) := by kernel_rfl
@[go_sem] theorem tf_115_9 : tf Try.prog 115 9 = some (9, false, 1) := by kernel_rfl
@[go_sem] theorem tf_115_10 : tf Try.prog 115 10 = some (10, false, 1) := by kernel_rfl
@[go_sem] theorem tbool_115 : tbool Try.prog 115 = false := by kernel_rfl
theorem e2 : enters Try.prog 2 = true := by kernel_rfl
theorem e3 : enters Try.prog 3 = true := by kernel_rfl
theorem e4 : enters Try.prog 4 = true := by kernel_rfl
theorem e5 : enters Try.prog 5 = true := by kernel_rfl
theorem e6 : enters Try.prog 6 = true := by kernel_rfl
theorem e7 : enters Try.prog 7 = true := by kernel_rfl
theorem e8 : enters Try.prog 8 = true := by kernel_rfl
theorem e9 : enters Try.prog 9 = true := by kernel_rfl
theorem e10 : enters Try.prog 10 = true := by kernel_rfl
theorem e11 : enters Try.prog 11 = true := by kernel_rfl
theorem e12 : enters Try.prog 12 = true := by kernel_rfl
theorem e13 : enters Try.prog 13 = true := by kernel_rfl
theorem e14 : enters Try.prog 14 = true := by kernel_rfl
theorem e15 : enters Try.prog 15 = true := by kernel_rfl
theorem e16 : enters Try.prog 16 = true := by kernel_rfl
theorem e17 : enters Try.prog 17 = true := by kernel_rfl
theorem e18 : enters Try.prog 18 = true := by kernel_rfl
theorem e19 : enters Try.prog 19 = true := by kernel_rfl
theorem e20 : enters Try.prog 20 = true := by kernel_rfl
theorem e21 : enters Try.prog 21 = true := by kernel_rfl
theorem e22 : enters Try.prog 22 = true := by kernel_rfl
theorem e23 : enters Try.prog 23 = true := by kernel_rfl
theorem e24 : enters Try.prog 24 = true := by kernel_rfl
theorem e25 : enters Try.prog 25 = true := by kernel_rfl
theorem e26 : enters Try.prog 26 = true := by kernel_rfl
theorem e27 : enters Try.prog 27 = true := by kernel_rfl
theorem e28 : enters Try.prog 28 = true := by kernel_rfl
theorem e29 : enters Try.prog 29 = true := by kernel_rfl
theorem e30 : enters Try.prog 30 = true := by kernel_rfl
theorem e31 : enters Try.prog 31 = true := by kernel_rfl
theorem e32 : enters Try.prog 32 = true := by kernel_rfl
theorem e33 : enters Try.prog 33 = true := by kernel_rfl
theorem e34 : enters Try.prog 34 = true := by kernel_rfl
theorem e35 : enters Try.prog 35 = true := by kernel_rfl
theorem e36 : enters Try.prog 36 = true := by kernel_rfl
theorem e37 : enters Try.prog 37 = true := by kernel_rfl
theorem e38 : enters Try.prog 38 = true := by kernel_rfl
theorem e39 : enters Try.prog 39 = true := by kernel_rfl
theorem e40 : enters Try.prog 40 = true := by kernel_rfl
theorem e41 : enters Try.prog 41 = true := by kernel_rfl
theorem e42 : enters Try.prog 42 = true := by kernel_rfl
theorem e43 : enters Try.prog 43 = true := by kernel_rfl
theorem e44 : enters Try.prog 44 = true := by kernel_rfl
theorem e45 : enters Try.prog 45 = true := by kernel_rfl
theorem e46 : enters Try.prog 46 = true := by kernel_rfl
theorem e47 : enters Try.prog 47 = true := by kernel_rfl
theorem e48 : enters Try.prog 48 = true := by kernel_rfl
theorem e49 : enters Try.prog 49 = true := by kernel_rfl
theorem e50 : enters Try.prog 50 = true := by kernel_rfl
theorem e51 : enters Try.prog 51 = true := by kernel_rfl
theorem e52 : enters Try.prog 52 = true := by kernel_rfl
theorem e53 : enters Try.prog 53 = true := by kernel_rfl
theorem e54 : enters Try.prog 54 = true := by kernel_rfl
theorem e55 : enters Try.prog 55 = true := by kernel_rfl
theorem e56 : enters Try.prog 56 = true := by kernel_rfl
theorem e57 : enters Try.prog 57 = true := by kernel_rfl
theorem e58 : enters Try.prog 58 = true := by kernel_rfl
theorem e59 : enters Try.prog 59 = true := by kernel_rfl
theorem e60 : enters Try.prog 60 = true := by kernel_rfl
theorem e61 : enters Try.prog 61 = true := by kernel_rfl
theorem e62 : enters Try.prog 62 = true := by kernel_rfl
theorem e63 : enters Try.prog 63 = true := by kernel_rfl
theorem e64 : enters Try.prog 64 = true := by kernel_rfl
theorem e65 : enters Try.prog 65 = true := by kernel_rfl
theorem e66 : enters Try.prog 66 = true := by kernel_rfl
theorem e67 : enters Try.prog 67 = true := by kernel_rfl
theorem e68 : enters Try.prog 68 = true := by kernel_rfl
theorem e69 : enters Try.prog 69 = true := by kernel_rfl
theorem e70 : enters Try.prog 70 = true := by kernel_rfl
theorem e71 : enters Try.prog 71 = true := by kernel_rfl
theorem e72 : enters Try.prog 72 = true := by kernel_rfl
theorem e73 : enters Try.prog 73 = true := by kernel_rfl
theorem e74 : enters Try.prog 74 = true := by kernel_rfl
theorem e75 : enters Try.prog 75 = true := by kernel_rfl
theorem e76 : enters Try.prog 76 = true := by kernel_rfl
theorem e77 : enters Try.prog 77 = true := by kernel_rfl
theorem e78 : enters Try.prog 78 = true := by kernel_rfl
theorem e79 : enters Try.prog 79 = true := by kernel_rfl
theorem e80 : enters Try.prog 80 = true := by kernel_rfl
theorem e81 : enters Try.prog 81 = true := by kernel_rfl
theorem e82 : enters Try.prog 82 = true := by kernel_rfl
theorem e83 : enters Try.prog 83 = true := by kernel_rfl
theorem e84 : enters Try.prog 84 = true := by kernel_rfl
theorem e85 : enters Try.prog 85 = true := by kernel_rfl
theorem e86 : enters Try.prog 86 = true := by kernel_rfl
theorem e87 : enters Try.prog 87 = true := by kernel_rfl
theorem e88 : enters Try.prog 88 = true := by kernel_rfl
theorem e89 : enters Try.prog 89 = true := by kernel_rfl
theorem e90 : enters Try.prog 90 = true := by kernel_rfl
theorem e91 : enters Try.prog 91 = true := by kernel_rfl
theorem e92 : enters Try.prog 92 = true := by kernel_rfl
theorem e93 : enters Try.prog 93 = true := by kernel_rfl
theorem e94 : enters Try.prog 94 = true := by kernel_rfl
theorem e95 : enters Try.prog 95 = true := by kernel_rfl
theorem e96 : enters Try.prog 96 = true := by kernel_rfl
theorem e97 : enters Try.prog 97 = true := by kernel_rfl
theorem e98 : enters Try.prog 98 = true := by kernel_rfl
theorem e99 : enters Try.prog 99 = true := by kernel_rfl
theorem e100 : enters Try.prog 100 = true := by kernel_rfl
theorem e101 : enters Try.prog 101 = true := by kernel_rfl
theorem e102 : enters Try.prog 102 = true := by kernel_rfl
theorem e103 : enters Try.prog 103 = true := by kernel_rfl
theorem e104 : enters Try.prog 104 = true := by kernel_rfl
theorem e105 : enters Try.prog 105 = true := by kernel_rfl
theorem e106 : enters Try.prog 106 = true := by kernel_rfl
theorem e107 : enters Try.prog 107 = true := by kernel_rfl
theorem mixed : Try.prog.follows .mixedOrders = true := by kernel_rfl
end Go.Proofs.Ytomcobpfejdnoaa.Ty

