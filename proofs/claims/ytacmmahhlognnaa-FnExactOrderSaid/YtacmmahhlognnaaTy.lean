/- Facts on the types of the translation, each closed. Written by wip/tools/gen.py. -/
import Derived.Test.YtacmmahhlognnaaChecked
import Derived.Test.YtacmmahhlognnaaAbsCode
import Derived.KernelRfl
namespace Go.Proofs.Ytacmmahhlognnaa.Ty
open Go.Abs Go.Proofs
@[go_sem] theorem tc_2 : Try.prog.cellsOf 2 = 1 := by kernel_rfl
@[go_sem] theorem tl_2 : tl Try.prog 2 = some (false, 1) := by kernel_rfl
@[go_sem] theorem te_2 : te Try.prog 2 = none := by kernel_rfl
@[go_sem] theorem tz_2 : tz Try.prog 2 = some [.int .i64 0] := by kernel_rfl
@[go_sem] theorem tflat_2 : tflat Try.prog 2 = true := by kernel_rfl
@[go_sem] theorem tbool_2 : tbool Try.prog 2 = false := by kernel_rfl
@[go_sem] theorem tkind_2 : tkind Try.prog 2 = some .i64 := by kernel_rfl
@[go_sem] theorem tc_3 : Try.prog.cellsOf 3 = 1 := by kernel_rfl
@[go_sem] theorem tl_3 : tl Try.prog 3 = some (false, 1) := by kernel_rfl
@[go_sem] theorem te_3 : te Try.prog 3 = none := by kernel_rfl
@[go_sem] theorem tz_3 : tz Try.prog 3 = some [.int .i64 0] := by kernel_rfl
@[go_sem] theorem tflat_3 : tflat Try.prog 3 = true := by kernel_rfl
@[go_sem] theorem tbool_3 : tbool Try.prog 3 = false := by kernel_rfl
@[go_sem] theorem tkind_3 : tkind Try.prog 3 = some .i64 := by kernel_rfl
@[go_sem] theorem tc_4 : Try.prog.cellsOf 4 = 1 := by kernel_rfl
@[go_sem] theorem tl_4 : tl Try.prog 4 = some (false, 1) := by kernel_rfl
@[go_sem] theorem te_4 : te Try.prog 4 = none := by kernel_rfl
@[go_sem] theorem tz_4 : tz Try.prog 4 = some [.bool false] := by kernel_rfl
@[go_sem] theorem tflat_4 : tflat Try.prog 4 = true := by kernel_rfl
@[go_sem] theorem tbool_4 : tbool Try.prog 4 = true := by kernel_rfl
@[go_sem] theorem tc_5 : Try.prog.cellsOf 5 = 1 := by kernel_rfl
@[go_sem] theorem tl_5 : tl Try.prog 5 = some (false, 1) := by kernel_rfl
@[go_sem] theorem te_5 : te Try.prog 5 = none := by kernel_rfl
@[go_sem] theorem tz_5 : tz Try.prog 5 = some [.int .u8 0] := by kernel_rfl
@[go_sem] theorem tflat_5 : tflat Try.prog 5 = true := by kernel_rfl
@[go_sem] theorem tbool_5 : tbool Try.prog 5 = false := by kernel_rfl
@[go_sem] theorem tkind_5 : tkind Try.prog 5 = some .u8 := by kernel_rfl
@[go_sem] theorem tc_6 : Try.prog.cellsOf 6 = 1 := by kernel_rfl
@[go_sem] theorem tl_6 : tl Try.prog 6 = some (false, 1) := by kernel_rfl
@[go_sem] theorem te_6 : te Try.prog 6 = none := by kernel_rfl
@[go_sem] theorem tz_6 : tz Try.prog 6 = some [.int .u8 0] := by kernel_rfl
@[go_sem] theorem tflat_6 : tflat Try.prog 6 = true := by kernel_rfl
@[go_sem] theorem tbool_6 : tbool Try.prog 6 = false := by kernel_rfl
@[go_sem] theorem tkind_6 : tkind Try.prog 6 = some .u8 := by kernel_rfl
@[go_sem] theorem tc_7 : Try.prog.cellsOf 7 = 4 := by kernel_rfl
@[go_sem] theorem tl_7 : tl Try.prog 7 = some (true, 4) := by kernel_rfl
@[go_sem] theorem te_7 : te Try.prog 7 = none := by kernel_rfl
@[go_sem] theorem tp_7 : tp Try.prog 7 = some [(0, 1), (1, 1), (2, 1), (3, 1)] := by kernel_rfl
@[go_sem] theorem tf_7_0 : tf Try.prog 7 0 = some (0, false, 1) := by kernel_rfl
@[go_sem] theorem tf_7_1 : tf Try.prog 7 1 = some (1, false, 1) := by kernel_rfl
@[go_sem] theorem tf_7_2 : tf Try.prog 7 2 = some (2, false, 1) := by kernel_rfl
@[go_sem] theorem tf_7_3 : tf Try.prog 7 3 = some (3, false, 1) := by kernel_rfl
@[go_sem] theorem tz_7 : tz Try.prog 7 = some [.int .i64 0, .int .i64 0, .bool false, .int .u8 0] := by kernel_rfl
@[go_sem] theorem tflat_7 : tflat Try.prog 7 = true := by kernel_rfl
@[go_sem] theorem tbool_7 : tbool Try.prog 7 = false := by kernel_rfl
@[go_sem] theorem tc_8 : Try.prog.cellsOf 8 = 4 := by kernel_rfl
@[go_sem] theorem tl_8 : tl Try.prog 8 = some (true, 4) := by kernel_rfl
@[go_sem] theorem te_8 : te Try.prog 8 = none := by kernel_rfl
@[go_sem] theorem tp_8 : tp Try.prog 8 = some [(0, 1), (1, 1), (2, 1), (3, 1)] := by kernel_rfl
@[go_sem] theorem tf_8_0 : tf Try.prog 8 0 = some (0, false, 1) := by kernel_rfl
@[go_sem] theorem tf_8_1 : tf Try.prog 8 1 = some (1, false, 1) := by kernel_rfl
@[go_sem] theorem tf_8_2 : tf Try.prog 8 2 = some (2, false, 1) := by kernel_rfl
@[go_sem] theorem tf_8_3 : tf Try.prog 8 3 = some (3, false, 1) := by kernel_rfl
@[go_sem] theorem tz_8 : tz Try.prog 8 = some [.int .i64 0, .int .i64 0, .bool false, .int .u8 0] := by kernel_rfl
@[go_sem] theorem tflat_8 : tflat Try.prog 8 = true := by kernel_rfl
@[go_sem] theorem tbool_8 : tbool Try.prog 8 = false := by kernel_rfl
@[go_sem] theorem tc_9 : Try.prog.cellsOf 9 = 1 := by kernel_rfl
@[go_sem] theorem tl_9 : tl Try.prog 9 = some (false, 1) := by kernel_rfl
@[go_sem] theorem te_9 : te Try.prog 9 = none := by kernel_rfl
@[go_sem] theorem tz_9 : tz Try.prog 9 = some [.str .empty] := by kernel_rfl
@[go_sem] theorem tflat_9 : tflat Try.prog 9 = true := by kernel_rfl
@[go_sem] theorem tbool_9 : tbool Try.prog 9 = false := by kernel_rfl
@[go_sem] theorem tstr_9 : tstr Try.prog 9 = true := by kernel_rfl
@[go_sem] theorem tc_10 : Try.prog.cellsOf 10 = 1 := by kernel_rfl
@[go_sem] theorem tl_10 : tl Try.prog 10 = some (false, 1) := by kernel_rfl
@[go_sem] theorem te_10 : te Try.prog 10 = none := by kernel_rfl
@[go_sem] theorem tz_10 : tz Try.prog 10 = some [.str .empty] := by kernel_rfl
@[go_sem] theorem tflat_10 : tflat Try.prog 10 = true := by kernel_rfl
@[go_sem] theorem tbool_10 : tbool Try.prog 10 = false := by kernel_rfl
@[go_sem] theorem tstr_10 : tstr Try.prog 10 = true := by kernel_rfl
@[go_sem] theorem tc_11 : Try.prog.cellsOf 11 = 1 := by kernel_rfl
@[go_sem] theorem tl_11 : tl Try.prog 11 = some (false, 1) := by kernel_rfl
@[go_sem] theorem te_11 : te Try.prog 11 = none := by kernel_rfl
@[go_sem] theorem tz_11 : tz Try.prog 11 = some [.str .empty] := by kernel_rfl
@[go_sem] theorem tflat_11 : tflat Try.prog 11 = true := by kernel_rfl
@[go_sem] theorem tbool_11 : tbool Try.prog 11 = false := by kernel_rfl
@[go_sem] theorem tstr_11 : tstr Try.prog 11 = true := by kernel_rfl
@[go_sem] theorem tc_12 : Try.prog.cellsOf 12 = 1 := by kernel_rfl
@[go_sem] theorem tl_12 : tl Try.prog 12 = some (false, 1) := by kernel_rfl
@[go_sem] theorem te_12 : te Try.prog 12 = none := by kernel_rfl
@[go_sem] theorem tz_12 : tz Try.prog 12 = some [.int .u64 0] := by kernel_rfl
@[go_sem] theorem tflat_12 : tflat Try.prog 12 = true := by kernel_rfl
@[go_sem] theorem tbool_12 : tbool Try.prog 12 = false := by kernel_rfl
@[go_sem] theorem tkind_12 : tkind Try.prog 12 = some .u64 := by kernel_rfl
@[go_sem] theorem tc_13 : Try.prog.cellsOf 13 = 2 := by kernel_rfl
@[go_sem] theorem tl_13 : tl Try.prog 13 = some (true, 2) := by kernel_rfl
@[go_sem] theorem te_13 : te Try.prog 13 = none := by kernel_rfl
@[go_sem] theorem tp_13 : tp Try.prog 13 = some [(0, 1), (1, 1)] := by kernel_rfl
@[go_sem] theorem tf_13_0 : tf Try.prog 13 0 = some (0, false, 1) := by kernel_rfl
@[go_sem] theorem tf_13_1 : tf Try.prog 13 1 = some (1, false, 1) := by kernel_rfl
@[go_sem] theorem tz_13 : tz Try.prog 13 = some [.str .empty, .int .u64 0] := by kernel_rfl
@[go_sem] theorem tflat_13 : tflat Try.prog 13 = true := by kernel_rfl
@[go_sem] theorem tbool_13 : tbool Try.prog 13 = false := by kernel_rfl
@[go_sem] theorem tc_14 : Try.prog.cellsOf 14 = 2 := by kernel_rfl
@[go_sem] theorem tl_14 : tl Try.prog 14 = some (true, 2) := by kernel_rfl
@[go_sem] theorem te_14 : te Try.prog 14 = none := by kernel_rfl
@[go_sem] theorem tp_14 : tp Try.prog 14 = some [(0, 1), (1, 1)] := by kernel_rfl
@[go_sem] theorem tf_14_0 : tf Try.prog 14 0 = some (0, false, 1) := by kernel_rfl
@[go_sem] theorem tf_14_1 : tf Try.prog 14 1 = some (1, false, 1) := by kernel_rfl
@[go_sem] theorem tz_14 : tz Try.prog 14 = some [.str .empty, .int .u64 0] := by kernel_rfl
@[go_sem] theorem tflat_14 : tflat Try.prog 14 = true := by kernel_rfl
@[go_sem] theorem tbool_14 : tbool Try.prog 14 = false := by kernel_rfl
@[go_sem] theorem tc_15 : Try.prog.cellsOf 15 = 1 := by kernel_rfl
@[go_sem] theorem tl_15 : tl Try.prog 15 = some (false, 1) := by kernel_rfl
@[go_sem] theorem te_15 : te Try.prog 15 = none := by kernel_rfl
@[go_sem] theorem tbool_15 : tbool Try.prog 15 = false := by kernel_rfl
@[go_sem] theorem tc_16 : Try.prog.cellsOf 16 = 1 := by kernel_rfl
@[go_sem] theorem tl_16 : tl Try.prog 16 = some (false, 1) := by kernel_rfl
@[go_sem] theorem te_16 : te Try.prog 16 = none := by kernel_rfl
@[go_sem] theorem tbool_16 : tbool Try.prog 16 = false := by kernel_rfl
@[go_sem] theorem tc_17 : Try.prog.cellsOf 17 = 1 := by kernel_rfl
@[go_sem] theorem tl_17 : tl Try.prog 17 = some (false, 1) := by kernel_rfl
@[go_sem] theorem te_17 : te Try.prog 17 = none := by kernel_rfl
@[go_sem] theorem tbool_17 : tbool Try.prog 17 = false := by kernel_rfl
@[go_sem] theorem tc_18 : Try.prog.cellsOf 18 = 1 := by kernel_rfl
@[go_sem] theorem tl_18 : tl Try.prog 18 = some (true, 1) := by kernel_rfl
@[go_sem] theorem te_18 : te Try.prog 18 = none := by kernel_rfl
@[go_sem] theorem tp_18 : tp Try.prog 18 = some [(0, 1)] := by kernel_rfl
@[go_sem] theorem tf_18_0 : tf Try.prog 18 0 = some (0, false, 1) := by kernel_rfl
@[go_sem] theorem tbool_18 : tbool Try.prog 18 = false := by kernel_rfl
@[go_sem] theorem tc_19 : Try.prog.cellsOf 19 = 1 := by kernel_rfl
@[go_sem] theorem tl_19 : tl Try.prog 19 = some (true, 1) := by kernel_rfl
@[go_sem] theorem te_19 : te Try.prog 19 = none := by kernel_rfl
@[go_sem] theorem tp_19 : tp Try.prog 19 = some [(0, 1)] := by kernel_rfl
@[go_sem] theorem tf_19_0 : tf Try.prog 19 0 = some (0, false, 1) := by kernel_rfl
@[go_sem] theorem tbool_19 : tbool Try.prog 19 = false := by kernel_rfl
@[go_sem] theorem tc_21 : Try.prog.cellsOf 21 = 1 := by kernel_rfl
@[go_sem] theorem tl_21 : tl Try.prog 21 = some (false, 1) := by kernel_rfl
@[go_sem] theorem te_21 : te Try.prog 21 = none := by kernel_rfl
@[go_sem] theorem tz_21 : tz Try.prog 21 = some [.int .i32 0] := by kernel_rfl
@[go_sem] theorem tflat_21 : tflat Try.prog 21 = true := by kernel_rfl
@[go_sem] theorem tbool_21 : tbool Try.prog 21 = false := by kernel_rfl
@[go_sem] theorem tkind_21 : tkind Try.prog 21 = some .i32 := by kernel_rfl
@[go_sem] theorem tc_22 : Try.prog.cellsOf 22 = 1 := by kernel_rfl
@[go_sem] theorem tl_22 : tl Try.prog 22 = some (false, 1) := by kernel_rfl
@[go_sem] theorem te_22 : te Try.prog 22 = some (37, 6, 80) := by kernel_rfl
@[go_sem] theorem tz_22 : tz Try.prog 22 = some [.sl 6 []] := by kernel_rfl
@[go_sem] theorem tflat_22 : tflat Try.prog 22 = false := by kernel_rfl
@[go_sem] theorem tbool_22 : tbool Try.prog 22 = false := by kernel_rfl
@[go_sem] theorem tc_24 : Try.prog.cellsOf 24 = 1 := by kernel_rfl
@[go_sem] theorem tl_24 : tl Try.prog 24 = some (false, 1) := by kernel_rfl
@[go_sem] theorem te_24 : te Try.prog 24 = some (3, 1, 8) := by kernel_rfl
@[go_sem] theorem tz_24 : tz Try.prog 24 = some [.sl 1 []] := by kernel_rfl
@[go_sem] theorem tflat_24 : tflat Try.prog 24 = false := by kernel_rfl
@[go_sem] theorem tbool_24 : tbool Try.prog 24 = false := by kernel_rfl
@[go_sem] theorem tc_26 : Try.prog.cellsOf 26 = 1 := by kernel_rfl
@[go_sem] theorem tl_26 : tl Try.prog 26 = some (false, 1) := by kernel_rfl
@[go_sem] theorem te_26 : te Try.prog 26 = some (41, 6, 80) := by kernel_rfl
@[go_sem] theorem tz_26 : tz Try.prog 26 = some [.sl 6 []] := by kernel_rfl
@[go_sem] theorem tflat_26 : tflat Try.prog 26 = false := by kernel_rfl
@[go_sem] theorem tbool_26 : tbool Try.prog 26 = false := by kernel_rfl
@[go_sem] theorem tc_34 : Try.prog.cellsOf 34 = 1 := by kernel_rfl
@[go_sem] theorem tl_34 : tl Try.prog 34 = some (false, 1) := by kernel_rfl
@[go_sem] theorem te_34 : te Try.prog 34 = some (61, 3, 24) := by kernel_rfl
@[go_sem] theorem tz_34 : tz Try.prog 34 = some [.sl 3 []] := by kernel_rfl
@[go_sem] theorem tflat_34 : tflat Try.prog 34 = false := by kernel_rfl
@[go_sem] theorem tbool_34 : tbool Try.prog 34 = false := by kernel_rfl
@[go_sem] theorem tc_35 : Try.prog.cellsOf 35 = 1 := by kernel_rfl
@[go_sem] theorem tl_35 : tl Try.prog 35 = some (false, 1) := by kernel_rfl
@[go_sem] theorem te_35 : te Try.prog 35 = some (63, 2, 16) := by kernel_rfl
@[go_sem] theorem tz_35 : tz Try.prog 35 = some [.sl 2 []] := by kernel_rfl
@[go_sem] theorem tflat_35 : tflat Try.prog 35 = false := by kernel_rfl
@[go_sem] theorem tbool_35 : tbool Try.prog 35 = false := by kernel_rfl
@[go_sem] theorem tc_36 : Try.prog.cellsOf 36 = 6 := by kernel_rfl
@[go_sem] theorem tl_36 : tl Try.prog 36 = some (true, 6) := by kernel_rfl
@[go_sem] theorem te_36 : te Try.prog 36 = none := by kernel_rfl
@[go_sem] theorem tp_36 : tp Try.prog 36 = some [(0, 1), (1, 1), (2, 1), (3, 1), (4, 1), (5, 1)] := by kernel_rfl
@[go_sem] theorem tf_36_0 : tf Try.prog 36 0 = some (0, false, 1) := by kernel_rfl
@[go_sem] theorem tf_36_1 : tf Try.prog 36 1 = some (1, false, 1) := by kernel_rfl
@[go_sem] theorem tf_36_2 : tf Try.prog 36 2 = some (2, false, 1) := by kernel_rfl
@[go_sem] theorem tf_36_3 : tf Try.prog 36 3 = some (3, false, 1) := by kernel_rfl
@[go_sem] theorem tf_36_4 : tf Try.prog 36 4 = some (4, false, 1) := by kernel_rfl
@[go_sem] theorem tf_36_5 : tf Try.prog 36 5 = some (5, false, 1) := by kernel_rfl
@[go_sem] theorem tz_36 : tz Try.prog 36 = some [.int .i64 0, .int .i64 0, .int .i64 0, .int .i64 0, .sl 3 [], .sl 2 []] := by kernel_rfl
@[go_sem] theorem tflat_36 : tflat Try.prog 36 = false := by kernel_rfl
@[go_sem] theorem tbool_36 : tbool Try.prog 36 = false := by kernel_rfl
@[go_sem] theorem tc_37 : Try.prog.cellsOf 37 = 6 := by kernel_rfl
@[go_sem] theorem tl_37 : tl Try.prog 37 = some (true, 6) := by kernel_rfl
@[go_sem] theorem te_37 : te Try.prog 37 = none := by kernel_rfl
@[go_sem] theorem tp_37 : tp Try.prog 37 = some [(0, 1), (1, 1), (2, 1), (3, 1), (4, 1), (5, 1)] := by kernel_rfl
@[go_sem] theorem tf_37_0 : tf Try.prog 37 0 = some (0, false, 1) := by kernel_rfl
@[go_sem] theorem tf_37_1 : tf Try.prog 37 1 = some (1, false, 1) := by kernel_rfl
@[go_sem] theorem tf_37_2 : tf Try.prog 37 2 = some (2, false, 1) := by kernel_rfl
@[go_sem] theorem tf_37_3 : tf Try.prog 37 3 = some (3, false, 1) := by kernel_rfl
@[go_sem] theorem tf_37_4 : tf Try.prog 37 4 = some (4, false, 1) := by kernel_rfl
@[go_sem] theorem tf_37_5 : tf Try.prog 37 5 = some (5, false, 1) := by kernel_rfl
@[go_sem] theorem tz_37 : tz Try.prog 37 = some [.int .i64 0, .int .i64 0, .int .i64 0, .int .i64 0, .sl 3 [], .sl 2 []] := by kernel_rfl
@[go_sem] theorem tflat_37 : tflat Try.prog 37 = false := by kernel_rfl
@[go_sem] theorem tbool_37 : tbool Try.prog 37 = false := by kernel_rfl
@[go_sem] theorem tc_38 : Try.prog.cellsOf 38 = 1 := by kernel_rfl
@[go_sem] theorem tl_38 : tl Try.prog 38 = some (false, 1) := by kernel_rfl
@[go_sem] theorem te_38 : te Try.prog 38 = some (57, 3, 24) := by kernel_rfl
@[go_sem] theorem tz_38 : tz Try.prog 38 = some [.sl 3 []] := by kernel_rfl
@[go_sem] theorem tflat_38 : tflat Try.prog 38 = false := by kernel_rfl
@[go_sem] theorem tbool_38 : tbool Try.prog 38 = false := by kernel_rfl
@[go_sem] theorem tc_39 : Try.prog.cellsOf 39 = 1 := by kernel_rfl
@[go_sem] theorem tl_39 : tl Try.prog 39 = some (false, 1) := by kernel_rfl
@[go_sem] theorem te_39 : te Try.prog 39 = some (59, 2, 16) := by kernel_rfl
@[go_sem] theorem tz_39 : tz Try.prog 39 = some [.sl 2 []] := by kernel_rfl
@[go_sem] theorem tflat_39 : tflat Try.prog 39 = false := by kernel_rfl
@[go_sem] theorem tbool_39 : tbool Try.prog 39 = false := by kernel_rfl
@[go_sem] theorem tc_40 : Try.prog.cellsOf 40 = 6 := by kernel_rfl
@[go_sem] theorem tl_40 : tl Try.prog 40 = some (true, 6) := by kernel_rfl
@[go_sem] theorem te_40 : te Try.prog 40 = none := by kernel_rfl
@[go_sem] theorem tp_40 : tp Try.prog 40 = some [(0, 1), (1, 1), (2, 1), (3, 1), (4, 1), (5, 1)] := by kernel_rfl
@[go_sem] theorem tf_40_0 : tf Try.prog 40 0 = some (0, false, 1) := by kernel_rfl
@[go_sem] theorem tf_40_1 : tf Try.prog 40 1 = some (1, false, 1) := by kernel_rfl
@[go_sem] theorem tf_40_2 : tf Try.prog 40 2 = some (2, false, 1) := by kernel_rfl
@[go_sem] theorem tf_40_3 : tf Try.prog 40 3 = some (3, false, 1) := by kernel_rfl
@[go_sem] theorem tf_40_4 : tf Try.prog 40 4 = some (4, false, 1) := by kernel_rfl
@[go_sem] theorem tf_40_5 : tf Try.prog 40 5 = some (5, false, 1) := by kernel_rfl
@[go_sem] theorem tz_40 : tz Try.prog 40 = some [.int .i64 0, .int .i64 0, .int .i64 0, .int .i64 0, .sl 3 [], .sl 2 []] := by kernel_rfl
@[go_sem] theorem tflat_40 : tflat Try.prog 40 = false := by kernel_rfl
@[go_sem] theorem tbool_40 : tbool Try.prog 40 = false := by kernel_rfl
@[go_sem] theorem tc_41 : Try.prog.cellsOf 41 = 6 := by kernel_rfl
@[go_sem] theorem tl_41 : tl Try.prog 41 = some (true, 6) := by kernel_rfl
@[go_sem] theorem te_41 : te Try.prog 41 = none := by kernel_rfl
@[go_sem] theorem tp_41 : tp Try.prog 41 = some [(0, 1), (1, 1), (2, 1), (3, 1), (4, 1), (5, 1)] := by kernel_rfl
@[go_sem] theorem tf_41_0 : tf Try.prog 41 0 = some (0, false, 1) := by kernel_rfl
@[go_sem] theorem tf_41_1 : tf Try.prog 41 1 = some (1, false, 1) := by kernel_rfl
@[go_sem] theorem tf_41_2 : tf Try.prog 41 2 = some (2, false, 1) := by kernel_rfl
@[go_sem] theorem tf_41_3 : tf Try.prog 41 3 = some (3, false, 1) := by kernel_rfl
@[go_sem] theorem tf_41_4 : tf Try.prog 41 4 = some (4, false, 1) := by kernel_rfl
@[go_sem] theorem tf_41_5 : tf Try.prog 41 5 = some (5, false, 1) := by kernel_rfl
@[go_sem] theorem tz_41 : tz Try.prog 41 = some [.int .i64 0, .int .i64 0, .int .i64 0, .int .i64 0, .sl 3 [], .sl 2 []] := by kernel_rfl
@[go_sem] theorem tflat_41 : tflat Try.prog 41 = false := by kernel_rfl
@[go_sem] theorem tbool_41 : tbool Try.prog 41 = false := by kernel_rfl
@[go_sem] theorem tc_56 : Try.prog.cellsOf 56 = 3 := by kernel_rfl
@[go_sem] theorem tl_56 : tl Try.prog 56 = some (true, 3) := by kernel_rfl
@[go_sem] theorem te_56 : te Try.prog 56 = none := by kernel_rfl
@[go_sem] theorem tp_56 : tp Try.prog 56 = some [(0, 1), (1, 1), (2, 1)] := by kernel_rfl
@[go_sem] theorem tf_56_0 : tf Try.prog 56 0 = some (0, false, 1) := by kernel_rfl
@[go_sem] theorem tf_56_1 : tf Try.prog 56 1 = some (1, false, 1) := by kernel_rfl
@[go_sem] theorem tf_56_2 : tf Try.prog 56 2 = some (2, false, 1) := by kernel_rfl
@[go_sem] theorem tz_56 : tz Try.prog 56 = some [.int .i64 0, .int .i64 0, .int .i64 0] := by kernel_rfl
@[go_sem] theorem tflat_56 : tflat Try.prog 56 = true := by kernel_rfl
@[go_sem] theorem tbool_56 : tbool Try.prog 56 = false := by kernel_rfl
@[go_sem] theorem tc_57 : Try.prog.cellsOf 57 = 3 := by kernel_rfl
@[go_sem] theorem tl_57 : tl Try.prog 57 = some (true, 3) := by kernel_rfl
@[go_sem] theorem te_57 : te Try.prog 57 = none := by kernel_rfl
@[go_sem] theorem tp_57 : tp Try.prog 57 = some [(0, 1), (1, 1), (2, 1)] := by kernel_rfl
@[go_sem] theorem tf_57_0 : tf Try.prog 57 0 = some (0, false, 1) := by kernel_rfl
@[go_sem] theorem tf_57_1 : tf Try.prog 57 1 = some (1, false, 1) := by kernel_rfl
@[go_sem] theorem tf_57_2 : tf Try.prog 57 2 = some (2, false, 1) := by kernel_rfl
@[go_sem] theorem teq_57 : teq Try.prog 57 = some [0, 0, 0] := by kernel_rfl
@[go_sem] theorem tz_57 : tz Try.prog 57 = some [.int .i64 0, .int .i64 0, .int .i64 0] := by kernel_rfl
@[go_sem] theorem tflat_57 : tflat Try.prog 57 = true := by kernel_rfl
@[go_sem] theorem tbool_57 : tbool Try.prog 57 = false := by kernel_rfl
@[go_sem] theorem tc_58 : Try.prog.cellsOf 58 = 2 := by kernel_rfl
@[go_sem] theorem tl_58 : tl Try.prog 58 = some (true, 2) := by kernel_rfl
@[go_sem] theorem te_58 : te Try.prog 58 = none := by kernel_rfl
@[go_sem] theorem tp_58 : tp Try.prog 58 = some [(0, 1), (1, 1)] := by kernel_rfl
@[go_sem] theorem tf_58_0 : tf Try.prog 58 0 = some (0, false, 1) := by kernel_rfl
@[go_sem] theorem tf_58_1 : tf Try.prog 58 1 = some (1, false, 1) := by kernel_rfl
@[go_sem] theorem tz_58 : tz Try.prog 58 = some [.bool false, .int .i64 0] := by kernel_rfl
@[go_sem] theorem tflat_58 : tflat Try.prog 58 = true := by kernel_rfl
@[go_sem] theorem tbool_58 : tbool Try.prog 58 = false := by kernel_rfl
@[go_sem] theorem tc_59 : Try.prog.cellsOf 59 = 2 := by kernel_rfl
@[go_sem] theorem tl_59 : tl Try.prog 59 = some (true, 2) := by kernel_rfl
@[go_sem] theorem te_59 : te Try.prog 59 = none := by kernel_rfl
@[go_sem] theorem tp_59 : tp Try.prog 59 = some [(0, 1), (1, 1)] := by kernel_rfl
@[go_sem] theorem tf_59_0 : tf Try.prog 59 0 = some (0, false, 1) := by kernel_rfl
@[go_sem] theorem tf_59_1 : tf Try.prog 59 1 = some (1, false, 1) := by kernel_rfl
@[go_sem] theorem teq_59 : teq Try.prog 59 = some [1, 0] := by kernel_rfl
@[go_sem] theorem tz_59 : tz Try.prog 59 = some [.bool false, .int .i64 0] := by kernel_rfl
@[go_sem] theorem tflat_59 : tflat Try.prog 59 = true := by kernel_rfl
@[go_sem] theorem tbool_59 : tbool Try.prog 59 = false := by kernel_rfl
@[go_sem] theorem tc_61 : Try.prog.cellsOf 61 = 3 := by kernel_rfl
@[go_sem] theorem tl_61 : tl Try.prog 61 = some (true, 3) := by kernel_rfl
@[go_sem] theorem te_61 : te Try.prog 61 = none := by kernel_rfl
@[go_sem] theorem tp_61 : tp Try.prog 61 = some [(0, 1), (1, 1), (2, 1)] := by kernel_rfl
@[go_sem] theorem tf_61_0 : tf Try.prog 61 0 = some (0, false, 1) := by kernel_rfl
@[go_sem] theorem tf_61_1 : tf Try.prog 61 1 = some (1, false, 1) := by kernel_rfl
@[go_sem] theorem tf_61_2 : tf Try.prog 61 2 = some (2, false, 1) := by kernel_rfl
@[go_sem] theorem teq_61 : teq Try.prog 61 = some [0, 0, 0] := by kernel_rfl
@[go_sem] theorem tz_61 : tz Try.prog 61 = some [.int .i64 0, .int .i64 0, .int .i64 0] := by kernel_rfl
@[go_sem] theorem tflat_61 : tflat Try.prog 61 = true := by kernel_rfl
@[go_sem] theorem tbool_61 : tbool Try.prog 61 = false := by kernel_rfl
@[go_sem] theorem tc_63 : Try.prog.cellsOf 63 = 2 := by kernel_rfl
@[go_sem] theorem tl_63 : tl Try.prog 63 = some (true, 2) := by kernel_rfl
@[go_sem] theorem te_63 : te Try.prog 63 = none := by kernel_rfl
@[go_sem] theorem tp_63 : tp Try.prog 63 = some [(0, 1), (1, 1)] := by kernel_rfl
@[go_sem] theorem tf_63_0 : tf Try.prog 63 0 = some (0, false, 1) := by kernel_rfl
@[go_sem] theorem tf_63_1 : tf Try.prog 63 1 = some (1, false, 1) := by kernel_rfl
@[go_sem] theorem teq_63 : teq Try.prog 63 = some [1, 0] := by kernel_rfl
@[go_sem] theorem tz_63 : tz Try.prog 63 = some [.bool false, .int .i64 0] := by kernel_rfl
@[go_sem] theorem tflat_63 : tflat Try.prog 63 = true := by kernel_rfl
@[go_sem] theorem tbool_63 : tbool Try.prog 63 = false := by kernel_rfl
@[go_sem] theorem tc_67 : Try.prog.cellsOf 67 = 4 := by kernel_rfl
@[go_sem] theorem tl_67 : tl Try.prog 67 = some (true, 4) := by kernel_rfl
@[go_sem] theorem te_67 : te Try.prog 67 = none := by kernel_rfl
@[go_sem] theorem tp_67 : tp Try.prog 67 = some [(0, 1), (1, 1), (2, 1), (3, 1)] := by kernel_rfl
@[go_sem] theorem tf_67_0 : tf Try.prog 67 0 = some (0, false, 1) := by kernel_rfl
@[go_sem] theorem tf_67_1 : tf Try.prog 67 1 = some (1, false, 1) := by kernel_rfl
@[go_sem] theorem tf_67_2 : tf Try.prog 67 2 = some (2, false, 1) := by kernel_rfl
@[go_sem] theorem tf_67_3 : tf Try.prog 67 3 = some (3, false, 1) := by kernel_rfl
@[go_sem] theorem tbool_67 : tbool Try.prog 67 = false := by kernel_rfl
@[go_sem] theorem tc_68 : Try.prog.cellsOf 68 = 4 := by kernel_rfl
@[go_sem] theorem tl_68 : tl Try.prog 68 = some (true, 4) := by kernel_rfl
@[go_sem] theorem te_68 : te Try.prog 68 = none := by kernel_rfl
@[go_sem] theorem tp_68 : tp Try.prog 68 = some [(0, 1), (1, 1), (2, 1), (3, 1)] := by kernel_rfl
@[go_sem] theorem tf_68_0 : tf Try.prog 68 0 = some (0, false, 1) := by kernel_rfl
@[go_sem] theorem tf_68_1 : tf Try.prog 68 1 = some (1, false, 1) := by kernel_rfl
@[go_sem] theorem tf_68_2 : tf Try.prog 68 2 = some (2, false, 1) := by kernel_rfl
@[go_sem] theorem tf_68_3 : tf Try.prog 68 3 = some (3, false, 1) := by kernel_rfl
@[go_sem] theorem tbool_68 : tbool Try.prog 68 = false := by kernel_rfl
@[go_sem] theorem tc_69 : Try.prog.cellsOf 69 = 0 := by kernel_rfl
@[go_sem] theorem tl_69 : tl Try.prog 69 = some (true, 0) := by kernel_rfl
@[go_sem] theorem te_69 : te Try.prog 69 = none := by kernel_rfl
@[go_sem] theorem ta_69 : ta Try.prog 69 = some (0, 16, 1) := by kernel_rfl
@[go_sem] theorem tp_69 : tp Try.prog 69 = some [] := by kernel_rfl
@[go_sem] theorem tbool_69 : tbool Try.prog 69 = false := by kernel_rfl
@[go_sem] theorem tc_70 : Try.prog.cellsOf 70 = 0 := by kernel_rfl
@[go_sem] theorem tl_70 : tl Try.prog 70 = some (true, 0) := by kernel_rfl
@[go_sem] theorem te_70 : te Try.prog 70 = none := by kernel_rfl
@[go_sem] theorem tp_70 : tp Try.prog 70 = some [(0, 0)] := by kernel_rfl
@[go_sem] theorem tbool_70 : tbool Try.prog 70 = false := by kernel_rfl
@[go_sem] theorem tc_71 : Try.prog.cellsOf 71 = 0 := by kernel_rfl
@[go_sem] theorem tl_71 : tl Try.prog 71 = some (true, 0) := by kernel_rfl
@[go_sem] theorem te_71 : te Try.prog 71 = none := by kernel_rfl
@[go_sem] theorem tp_71 : tp Try.prog 71 = some [(0, 0)] := by kernel_rfl
@[go_sem] theorem tbool_71 : tbool Try.prog 71 = false := by kernel_rfl
@[go_sem] theorem tc_73 : Try.prog.cellsOf 73 = 1 := by kernel_rfl
@[go_sem] theorem tl_73 : tl Try.prog 73 = some (false, 1) := by kernel_rfl
@[go_sem] theorem te_73 : te Try.prog 73 = none := by kernel_rfl
@[go_sem] theorem tz_73 : tz Try.prog 73 = some [.int .u32 0] := by kernel_rfl
@[go_sem] theorem tflat_73 : tflat Try.prog 73 = true := by kernel_rfl
@[go_sem] theorem tbool_73 : tbool Try.prog 73 = false := by kernel_rfl
@[go_sem] theorem tkind_73 : tkind Try.prog 73 = some .u32 := by kernel_rfl
@[go_sem] theorem tc_74 : Try.prog.cellsOf 74 = 1 := by kernel_rfl
@[go_sem] theorem tl_74 : tl Try.prog 74 = some (false, 1) := by kernel_rfl
@[go_sem] theorem te_74 : te Try.prog 74 = none := by kernel_rfl
@[go_sem] theorem tz_74 : tz Try.prog 74 = some [.int .u8 0] := by kernel_rfl
@[go_sem] theorem tflat_74 : tflat Try.prog 74 = true := by kernel_rfl
@[go_sem] theorem tbool_74 : tbool Try.prog 74 = false := by kernel_rfl
@[go_sem] theorem tkind_74 : tkind Try.prog 74 = some .u8 := by kernel_rfl
@[go_sem] theorem tc_75 : Try.prog.cellsOf 75 = 1 := by kernel_rfl
@[go_sem] theorem tl_75 : tl Try.prog 75 = some (false, 1) := by kernel_rfl
@[go_sem] theorem te_75 : te Try.prog 75 = none := by kernel_rfl
@[go_sem] theorem tz_75 : tz Try.prog 75 = some [.int .u8 0] := by kernel_rfl
@[go_sem] theorem tflat_75 : tflat Try.prog 75 = true := by kernel_rfl
@[go_sem] theorem tbool_75 : tbool Try.prog 75 = false := by kernel_rfl
@[go_sem] theorem tkind_75 : tkind Try.prog 75 = some .u8 := by kernel_rfl
@[go_sem] theorem tc_77 : Try.prog.cellsOf 77 = 1 := by kernel_rfl
@[go_sem] theorem tl_77 : tl Try.prog 77 = some (false, 1) := by kernel_rfl
@[go_sem] theorem te_77 : te Try.prog 77 = none := by kernel_rfl
@[go_sem] theorem tbool_77 : tbool Try.prog 77 = false := by kernel_rfl
@[go_sem] theorem tc_78 : Try.prog.cellsOf 78 = 1 := by kernel_rfl
@[go_sem] theorem tl_78 : tl Try.prog 78 = some (false, 1) := by kernel_rfl
@[go_sem] theorem te_78 : te Try.prog 78 = none := by kernel_rfl
@[go_sem] theorem tz_78 : tz Try.prog 78 = some [.int .i32 0] := by kernel_rfl
@[go_sem] theorem tflat_78 : tflat Try.prog 78 = true := by kernel_rfl
@[go_sem] theorem tbool_78 : tbool Try.prog 78 = false := by kernel_rfl
@[go_sem] theorem tkind_78 : tkind Try.prog 78 = some .i32 := by kernel_rfl
@[go_sem] theorem tc_79 : Try.prog.cellsOf 79 = 1 := by kernel_rfl
@[go_sem] theorem tl_79 : tl Try.prog 79 = some (false, 1) := by kernel_rfl
@[go_sem] theorem te_79 : te Try.prog 79 = none := by kernel_rfl
@[go_sem] theorem tz_79 : tz Try.prog 79 = some [.int .i32 0] := by kernel_rfl
@[go_sem] theorem tflat_79 : tflat Try.prog 79 = true := by kernel_rfl
@[go_sem] theorem tbool_79 : tbool Try.prog 79 = false := by kernel_rfl
@[go_sem] theorem tkind_79 : tkind Try.prog 79 = some .i32 := by kernel_rfl
@[go_sem] theorem tc_80 : Try.prog.cellsOf 80 = 11 := by kernel_rfl
@[go_sem] theorem tl_80 : tl Try.prog 80 = some (true, 11) := by kernel_rfl
@[go_sem] theorem te_80 : te Try.prog 80 = none := by kernel_rfl
@[go_sem] theorem tf_80_0 : tf Try.prog 80 0 = some (0, false, 1) := by kernel_rfl
@[go_sem] theorem tf_80_1 : tf Try.prog 80 1 = some (1, false, 1) := by kernel_rfl
@[go_sem] theorem tf_80_2 : tf Try.prog 80 2 = some (2, false, 1) := by kernel_rfl
@[go_sem] theorem tf_80_3 : tf Try.prog 80 3 = some (3, false, 1) := by kernel_rfl
@[go_sem] theorem tf_80_4 : tf Try.prog 80 4 = some (4, false, 1) := by kernel_rfl
@[go_sem] theorem tf_80_5 : tf Try.prog 80 5 = some (5, false, 1) := by kernel_rfl
@[go_sem] theorem tf_80_6 : tf Try.prog 80 6 = some (6, false, 1) := by kernel_rfl
@[go_sem] theorem tf_80_8 : tf Try.prog 80 8 = some (8, false, 1) := by kernel_rfl
@[go_sem] theorem tf_80_9 : tf Try.prog 80 9 = some (9, false, 1) := by kernel_rfl
@[go_sem] theorem tf_80_10 : tf Try.prog 80 10 = some (10, false, 1) := by kernel_rfl
@[go_sem] theorem tbool_80 : tbool Try.prog 80 = false := by kernel_rfl
@[go_sem] theorem tc_81 : Try.prog.cellsOf 81 = 11 := by kernel_rfl
@[go_sem] theorem tl_81 : tl Try.prog 81 = some (true, 11) := by kernel_rfl
@[go_sem] theorem te_81 : te Try.prog 81 = none := by kernel_rfl
@[go_sem] theorem tf_81_0 : tf Try.prog 81 0 = some (0, false, 1) := by kernel_rfl
@[go_sem] theorem tf_81_1 : tf Try.prog 81 1 = some (1, false, 1) := by kernel_rfl
@[go_sem] theorem tf_81_2 : tf Try.prog 81 2 = some (2, false, 1) := by kernel_rfl
@[go_sem] theorem tf_81_3 : tf Try.prog 81 3 = some (3, false, 1) := by kernel_rfl
@[go_sem] theorem tf_81_4 : tf Try.prog 81 4 = some (4, false, 1) := by kernel_rfl
@[go_sem] theorem tf_81_5 : tf Try.prog 81 5 = some (5, false, 1) := by kernel_rfl
@[go_sem] theorem tf_81_6 : tf Try.prog 81 6 = some (6, false, 1) := by kernel_rfl
@[go_sem] theorem tf_81_8 : tf Try.prog 81 8 = some (8, false, 1) := by kernel_rfl
@[go_sem] theorem tf_81_9 : tf Try.prog 81 9 = some (9, false, 1) := by kernel_rfl
@[go_sem] theorem tf_81_10 : tf Try.prog 81 10 = some (10, false, 1) := by kernel_rfl
@[go_sem] theorem tbool_81 : tbool Try.prog 81 = false := by kernel_rfl
theorem e2 : enters Try.prog 2 = true := by kernel_rfl
theorem e3 : enters Try.prog 3 = true := by kernel_rfl
theorem e4 : enters Try.prog 4 = true := by kernel_rfl
theorem e5 : enters Try.prog 5 = true := by kernel_rfl
theorem e6 : enters Try.prog 6 = true := by kernel_rfl
theorem e7 : enters Try.prog 7 = true := by kernel_rfl
theorem e8 : enters Try.prog 8 = true := by kernel_rfl
theorem e9 : enters Try.prog 9 = true := by kernel_rfl
theorem e10 : enters Try.prog 10 = true := by kernel_rfl
theorem e11 : enters Try.prog 11 = true := by kernel_rfl
theorem e12 : enters Try.prog 12 = true := by kernel_rfl
theorem e13 : enters Try.prog 13 = true := by kernel_rfl
theorem e14 : enters Try.prog 14 = true := by kernel_rfl
theorem e15 : enters Try.prog 15 = true := by kernel_rfl
theorem e16 : enters Try.prog 16 = true := by kernel_rfl
theorem e17 : enters Try.prog 17 = true := by kernel_rfl
theorem e18 : enters Try.prog 18 = true := by kernel_rfl
theorem e19 : enters Try.prog 19 = true := by kernel_rfl
theorem e20 : enters Try.prog 20 = true := by kernel_rfl
theorem e21 : enters Try.prog 21 = true := by kernel_rfl
theorem e22 : enters Try.prog 22 = true := by kernel_rfl
theorem e23 : enters Try.prog 23 = true := by kernel_rfl
theorem e24 : enters Try.prog 24 = true := by kernel_rfl
theorem e25 : enters Try.prog 25 = true := by kernel_rfl
theorem e26 : enters Try.prog 26 = true := by kernel_rfl
theorem e27 : enters Try.prog 27 = true := by kernel_rfl
theorem e28 : enters Try.prog 28 = true := by kernel_rfl
theorem e29 : enters Try.prog 29 = true := by kernel_rfl
theorem e30 : enters Try.prog 30 = true := by kernel_rfl
theorem e31 : enters Try.prog 31 = true := by kernel_rfl
theorem e32 : enters Try.prog 32 = true := by kernel_rfl
theorem e33 : enters Try.prog 33 = true := by kernel_rfl
theorem e34 : enters Try.prog 34 = true := by kernel_rfl
theorem mixed : Try.prog.follows .mixedOrders = true := by kernel_rfl
end Go.Proofs.Ytacmmahhlognnaa.Ty

