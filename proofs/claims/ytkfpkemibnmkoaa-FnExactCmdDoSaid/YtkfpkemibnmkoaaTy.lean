/- Facts on the types of the translation, each closed. Written by wip/tools/gen.py. -/
import Derived.Test.YtkfpkemibnmkoaaChecked
import Derived.Test.YtkfpkemibnmkoaaAbsCode
import Derived.KernelRfl
namespace Go.Proofs.Ytkfpkemibnmkoaa.Ty
open Go.Abs Go.Proofs
@[go_sem] theorem tc_2 : Try.prog.cellsOf 2 = 1 := by kernel_rfl
@[go_sem] theorem tl_2 : tl Try.prog 2 = some (false, 1) := by kernel_rfl
@[go_sem] theorem tz_2 : tz Try.prog 2 = some [.int .i64 0] := by kernel_rfl
@[go_sem] theorem tflat_2 : tflat Try.prog 2 = true := by kernel_rfl
@[go_sem] theorem tbool_2 : tbool Try.prog 2 = false := by kernel_rfl
@[go_sem] theorem tkind_2 : tkind Try.prog 2 = some .i64 := by kernel_rfl
@[go_sem] theorem tc_3 : Try.prog.cellsOf 3 = 1 := by kernel_rfl
@[go_sem] theorem tl_3 : tl Try.prog 3 = some (false, 1) := by kernel_rfl
@[go_sem] theorem tz_3 : tz Try.prog 3 = some [.int .i64 0] := by kernel_rfl
@[go_sem] theorem tflat_3 : tflat Try.prog 3 = true := by kernel_rfl
@[go_sem] theorem tbool_3 : tbool Try.prog 3 = false := by kernel_rfl
@[go_sem] theorem tkind_3 : tkind Try.prog 3 = some .i64 := by kernel_rfl
@[go_sem] theorem tc_4 : Try.prog.cellsOf 4 = 1 := by kernel_rfl
@[go_sem] theorem tl_4 : tl Try.prog 4 = some (false, 1) := by kernel_rfl
@[go_sem] theorem tz_4 : tz Try.prog 4 = some [.bool false] := by kernel_rfl
@[go_sem] theorem tflat_4 : tflat Try.prog 4 = true := by kernel_rfl
@[go_sem] theorem tbool_4 : tbool Try.prog 4 = true := by kernel_rfl
@[go_sem] theorem tc_5 : Try.prog.cellsOf 5 = 1 := by kernel_rfl
@[go_sem] theorem tl_5 : tl Try.prog 5 = some (false, 1) := by kernel_rfl
@[go_sem] theorem tz_5 : tz Try.prog 5 = some [.int .u8 0] := by kernel_rfl
@[go_sem] theorem tflat_5 : tflat Try.prog 5 = true := by kernel_rfl
@[go_sem] theorem tbool_5 : tbool Try.prog 5 = false := by kernel_rfl
@[go_sem] theorem tkind_5 : tkind Try.prog 5 = some .u8 := by kernel_rfl
@[go_sem] theorem tc_6 : Try.prog.cellsOf 6 = 1 := by kernel_rfl
@[go_sem] theorem tl_6 : tl Try.prog 6 = some (false, 1) := by kernel_rfl
@[go_sem] theorem tz_6 : tz Try.prog 6 = some [.int .u8 0] := by kernel_rfl
@[go_sem] theorem tflat_6 : tflat Try.prog 6 = true := by kernel_rfl
@[go_sem] theorem tbool_6 : tbool Try.prog 6 = false := by kernel_rfl
@[go_sem] theorem tkind_6 : tkind Try.prog 6 = some .u8 := by kernel_rfl
@[go_sem] theorem tc_7 : Try.prog.cellsOf 7 = 4 := by kernel_rfl
@[go_sem] theorem tl_7 : tl Try.prog 7 = some (true, 4) := by kernel_rfl
@[go_sem] theorem tp_7 : tp Try.prog 7 = some [(0, 1), (1, 1), (2, 1), (3, 1)] := by kernel_rfl
@[go_sem] theorem tf_7_0 : tf Try.prog 7 0 = some (0, false, 1) := by kernel_rfl
@[go_sem] theorem tf_7_1 : tf Try.prog 7 1 = some (1, false, 1) := by kernel_rfl
@[go_sem] theorem tf_7_2 : tf Try.prog 7 2 = some (2, false, 1) := by kernel_rfl
@[go_sem] theorem tf_7_3 : tf Try.prog 7 3 = some (3, false, 1) := by kernel_rfl
@[go_sem] theorem tz_7 : tz Try.prog 7 = some [.int .i64 0, .int .i64 0, .bool false, .int .u8 0] := by kernel_rfl
@[go_sem] theorem tflat_7 : tflat Try.prog 7 = true := by kernel_rfl
@[go_sem] theorem tbool_7 : tbool Try.prog 7 = false := by kernel_rfl
@[go_sem] theorem tc_8 : Try.prog.cellsOf 8 = 4 := by kernel_rfl
@[go_sem] theorem tl_8 : tl Try.prog 8 = some (true, 4) := by kernel_rfl
@[go_sem] theorem tp_8 : tp Try.prog 8 = some [(0, 1), (1, 1), (2, 1), (3, 1)] := by kernel_rfl
@[go_sem] theorem tf_8_0 : tf Try.prog 8 0 = some (0, false, 1) := by kernel_rfl
@[go_sem] theorem tf_8_1 : tf Try.prog 8 1 = some (1, false, 1) := by kernel_rfl
@[go_sem] theorem tf_8_2 : tf Try.prog 8 2 = some (2, false, 1) := by kernel_rfl
@[go_sem] theorem tf_8_3 : tf Try.prog 8 3 = some (3, false, 1) := by kernel_rfl
@[go_sem] theorem tz_8 : tz Try.prog 8 = some [.int .i64 0, .int .i64 0, .bool false, .int .u8 0] := by kernel_rfl
@[go_sem] theorem tflat_8 : tflat Try.prog 8 = true := by kernel_rfl
@[go_sem] theorem tbool_8 : tbool Try.prog 8 = false := by kernel_rfl
@[go_sem] theorem tc_9 : Try.prog.cellsOf 9 = 1 := by kernel_rfl
@[go_sem] theorem tl_9 : tl Try.prog 9 = some (false, 1) := by kernel_rfl
@[go_sem] theorem tz_9 : tz Try.prog 9 = some [.str .empty] := by kernel_rfl
@[go_sem] theorem tflat_9 : tflat Try.prog 9 = true := by kernel_rfl
@[go_sem] theorem tbool_9 : tbool Try.prog 9 = false := by kernel_rfl
@[go_sem] theorem tstr_9 : tstr Try.prog 9 = true := by kernel_rfl
@[go_sem] theorem tc_10 : Try.prog.cellsOf 10 = 1 := by kernel_rfl
@[go_sem] theorem tl_10 : tl Try.prog 10 = some (false, 1) := by kernel_rfl
@[go_sem] theorem tz_10 : tz Try.prog 10 = some [.str .empty] := by kernel_rfl
@[go_sem] theorem tflat_10 : tflat Try.prog 10 = true := by kernel_rfl
@[go_sem] theorem tbool_10 : tbool Try.prog 10 = false := by kernel_rfl
@[go_sem] theorem tstr_10 : tstr Try.prog 10 = true := by kernel_rfl
@[go_sem] theorem tc_11 : Try.prog.cellsOf 11 = 1 := by kernel_rfl
@[go_sem] theorem tl_11 : tl Try.prog 11 = some (false, 1) := by kernel_rfl
@[go_sem] theorem tz_11 : tz Try.prog 11 = some [.str .empty] := by kernel_rfl
@[go_sem] theorem tflat_11 : tflat Try.prog 11 = true := by kernel_rfl
@[go_sem] theorem tbool_11 : tbool Try.prog 11 = false := by kernel_rfl
@[go_sem] theorem tstr_11 : tstr Try.prog 11 = true := by kernel_rfl
@[go_sem] theorem tc_12 : Try.prog.cellsOf 12 = 1 := by kernel_rfl
@[go_sem] theorem tl_12 : tl Try.prog 12 = some (false, 1) := by kernel_rfl
@[go_sem] theorem tz_12 : tz Try.prog 12 = some [.int .u64 0] := by kernel_rfl
@[go_sem] theorem tflat_12 : tflat Try.prog 12 = true := by kernel_rfl
@[go_sem] theorem tbool_12 : tbool Try.prog 12 = false := by kernel_rfl
@[go_sem] theorem tkind_12 : tkind Try.prog 12 = some .u64 := by kernel_rfl
@[go_sem] theorem tc_13 : Try.prog.cellsOf 13 = 2 := by kernel_rfl
@[go_sem] theorem tl_13 : tl Try.prog 13 = some (true, 2) := by kernel_rfl
@[go_sem] theorem tp_13 : tp Try.prog 13 = some [(0, 1), (1, 1)] := by kernel_rfl
@[go_sem] theorem tf_13_0 : tf Try.prog 13 0 = some (0, false, 1) := by kernel_rfl
@[go_sem] theorem tf_13_1 : tf Try.prog 13 1 = some (1, false, 1) := by kernel_rfl
@[go_sem] theorem tz_13 : tz Try.prog 13 = some [.str .empty, .int .u64 0] := by kernel_rfl
@[go_sem] theorem tflat_13 : tflat Try.prog 13 = true := by kernel_rfl
@[go_sem] theorem tbool_13 : tbool Try.prog 13 = false := by kernel_rfl
@[go_sem] theorem tc_14 : Try.prog.cellsOf 14 = 2 := by kernel_rfl
@[go_sem] theorem tl_14 : tl Try.prog 14 = some (true, 2) := by kernel_rfl
@[go_sem] theorem tp_14 : tp Try.prog 14 = some [(0, 1), (1, 1)] := by kernel_rfl
@[go_sem] theorem tf_14_0 : tf Try.prog 14 0 = some (0, false, 1) := by kernel_rfl
@[go_sem] theorem tf_14_1 : tf Try.prog 14 1 = some (1, false, 1) := by kernel_rfl
@[go_sem] theorem tz_14 : tz Try.prog 14 = some [.str .empty, .int .u64 0] := by kernel_rfl
@[go_sem] theorem tflat_14 : tflat Try.prog 14 = true := by kernel_rfl
@[go_sem] theorem tbool_14 : tbool Try.prog 14 = false := by kernel_rfl
@[go_sem] theorem tc_15 : Try.prog.cellsOf 15 = 1 := by kernel_rfl
@[go_sem] theorem tl_15 : tl Try.prog 15 = some (false, 1) := by kernel_rfl
@[go_sem] theorem tbool_15 : tbool Try.prog 15 = false := by kernel_rfl
@[go_sem] theorem tc_16 : Try.prog.cellsOf 16 = 1 := by kernel_rfl
@[go_sem] theorem tl_16 : tl Try.prog 16 = some (false, 1) := by kernel_rfl
@[go_sem] theorem tbool_16 : tbool Try.prog 16 = false := by kernel_rfl
@[go_sem] theorem tc_17 : Try.prog.cellsOf 17 = 1 := by kernel_rfl
@[go_sem] theorem tl_17 : tl Try.prog 17 = some (false, 1) := by kernel_rfl
@[go_sem] theorem tbool_17 : tbool Try.prog 17 = false := by kernel_rfl
@[go_sem] theorem tc_18 : Try.prog.cellsOf 18 = 1 := by kernel_rfl
@[go_sem] theorem tl_18 : tl Try.prog 18 = some (true, 1) := by kernel_rfl
@[go_sem] theorem tp_18 : tp Try.prog 18 = some [(0, 1)] := by kernel_rfl
@[go_sem] theorem tf_18_0 : tf Try.prog 18 0 = some (0, false, 1) := by kernel_rfl
@[go_sem] theorem tbool_18 : tbool Try.prog 18 = false := by kernel_rfl
@[go_sem] theorem tc_19 : Try.prog.cellsOf 19 = 1 := by kernel_rfl
@[go_sem] theorem tl_19 : tl Try.prog 19 = some (true, 1) := by kernel_rfl
@[go_sem] theorem tp_19 : tp Try.prog 19 = some [(0, 1)] := by kernel_rfl
@[go_sem] theorem tf_19_0 : tf Try.prog 19 0 = some (0, false, 1) := by kernel_rfl
@[go_sem] theorem tbool_19 : tbool Try.prog 19 = false := by kernel_rfl
@[go_sem] theorem tc_21 : Try.prog.cellsOf 21 = 1 := by kernel_rfl
@[go_sem] theorem tl_21 : tl Try.prog 21 = some (false, 1) := by kernel_rfl
@[go_sem] theorem tz_21 : tz Try.prog 21 = some [.int .i32 0] := by kernel_rfl
@[go_sem] theorem tflat_21 : tflat Try.prog 21 = true := by kernel_rfl
@[go_sem] theorem tbool_21 : tbool Try.prog 21 = false := by kernel_rfl
@[go_sem] theorem tkind_21 : tkind Try.prog 21 = some .i32 := by kernel_rfl
@[go_sem] theorem tc_22 : Try.prog.cellsOf 22 = 1 := by kernel_rfl
@[go_sem] theorem tl_22 : tl Try.prog 22 = some (false, 1) := by kernel_rfl
@[go_sem] theorem te_22 : te Try.prog 22 = some (101, 2, 16) := by kernel_rfl
@[go_sem] theorem tz_22 : tz Try.prog 22 = some [.sl 2 []] := by kernel_rfl
@[go_sem] theorem tflat_22 : tflat Try.prog 22 = false := by kernel_rfl
@[go_sem] theorem tbool_22 : tbool Try.prog 22 = false := by kernel_rfl
@[go_sem] theorem tc_24 : Try.prog.cellsOf 24 = 1 := by kernel_rfl
@[go_sem] theorem tl_24 : tl Try.prog 24 = some (false, 1) := by kernel_rfl
@[go_sem] theorem te_24 : te Try.prog 24 = some (99, 2, 16) := by kernel_rfl
@[go_sem] theorem tz_24 : tz Try.prog 24 = some [.sl 2 []] := by kernel_rfl
@[go_sem] theorem tflat_24 : tflat Try.prog 24 = false := by kernel_rfl
@[go_sem] theorem tbool_24 : tbool Try.prog 24 = false := by kernel_rfl
@[go_sem] theorem tc_31 : Try.prog.cellsOf 31 = 1 := by kernel_rfl
@[go_sem] theorem tl_31 : tl Try.prog 31 = some (false, 1) := by kernel_rfl
@[go_sem] theorem te_31 : te Try.prog 31 = some (109, 2, 16) := by kernel_rfl
@[go_sem] theorem tz_31 : tz Try.prog 31 = some [.sl 2 []] := by kernel_rfl
@[go_sem] theorem tflat_31 : tflat Try.prog 31 = false := by kernel_rfl
@[go_sem] theorem tbool_31 : tbool Try.prog 31 = false := by kernel_rfl
@[go_sem] theorem tc_33 : Try.prog.cellsOf 33 = 1 := by kernel_rfl
@[go_sem] theorem tl_33 : tl Try.prog 33 = some (false, 1) := by kernel_rfl
@[go_sem] theorem te_33 : te Try.prog 33 = some (107, 2, 16) := by kernel_rfl
@[go_sem] theorem tz_33 : tz Try.prog 33 = some [.sl 2 []] := by kernel_rfl
@[go_sem] theorem tflat_33 : tflat Try.prog 33 = false := by kernel_rfl
@[go_sem] theorem tbool_33 : tbool Try.prog 33 = false := by kernel_rfl
@[go_sem] theorem tc_41 : Try.prog.cellsOf 41 = 1 := by kernel_rfl
@[go_sem] theorem tl_41 : tl Try.prog 41 = some (false, 1) := by kernel_rfl
@[go_sem] theorem te_41 : te Try.prog 41 = some (43, 3, 24) := by kernel_rfl
@[go_sem] theorem tz_41 : tz Try.prog 41 = some [.sl 3 []] := by kernel_rfl
@[go_sem] theorem tflat_41 : tflat Try.prog 41 = false := by kernel_rfl
@[go_sem] theorem tbool_41 : tbool Try.prog 41 = false := by kernel_rfl
@[go_sem] theorem tc_42 : Try.prog.cellsOf 42 = 3 := by kernel_rfl
@[go_sem] theorem tl_42 : tl Try.prog 42 = some (true, 3) := by kernel_rfl
@[go_sem] theorem tp_42 : tp Try.prog 42 = some [(0, 1), (1, 1), (2, 1)] := by kernel_rfl
@[go_sem] theorem tf_42_0 : tf Try.prog 42 0 = some (0, false, 1) := by kernel_rfl
@[go_sem] theorem tf_42_1 : tf Try.prog 42 1 = some (1, false, 1) := by kernel_rfl
@[go_sem] theorem tf_42_2 : tf Try.prog 42 2 = some (2, false, 1) := by kernel_rfl
@[go_sem] theorem tz_42 : tz Try.prog 42 = some [.int .i64 0, .bool false, .int .i64 0] := by kernel_rfl
@[go_sem] theorem tflat_42 : tflat Try.prog 42 = true := by kernel_rfl
@[go_sem] theorem tbool_42 : tbool Try.prog 42 = false := by kernel_rfl
@[go_sem] theorem tc_43 : Try.prog.cellsOf 43 = 3 := by kernel_rfl
@[go_sem] theorem tl_43 : tl Try.prog 43 = some (true, 3) := by kernel_rfl
@[go_sem] theorem tp_43 : tp Try.prog 43 = some [(0, 1), (1, 1), (2, 1)] := by kernel_rfl
@[go_sem] theorem tf_43_0 : tf Try.prog 43 0 = some (0, false, 1) := by kernel_rfl
@[go_sem] theorem tf_43_1 : tf Try.prog 43 1 = some (1, false, 1) := by kernel_rfl
@[go_sem] theorem tf_43_2 : tf Try.prog 43 2 = some (2, false, 1) := by kernel_rfl
@[go_sem] theorem teq_43 : teq Try.prog 43 = some [0, 1, 0] := by kernel_rfl
@[go_sem] theorem tz_43 : tz Try.prog 43 = some [.int .i64 0, .bool false, .int .i64 0] := by kernel_rfl
@[go_sem] theorem tflat_43 : tflat Try.prog 43 = true := by kernel_rfl
@[go_sem] theorem tbool_43 : tbool Try.prog 43 = false := by kernel_rfl
@[go_sem] theorem tc_45 : Try.prog.cellsOf 45 = 1 := by kernel_rfl
@[go_sem] theorem tl_45 : tl Try.prog 45 = some (false, 1) := by kernel_rfl
@[go_sem] theorem te_45 : te Try.prog 45 = some (48, 3, 24) := by kernel_rfl
@[go_sem] theorem tz_45 : tz Try.prog 45 = some [.sl 3 []] := by kernel_rfl
@[go_sem] theorem tflat_45 : tflat Try.prog 45 = false := by kernel_rfl
@[go_sem] theorem tbool_45 : tbool Try.prog 45 = false := by kernel_rfl
@[go_sem] theorem tc_48 : Try.prog.cellsOf 48 = 3 := by kernel_rfl
@[go_sem] theorem tl_48 : tl Try.prog 48 = some (true, 3) := by kernel_rfl
@[go_sem] theorem tp_48 : tp Try.prog 48 = some [(0, 1), (1, 1), (2, 1)] := by kernel_rfl
@[go_sem] theorem tf_48_0 : tf Try.prog 48 0 = some (0, false, 1) := by kernel_rfl
@[go_sem] theorem tf_48_1 : tf Try.prog 48 1 = some (1, false, 1) := by kernel_rfl
@[go_sem] theorem tf_48_2 : tf Try.prog 48 2 = some (2, false, 1) := by kernel_rfl
@[go_sem] theorem teq_48 : teq Try.prog 48 = some [0, 1, 0] := by kernel_rfl
@[go_sem] theorem tz_48 : tz Try.prog 48 = some [.int .i64 0, .bool false, .int .i64 0] := by kernel_rfl
@[go_sem] theorem tflat_48 : tflat Try.prog 48 = true := by kernel_rfl
@[go_sem] theorem tbool_48 : tbool Try.prog 48 = false := by kernel_rfl
@[go_sem] theorem tc_55 : Try.prog.cellsOf 55 = 3 := by kernel_rfl
@[go_sem] theorem tl_55 : tl Try.prog 55 = some (true, 3) := by kernel_rfl
@[go_sem] theorem tp_55 : tp Try.prog 55 = some [(0, 1), (1, 1), (2, 1)] := by kernel_rfl
@[go_sem] theorem tf_55_0 : tf Try.prog 55 0 = some (0, false, 1) := by kernel_rfl
@[go_sem] theorem tf_55_1 : tf Try.prog 55 1 = some (1, false, 1) := by kernel_rfl
@[go_sem] theorem tf_55_2 : tf Try.prog 55 2 = some (2, false, 1) := by kernel_rfl
@[go_sem] theorem tz_55 : tz Try.prog 55 = some [.int .i64 0, .int .i64 0, .int .i64 0] := by kernel_rfl
@[go_sem] theorem tflat_55 : tflat Try.prog 55 = true := by kernel_rfl
@[go_sem] theorem tbool_55 : tbool Try.prog 55 = false := by kernel_rfl
@[go_sem] theorem tc_56 : Try.prog.cellsOf 56 = 3 := by kernel_rfl
@[go_sem] theorem tl_56 : tl Try.prog 56 = some (true, 3) := by kernel_rfl
@[go_sem] theorem tp_56 : tp Try.prog 56 = some [(0, 1), (1, 1), (2, 1)] := by kernel_rfl
@[go_sem] theorem tf_56_0 : tf Try.prog 56 0 = some (0, false, 1) := by kernel_rfl
@[go_sem] theorem tf_56_1 : tf Try.prog 56 1 = some (1, false, 1) := by kernel_rfl
@[go_sem] theorem tf_56_2 : tf Try.prog 56 2 = some (2, false, 1) := by kernel_rfl
@[go_sem] theorem teq_56 : teq Try.prog 56 = some [0, 0, 0] := by kernel_rfl
@[go_sem] theorem tz_56 : tz Try.prog 56 = some [.int .i64 0, .int .i64 0, .int .i64 0] := by kernel_rfl
@[go_sem] theorem tflat_56 : tflat Try.prog 56 = true := by kernel_rfl
@[go_sem] theorem tbool_56 : tbool Try.prog 56 = false := by kernel_rfl
@[go_sem] theorem tc_57 : Try.prog.cellsOf 57 = 2 := by kernel_rfl
@[go_sem] theorem tl_57 : tl Try.prog 57 = some (true, 2) := by kernel_rfl
@[go_sem] theorem tp_57 : tp Try.prog 57 = some [(0, 1), (1, 1)] := by kernel_rfl
@[go_sem] theorem tf_57_0 : tf Try.prog 57 0 = some (0, false, 1) := by kernel_rfl
@[go_sem] theorem tf_57_1 : tf Try.prog 57 1 = some (1, false, 1) := by kernel_rfl
@[go_sem] theorem tz_57 : tz Try.prog 57 = some [.bool false, .int .i64 0] := by kernel_rfl
@[go_sem] theorem tflat_57 : tflat Try.prog 57 = true := by kernel_rfl
@[go_sem] theorem tbool_57 : tbool Try.prog 57 = false := by kernel_rfl
@[go_sem] theorem tc_58 : Try.prog.cellsOf 58 = 2 := by kernel_rfl
@[go_sem] theorem tl_58 : tl Try.prog 58 = some (true, 2) := by kernel_rfl
@[go_sem] theorem tp_58 : tp Try.prog 58 = some [(0, 1), (1, 1)] := by kernel_rfl
@[go_sem] theorem tf_58_0 : tf Try.prog 58 0 = some (0, false, 1) := by kernel_rfl
@[go_sem] theorem tf_58_1 : tf Try.prog 58 1 = some (1, false, 1) := by kernel_rfl
@[go_sem] theorem teq_58 : teq Try.prog 58 = some [1, 0] := by kernel_rfl
@[go_sem] theorem tz_58 : tz Try.prog 58 = some [.bool false, .int .i64 0] := by kernel_rfl
@[go_sem] theorem tflat_58 : tflat Try.prog 58 = true := by kernel_rfl
@[go_sem] theorem tbool_58 : tbool Try.prog 58 = false := by kernel_rfl
@[go_sem] theorem tc_61 : Try.prog.cellsOf 61 = 3 := by kernel_rfl
@[go_sem] theorem tl_61 : tl Try.prog 61 = some (true, 3) := by kernel_rfl
@[go_sem] theorem tp_61 : tp Try.prog 61 = some [(0, 1), (1, 1), (2, 1)] := by kernel_rfl
@[go_sem] theorem tf_61_0 : tf Try.prog 61 0 = some (0, false, 1) := by kernel_rfl
@[go_sem] theorem tf_61_1 : tf Try.prog 61 1 = some (1, false, 1) := by kernel_rfl
@[go_sem] theorem tf_61_2 : tf Try.prog 61 2 = some (2, false, 1) := by kernel_rfl
@[go_sem] theorem teq_61 : teq Try.prog 61 = some [0, 0, 0] := by kernel_rfl
@[go_sem] theorem tz_61 : tz Try.prog 61 = some [.int .i64 0, .int .i64 0, .int .i64 0] := by kernel_rfl
@[go_sem] theorem tflat_61 : tflat Try.prog 61 = true := by kernel_rfl
@[go_sem] theorem tbool_61 : tbool Try.prog 61 = false := by kernel_rfl
@[go_sem] theorem tc_65 : Try.prog.cellsOf 65 = 1 := by kernel_rfl
@[go_sem] theorem tl_65 : tl Try.prog 65 = some (false, 1) := by kernel_rfl
@[go_sem] theorem te_65 : te Try.prog 65 = some (56, 3, 24) := by kernel_rfl
@[go_sem] theorem tz_65 : tz Try.prog 65 = some [.sl 3 []] := by kernel_rfl
@[go_sem] theorem tflat_65 : tflat Try.prog 65 = false := by kernel_rfl
@[go_sem] theorem tbool_65 : tbool Try.prog 65 = false := by kernel_rfl
@[go_sem] theorem tc_67 : Try.prog.cellsOf 67 = 1 := by kernel_rfl
@[go_sem] theorem tl_67 : tl Try.prog 67 = some (false, 1) := by kernel_rfl
@[go_sem] theorem te_67 : te Try.prog 67 = some (58, 2, 16) := by kernel_rfl
@[go_sem] theorem tz_67 : tz Try.prog 67 = some [.sl 2 []] := by kernel_rfl
@[go_sem] theorem tflat_67 : tflat Try.prog 67 = false := by kernel_rfl
@[go_sem] theorem tbool_67 : tbool Try.prog 67 = false := by kernel_rfl
@[go_sem] theorem tc_70 : Try.prog.cellsOf 70 = 1 := by kernel_rfl
@[go_sem] theorem tl_70 : tl Try.prog 70 = some (false, 1) := by kernel_rfl
@[go_sem] theorem te_70 : te Try.prog 70 = some (61, 3, 24) := by kernel_rfl
@[go_sem] theorem tz_70 : tz Try.prog 70 = some [.sl 3 []] := by kernel_rfl
@[go_sem] theorem tflat_70 : tflat Try.prog 70 = false := by kernel_rfl
@[go_sem] theorem tbool_70 : tbool Try.prog 70 = false := by kernel_rfl
@[go_sem] theorem tc_77 : Try.prog.cellsOf 77 = 2 := by kernel_rfl
@[go_sem] theorem tl_77 : tl Try.prog 77 = some (true, 2) := by kernel_rfl
@[go_sem] theorem tp_77 : tp Try.prog 77 = some [(0, 1), (1, 1)] := by kernel_rfl
@[go_sem] theorem tf_77_0 : tf Try.prog 77 0 = some (0, false, 1) := by kernel_rfl
@[go_sem] theorem tf_77_1 : tf Try.prog 77 1 = some (1, false, 1) := by kernel_rfl
@[go_sem] theorem tz_77 : tz Try.prog 77 = some [.bool false, .sl 3 []] := by kernel_rfl
@[go_sem] theorem tflat_77 : tflat Try.prog 77 = false := by kernel_rfl
@[go_sem] theorem tbool_77 : tbool Try.prog 77 = false := by kernel_rfl
@[go_sem] theorem tc_78 : Try.prog.cellsOf 78 = 2 := by kernel_rfl
@[go_sem] theorem tl_78 : tl Try.prog 78 = some (true, 2) := by kernel_rfl
@[go_sem] theorem tp_78 : tp Try.prog 78 = some [(0, 1), (1, 1)] := by kernel_rfl
@[go_sem] theorem tf_78_0 : tf Try.prog 78 0 = some (0, false, 1) := by kernel_rfl
@[go_sem] theorem tf_78_1 : tf Try.prog 78 1 = some (1, false, 1) := by kernel_rfl
@[go_sem] theorem tz_78 : tz Try.prog 78 = some [.bool false, .sl 3 []] := by kernel_rfl
@[go_sem] theorem tflat_78 : tflat Try.prog 78 = false := by kernel_rfl
@[go_sem] theorem tbool_78 : tbool Try.prog 78 = false := by kernel_rfl
@[go_sem] theorem tc_81 : Try.prog.cellsOf 81 = 2 := by kernel_rfl
@[go_sem] theorem tl_81 : tl Try.prog 81 = some (true, 2) := by kernel_rfl
@[go_sem] theorem tp_81 : tp Try.prog 81 = some [(0, 1), (1, 1)] := by kernel_rfl
@[go_sem] theorem tf_81_0 : tf Try.prog 81 0 = some (0, false, 1) := by kernel_rfl
@[go_sem] theorem tf_81_1 : tf Try.prog 81 1 = some (1, false, 1) := by kernel_rfl
@[go_sem] theorem tz_81 : tz Try.prog 81 = some [.bool false, .sl 3 []] := by kernel_rfl
@[go_sem] theorem tflat_81 : tflat Try.prog 81 = false := by kernel_rfl
@[go_sem] theorem tbool_81 : tbool Try.prog 81 = false := by kernel_rfl
@[go_sem] theorem tc_82 : Try.prog.cellsOf 82 = 2 := by kernel_rfl
@[go_sem] theorem tl_82 : tl Try.prog 82 = some (true, 2) := by kernel_rfl
@[go_sem] theorem tp_82 : tp Try.prog 82 = some [(0, 1), (1, 1)] := by kernel_rfl
@[go_sem] theorem tf_82_0 : tf Try.prog 82 0 = some (0, false, 1) := by kernel_rfl
@[go_sem] theorem tf_82_1 : tf Try.prog 82 1 = some (1, false, 1) := by kernel_rfl
@[go_sem] theorem tz_82 : tz Try.prog 82 = some [.bool false, .sl 3 []] := by kernel_rfl
@[go_sem] theorem tflat_82 : tflat Try.prog 82 = false := by kernel_rfl
@[go_sem] theorem tbool_82 : tbool Try.prog 82 = false := by kernel_rfl
@[go_sem] theorem tc_86 : Try.prog.cellsOf 86 = 1 := by kernel_rfl
@[go_sem] theorem tl_86 : tl Try.prog 86 = some (false, 1) := by kernel_rfl
@[go_sem] theorem te_86 : te Try.prog 86 = some (133, 6, 80) := by kernel_rfl
@[go_sem] theorem tz_86 : tz Try.prog 86 = some [.sl 6 []] := by kernel_rfl
@[go_sem] theorem tflat_86 : tflat Try.prog 86 = false := by kernel_rfl
@[go_sem] theorem tbool_86 : tbool Try.prog 86 = false := by kernel_rfl
@[go_sem] theorem tc_89 : Try.prog.cellsOf 89 = 1 := by kernel_rfl
@[go_sem] theorem tl_89 : tl Try.prog 89 = some (false, 1) := by kernel_rfl
@[go_sem] theorem te_89 : te Try.prog 89 = some (135, 6, 80) := by kernel_rfl
@[go_sem] theorem tz_89 : tz Try.prog 89 = some [.sl 6 []] := by kernel_rfl
@[go_sem] theorem tflat_89 : tflat Try.prog 89 = false := by kernel_rfl
@[go_sem] theorem tbool_89 : tbool Try.prog 89 = false := by kernel_rfl
@[go_sem] theorem tc_98 : Try.prog.cellsOf 98 = 2 := by kernel_rfl
@[go_sem] theorem tl_98 : tl Try.prog 98 = some (true, 2) := by kernel_rfl
@[go_sem] theorem tp_98 : tp Try.prog 98 = some [(0, 1), (1, 1)] := by kernel_rfl
@[go_sem] theorem tf_98_0 : tf Try.prog 98 0 = some (0, false, 1) := by kernel_rfl
@[go_sem] theorem tf_98_1 : tf Try.prog 98 1 = some (1, false, 1) := by kernel_rfl
@[go_sem] theorem tz_98 : tz Try.prog 98 = some [.int .i64 0, .int .i64 0] := by kernel_rfl
@[go_sem] theorem tflat_98 : tflat Try.prog 98 = true := by kernel_rfl
@[go_sem] theorem tbool_98 : tbool Try.prog 98 = false := by kernel_rfl
@[go_sem] theorem tc_99 : Try.prog.cellsOf 99 = 2 := by kernel_rfl
@[go_sem] theorem tl_99 : tl Try.prog 99 = some (true, 2) := by kernel_rfl
@[go_sem] theorem tp_99 : tp Try.prog 99 = some [(0, 1), (1, 1)] := by kernel_rfl
@[go_sem] theorem tf_99_0 : tf Try.prog 99 0 = some (0, false, 1) := by kernel_rfl
@[go_sem] theorem tf_99_1 : tf Try.prog 99 1 = some (1, false, 1) := by kernel_rfl
@[go_sem] theorem teq_99 : teq Try.prog 99 = some [0, 0] := by kernel_rfl
@[go_sem] theorem tz_99 : tz Try.prog 99 = some [.int .i64 0, .int .i64 0] := by kernel_rfl
@[go_sem] theorem tflat_99 : tflat Try.prog 99 = true := by kernel_rfl
@[go_sem] theorem tbool_99 : tbool Try.prog 99 = false := by kernel_rfl
@[go_sem] theorem tc_101 : Try.prog.cellsOf 101 = 2 := by kernel_rfl
@[go_sem] theorem tl_101 : tl Try.prog 101 = some (true, 2) := by kernel_rfl
@[go_sem] theorem tp_101 : tp Try.prog 101 = some [(0, 1), (1, 1)] := by kernel_rfl
@[go_sem] theorem tf_101_0 : tf Try.prog 101 0 = some (0, false, 1) := by kernel_rfl
@[go_sem] theorem tf_101_1 : tf Try.prog 101 1 = some (1, false, 1) := by kernel_rfl
@[go_sem] theorem teq_101 : teq Try.prog 101 = some [0, 0] := by kernel_rfl
@[go_sem] theorem tz_101 : tz Try.prog 101 = some [.int .i64 0, .int .i64 0] := by kernel_rfl
@[go_sem] theorem tflat_101 : tflat Try.prog 101 = true := by kernel_rfl
@[go_sem] theorem tbool_101 : tbool Try.prog 101 = false := by kernel_rfl
@[go_sem] theorem tc_106 : Try.prog.cellsOf 106 = 2 := by kernel_rfl
@[go_sem] theorem tl_106 : tl Try.prog 106 = some (true, 2) := by kernel_rfl
@[go_sem] theorem tp_106 : tp Try.prog 106 = some [(0, 1), (1, 1)] := by kernel_rfl
@[go_sem] theorem tf_106_0 : tf Try.prog 106 0 = some (0, false, 1) := by kernel_rfl
@[go_sem] theorem tf_106_1 : tf Try.prog 106 1 = some (1, false, 1) := by kernel_rfl
@[go_sem] theorem tz_106 : tz Try.prog 106 = some [.int .i64 0, .int .i64 0] := by kernel_rfl
@[go_sem] theorem tflat_106 : tflat Try.prog 106 = true := by kernel_rfl
@[go_sem] theorem tbool_106 : tbool Try.prog 106 = false := by kernel_rfl
@[go_sem] theorem tc_107 : Try.prog.cellsOf 107 = 2 := by kernel_rfl
@[go_sem] theorem tl_107 : tl Try.prog 107 = some (true, 2) := by kernel_rfl
@[go_sem] theorem tp_107 : tp Try.prog 107 = some [(0, 1), (1, 1)] := by kernel_rfl
@[go_sem] theorem tf_107_0 : tf Try.prog 107 0 = some (0, false, 1) := by kernel_rfl
@[go_sem] theorem tf_107_1 : tf Try.prog 107 1 = some (1, false, 1) := by kernel_rfl
@[go_sem] theorem teq_107 : teq Try.prog 107 = some [0, 0] := by kernel_rfl
@[go_sem] theorem tz_107 : tz Try.prog 107 = some [.int .i64 0, .int .i64 0] := by kernel_rfl
@[go_sem] theorem tflat_107 : tflat Try.prog 107 = true := by kernel_rfl
@[go_sem] theorem tbool_107 : tbool Try.prog 107 = false := by kernel_rfl
@[go_sem] theorem tc_109 : Try.prog.cellsOf 109 = 2 := by kernel_rfl
@[go_sem] theorem tl_109 : tl Try.prog 109 = some (true, 2) := by kernel_rfl
@[go_sem] theorem tp_109 : tp Try.prog 109 = some [(0, 1), (1, 1)] := by kernel_rfl
@[go_sem] theorem tf_109_0 : tf Try.prog 109 0 = some (0, false, 1) := by kernel_rfl
@[go_sem] theorem tf_109_1 : tf Try.prog 109 1 = some (1, false, 1) := by kernel_rfl
@[go_sem] theorem teq_109 : teq Try.prog 109 = some [0, 0] := by kernel_rfl
@[go_sem] theorem tz_109 : tz Try.prog 109 = some [.int .i64 0, .int .i64 0] := by kernel_rfl
@[go_sem] theorem tflat_109 : tflat Try.prog 109 = true := by kernel_rfl
@[go_sem] theorem tbool_109 : tbool Try.prog 109 = false := by kernel_rfl
@[go_sem] theorem tc_131 : Try.prog.cellsOf 131 = 1 := by kernel_rfl
@[go_sem] theorem tl_131 : tl Try.prog 131 = some (false, 1) := by kernel_rfl
@[go_sem] theorem te_131 : te Try.prog 131 = some (152, 2, 16) := by kernel_rfl
@[go_sem] theorem tz_131 : tz Try.prog 131 = some [.sl 2 []] := by kernel_rfl
@[go_sem] theorem tflat_131 : tflat Try.prog 131 = false := by kernel_rfl
@[go_sem] theorem tbool_131 : tbool Try.prog 131 = false := by kernel_rfl
@[go_sem] theorem tc_132 : Try.prog.cellsOf 132 = 6 := by kernel_rfl
@[go_sem] theorem tl_132 : tl Try.prog 132 = some (true, 6) := by kernel_rfl
@[go_sem] theorem tp_132 : tp Try.prog 132 = some [(0, 1), (1, 1), (2, 1), (3, 1), (4, 1), (5, 1)] := by kernel_rfl
@[go_sem] theorem tf_132_0 : tf Try.prog 132 0 = some (0, false, 1) := by kernel_rfl
@[go_sem] theorem tf_132_1 : tf Try.prog 132 1 = some (1, false, 1) := by kernel_rfl
@[go_sem] theorem tf_132_2 : tf Try.prog 132 2 = some (2, false, 1) := by kernel_rfl
@[go_sem] theorem tf_132_3 : tf Try.prog 132 3 = some (3, false, 1) := by kernel_rfl
@[go_sem] theorem tf_132_4 : tf Try.prog 132 4 = some (4, false, 1) := by kernel_rfl
@[go_sem] theorem tf_132_5 : tf Try.prog 132 5 = some (5, false, 1) := by kernel_rfl
@[go_sem] theorem tz_132 : tz Try.prog 132 = some [.int .i64 0, .int .i64 0, .int .i64 0, .int .i64 0, .sl 3 [], .sl 2 []] := by kernel_rfl
@[go_sem] theorem tflat_132 : tflat Try.prog 132 = false := by kernel_rfl
@[go_sem] theorem tbool_132 : tbool Try.prog 132 = false := by kernel_rfl
@[go_sem] theorem tc_133 : Try.prog.cellsOf 133 = 6 := by kernel_rfl
@[go_sem] theorem tl_133 : tl Try.prog 133 = some (true, 6) := by kernel_rfl
@[go_sem] theorem tp_133 : tp Try.prog 133 = some [(0, 1), (1, 1), (2, 1), (3, 1), (4, 1), (5, 1)] := by kernel_rfl
@[go_sem] theorem tf_133_0 : tf Try.prog 133 0 = some (0, false, 1) := by kernel_rfl
@[go_sem] theorem tf_133_1 : tf Try.prog 133 1 = some (1, false, 1) := by kernel_rfl
@[go_sem] theorem tf_133_2 : tf Try.prog 133 2 = some (2, false, 1) := by kernel_rfl
@[go_sem] theorem tf_133_3 : tf Try.prog 133 3 = some (3, false, 1) := by kernel_rfl
@[go_sem] theorem tf_133_4 : tf Try.prog 133 4 = some (4, false, 1) := by kernel_rfl
@[go_sem] theorem tf_133_5 : tf Try.prog 133 5 = some (5, false, 1) := by kernel_rfl
@[go_sem] theorem tz_133 : tz Try.prog 133 = some [.int .i64 0, .int .i64 0, .int .i64 0, .int .i64 0, .sl 3 [], .sl 2 []] := by kernel_rfl
@[go_sem] theorem tflat_133 : tflat Try.prog 133 = false := by kernel_rfl
@[go_sem] theorem tbool_133 : tbool Try.prog 133 = false := by kernel_rfl
@[go_sem] theorem tc_134 : Try.prog.cellsOf 134 = 6 := by kernel_rfl
@[go_sem] theorem tl_134 : tl Try.prog 134 = some (true, 6) := by kernel_rfl
@[go_sem] theorem tp_134 : tp Try.prog 134 = some [(0, 1), (1, 1), (2, 1), (3, 1), (4, 1), (5, 1)] := by kernel_rfl
@[go_sem] theorem tf_134_0 : tf Try.prog 134 0 = some (0, false, 1) := by kernel_rfl
@[go_sem] theorem tf_134_1 : tf Try.prog 134 1 = some (1, false, 1) := by kernel_rfl
@[go_sem] theorem tf_134_2 : tf Try.prog 134 2 = some (2, false, 1) := by kernel_rfl
@[go_sem] theorem tf_134_3 : tf Try.prog 134 3 = some (3, false, 1) := by kernel_rfl
@[go_sem] theorem tf_134_4 : tf Try.prog 134 4 = some (4, false, 1) := by kernel_rfl
@[go_sem] theorem tf_134_5 : tf Try.prog 134 5 = some (5, false, 1) := by kernel_rfl
@[go_sem] theorem tz_134 : tz Try.prog 134 = some [.int .i64 0, .int .i64 0, .int .i64 0, .int .i64 0, .sl 3 [], .sl 2 []] := by kernel_rfl
@[go_sem] theorem tflat_134 : tflat Try.prog 134 = false := by kernel_rfl
@[go_sem] theorem tbool_134 : tbool Try.prog 134 = false := by kernel_rfl
@[go_sem] theorem tc_135 : Try.prog.cellsOf 135 = 6 := by kernel_rfl
@[go_sem] theorem tl_135 : tl Try.prog 135 = some (true, 6) := by kernel_rfl
@[go_sem] theorem tp_135 : tp Try.prog 135 = some [(0, 1), (1, 1), (2, 1), (3, 1), (4, 1), (5, 1)] := by kernel_rfl
@[go_sem] theorem tf_135_0 : tf Try.prog 135 0 = some (0, false, 1) := by kernel_rfl
@[go_sem] theorem tf_135_1 : tf Try.prog 135 1 = some (1, false, 1) := by kernel_rfl
@[go_sem] theorem tf_135_2 : tf Try.prog 135 2 = some (2, false, 1) := by kernel_rfl
@[go_sem] theorem tf_135_3 : tf Try.prog 135 3 = some (3, false, 1) := by kernel_rfl
@[go_sem] theorem tf_135_4 : tf Try.prog 135 4 = some (4, false, 1) := by kernel_rfl
@[go_sem] theorem tf_135_5 : tf Try.prog 135 5 = some (5, false, 1) := by kernel_rfl
@[go_sem] theorem tz_135 : tz Try.prog 135 = some [.int .i64 0, .int .i64 0, .int .i64 0, .int .i64 0, .sl 3 [], .sl 2 []] := by kernel_rfl
@[go_sem] theorem tflat_135 : tflat Try.prog 135 = false := by kernel_rfl
@[go_sem] theorem tbool_135 : tbool Try.prog 135 = false := by kernel_rfl
@[go_sem] theorem tc_140 : Try.prog.cellsOf 140 = 1 := by kernel_rfl
@[go_sem] theorem tl_140 : tl Try.prog 140 = some (false, 1) := by kernel_rfl
@[go_sem] theorem te_140 : te Try.prog 140 = some (3, 1, 8) := by kernel_rfl
@[go_sem] theorem tz_140 : tz Try.prog 140 = some [.sl 1 []] := by kernel_rfl
@[go_sem] theorem tflat_140 : tflat Try.prog 140 = false := by kernel_rfl
@[go_sem] theorem tbool_140 : tbool Try.prog 140 = false := by kernel_rfl
@[go_sem] theorem tc_152 : Try.prog.cellsOf 152 = 2 := by kernel_rfl
@[go_sem] theorem tl_152 : tl Try.prog 152 = some (true, 2) := by kernel_rfl
@[go_sem] theorem tp_152 : tp Try.prog 152 = some [(0, 1), (1, 1)] := by kernel_rfl
@[go_sem] theorem tf_152_0 : tf Try.prog 152 0 = some (0, false, 1) := by kernel_rfl
@[go_sem] theorem tf_152_1 : tf Try.prog 152 1 = some (1, false, 1) := by kernel_rfl
@[go_sem] theorem teq_152 : teq Try.prog 152 = some [1, 0] := by kernel_rfl
@[go_sem] theorem tz_152 : tz Try.prog 152 = some [.bool false, .int .i64 0] := by kernel_rfl
@[go_sem] theorem tflat_152 : tflat Try.prog 152 = true := by kernel_rfl
@[go_sem] theorem tbool_152 : tbool Try.prog 152 = false := by kernel_rfl
@[go_sem] theorem tc_157 : Try.prog.cellsOf 157 = 4 := by kernel_rfl
@[go_sem] theorem tl_157 : tl Try.prog 157 = some (true, 4) := by kernel_rfl
@[go_sem] theorem tp_157 : tp Try.prog 157 = some [(0, 1), (1, 1), (2, 1), (3, 1)] := by kernel_rfl
@[go_sem] theorem tf_157_0 : tf Try.prog 157 0 = some (0, false, 1) := by kernel_rfl
@[go_sem] theorem tf_157_1 : tf Try.prog 157 1 = some (1, false, 1) := by kernel_rfl
@[go_sem] theorem tf_157_2 : tf Try.prog 157 2 = some (2, false, 1) := by kernel_rfl
@[go_sem] theorem tf_157_3 : tf Try.prog 157 3 = some (3, false, 1) := by kernel_rfl
@[go_sem] theorem tbool_157 : tbool Try.prog 157 = false := by kernel_rfl
@[go_sem] theorem tc_158 : Try.prog.cellsOf 158 = 4 := by kernel_rfl
@[go_sem] theorem tl_158 : tl Try.prog 158 = some (true, 4) := by kernel_rfl
@[go_sem] theorem tp_158 : tp Try.prog 158 = some [(0, 1), (1, 1), (2, 1), (3, 1)] := by kernel_rfl
@[go_sem] theorem tf_158_0 : tf Try.prog 158 0 = some (0, false, 1) := by kernel_rfl
@[go_sem] theorem tf_158_1 : tf Try.prog 158 1 = some (1, false, 1) := by kernel_rfl
@[go_sem] theorem tf_158_2 : tf Try.prog 158 2 = some (2, false, 1) := by kernel_rfl
@[go_sem] theorem tf_158_3 : tf Try.prog 158 3 = some (3, false, 1) := by kernel_rfl
@[go_sem] theorem tbool_158 : tbool Try.prog 158 = false := by kernel_rfl
@[go_sem] theorem tc_159 : Try.prog.cellsOf 159 = 0 := by kernel_rfl
@[go_sem] theorem tl_159 : tl Try.prog 159 = some (true, 0) := by kernel_rfl
@[go_sem] theorem ta_159 : ta Try.prog 159 = some (0, 16, 1) := by kernel_rfl
@[go_sem] theorem tp_159 : tp Try.prog 159 = some [] := by kernel_rfl
@[go_sem] theorem tbool_159 : tbool Try.prog 159 = false := by kernel_rfl
@[go_sem] theorem tc_160 : Try.prog.cellsOf 160 = 0 := by kernel_rfl
@[go_sem] theorem tl_160 : tl Try.prog 160 = some (true, 0) := by kernel_rfl
@[go_sem] theorem tp_160 : tp Try.prog 160 = some [(0, 0)] := by kernel_rfl
@[go_sem] theorem tbool_160 : tbool Try.prog 160 = false := by kernel_rfl
@[go_sem] theorem tc_161 : Try.prog.cellsOf 161 = 0 := by kernel_rfl
@[go_sem] theorem tl_161 : tl Try.prog 161 = some (true, 0) := by kernel_rfl
@[go_sem] theorem tp_161 : tp Try.prog 161 = some [(0, 0)] := by kernel_rfl
@[go_sem] theorem tbool_161 : tbool Try.prog 161 = false := by kernel_rfl
@[go_sem] theorem tc_163 : Try.prog.cellsOf 163 = 1 := by kernel_rfl
@[go_sem] theorem tl_163 : tl Try.prog 163 = some (false, 1) := by kernel_rfl
@[go_sem] theorem tz_163 : tz Try.prog 163 = some [.int .u32 0] := by kernel_rfl
@[go_sem] theorem tflat_163 : tflat Try.prog 163 = true := by kernel_rfl
@[go_sem] theorem tbool_163 : tbool Try.prog 163 = false := by kernel_rfl
@[go_sem] theorem tkind_163 : tkind Try.prog 163 = some .u32 := by kernel_rfl
@[go_sem] theorem tc_164 : Try.prog.cellsOf 164 = 1 := by kernel_rfl
@[go_sem] theorem tl_164 : tl Try.prog 164 = some (false, 1) := by kernel_rfl
@[go_sem] theorem tz_164 : tz Try.prog 164 = some [.int .u8 0] := by kernel_rfl
@[go_sem] theorem tflat_164 : tflat Try.prog 164 = true := by kernel_rfl
@[go_sem] theorem tbool_164 : tbool Try.prog 164 = false := by kernel_rfl
@[go_sem] theorem tkind_164 : tkind Try.prog 164 = some .u8 := by kernel_rfl
@[go_sem] theorem tc_165 : Try.prog.cellsOf 165 = 1 := by kernel_rfl
@[go_sem] theorem tl_165 : tl Try.prog 165 = some (false, 1) := by kernel_rfl
@[go_sem] theorem tz_165 : tz Try.prog 165 = some [.int .u8 0] := by kernel_rfl
@[go_sem] theorem tflat_165 : tflat Try.prog 165 = true := by kernel_rfl
@[go_sem] theorem tbool_165 : tbool Try.prog 165 = false := by kernel_rfl
@[go_sem] theorem tkind_165 : tkind Try.prog 165 = some .u8 := by kernel_rfl
@[go_sem] theorem tc_167 : Try.prog.cellsOf 167 = 1 := by kernel_rfl
@[go_sem] theorem tl_167 : tl Try.prog 167 = some (false, 1) := by kernel_rfl
@[go_sem] theorem tbool_167 : tbool Try.prog 167 = false := by kernel_rfl
@[go_sem] theorem tc_168 : Try.prog.cellsOf 168 = 1 := by kernel_rfl
@[go_sem] theorem tl_168 : tl Try.prog 168 = some (false, 1) := by kernel_rfl
@[go_sem] theorem tz_168 : tz Try.prog 168 = some [.int .i32 0] := by kernel_rfl
@[go_sem] theorem tflat_168 : tflat Try.prog 168 = true := by kernel_rfl
@[go_sem] theorem tbool_168 : tbool Try.prog 168 = false := by kernel_rfl
@[go_sem] theorem tkind_168 : tkind Try.prog 168 = some .i32 := by kernel_rfl
@[go_sem] theorem tc_169 : Try.prog.cellsOf 169 = 1 := by kernel_rfl
@[go_sem] theorem tl_169 : tl Try.prog 169 = some (false, 1) := by kernel_rfl
@[go_sem] theorem tz_169 : tz Try.prog 169 = some [.int .i32 0] := by kernel_rfl
@[go_sem] theorem tflat_169 : tflat Try.prog 169 = true := by kernel_rfl
@[go_sem] theorem tbool_169 : tbool Try.prog 169 = false := by kernel_rfl
@[go_sem] theorem tkind_169 : tkind Try.prog 169 = some .i32 := by kernel_rfl
@[go_sem] theorem tc_170 : Try.prog.cellsOf 170 = 11 := by kernel_rfl
@[go_sem] theorem tl_170 : tl Try.prog 170 = some (true, 11) := by kernel_rfl
@[go_sem] theorem tf_170_0 : tf Try.prog 170 0 = some (0, false, 1) := by kernel_rfl
@[go_sem] theorem tf_170_1 : tf Try.prog 170 1 = some (1, false, 1) := by kernel_rfl
@[go_sem] theorem tf_170_2 : tf Try.prog 170 2 = some (2, false, 1) := by kernel_rfl
@[go_sem] theorem tf_170_3 : tf Try.prog 170 3 = some (3, false, 1) := by kernel_rfl
@[go_sem] theorem tf_170_4 : tf Try.prog 170 4 = some (4, false, 1) := by kernel_rfl
@[go_sem] theorem tf_170_5 : tf Try.prog 170 5 = some (5, false, 1) := by kernel_rfl
@[go_sem] theorem tf_170_6 : tf Try.prog 170 6 = some (6, false, 1) := by kernel_rfl
@[go_sem] theorem tf_170_8 : tf Try.prog 170 8 = some (8, false, 1) := by kernel_rfl
@[go_sem] theorem tf_170_9 : tf Try.prog 170 9 = some (9, false, 1) := by kernel_rfl
@[go_sem] theorem tf_170_10 : tf Try.prog 170 10 = some (10, false, 1) := by kernel_rfl
@[go_sem] theorem tbool_170 : tbool Try.prog 170 = false := by kernel_rfl
@[go_sem] theorem tc_171 : Try.prog.cellsOf 171 = 11 := by kernel_rfl
@[go_sem] theorem tl_171 : tl Try.prog 171 = some (true, 11) := by kernel_rfl
@[go_sem] theorem tf_171_0 : tf Try.prog 171 0 = some (0, false, 1) := by kernel_rfl
@[go_sem] theorem tf_171_1 : tf Try.prog 171 1 = some (1, false, 1) := by kernel_rfl
@[go_sem] theorem tf_171_2 : tf Try.prog 171 2 = some (2, false, 1) := by kernel_rfl
@[go_sem] theorem tf_171_3 : tf Try.prog 171 3 = some (3, false, 1) := by kernel_rfl
@[go_sem] theorem tf_171_4 : tf Try.prog 171 4 = some (4, false, 1) := by kernel_rfl
@[go_sem] theorem tf_171_5 : tf Try.prog 171 5 = some (5, false, 1) := by kernel_rfl
@[go_sem] theorem tf_171_6 : tf Try.prog 171 6 = some (6, false, 1) := by kernel_rfl
@[go_sem] theorem tf_171_8 : tf Try.prog 171 8 = some (8, false, 1) := by kernel_rfl
@[go_sem] theorem tf_171_9 : tf Try.prog 171 9 = some (9, false, 1) := by kernel_rfl
@[go_sem] theorem tf_171_10 : tf Try.prog 171 10 = some (10, false, 1) := by kernel_rfl
@[go_sem] theorem tbool_171 : tbool Try.prog 171 = false := by kernel_rfl
theorem e2 : enters Try.prog 2 = true := by kernel_rfl
theorem e3 : enters Try.prog 3 = true := by kernel_rfl
theorem e4 : enters Try.prog 4 = true := by kernel_rfl
theorem e5 : enters Try.prog 5 = true := by kernel_rfl
theorem e6 : enters Try.prog 6 = true := by kernel_rfl
theorem e7 : enters Try.prog 7 = true := by kernel_rfl
theorem e8 : enters Try.prog 8 = true := by kernel_rfl
theorem e9 : enters Try.prog 9 = true := by kernel_rfl
theorem e10 : enters Try.prog 10 = true := by kernel_rfl
theorem e11 : enters Try.prog 11 = true := by kernel_rfl
theorem e12 : enters Try.prog 12 = true := by kernel_rfl
theorem e13 : enters Try.prog 13 = true := by kernel_rfl
theorem e14 : enters Try.prog 14 = true := by kernel_rfl
theorem e15 : enters Try.prog 15 = true := by kernel_rfl
theorem e16 : enters Try.prog 16 = true := by kernel_rfl
theorem e17 : enters Try.prog 17 = true := by kernel_rfl
theorem e18 : enters Try.prog 18 = true := by kernel_rfl
theorem e19 : enters Try.prog 19 = true := by kernel_rfl
theorem e20 : enters Try.prog 20 = true := by kernel_rfl
theorem e21 : enters Try.prog 21 = true := by kernel_rfl
theorem e22 : enters Try.prog 22 = true := by kernel_rfl
theorem e23 : enters Try.prog 23 = true := by kernel_rfl
theorem e24 : enters Try.prog 24 = true := by kernel_rfl
theorem e25 : enters Try.prog 25 = true := by kernel_rfl
theorem e26 : enters Try.prog 26 = true := by kernel_rfl
theorem e27 : enters Try.prog 27 = true := by kernel_rfl
theorem e28 : enters Try.prog 28 = true := by kernel_rfl
theorem e29 : enters Try.prog 29 = true := by kernel_rfl
theorem e30 : enters Try.prog 30 = true := by kernel_rfl
theorem e31 : enters Try.prog 31 = true := by kernel_rfl
theorem e32 : enters Try.prog 32 = true := by kernel_rfl
theorem e33 : enters Try.prog 33 = true := by kernel_rfl
theorem e34 : enters Try.prog 34 = true := by kernel_rfl
theorem e35 : enters Try.prog 35 = true := by kernel_rfl
theorem e36 : enters Try.prog 36 = true := by kernel_rfl
theorem e37 : enters Try.prog 37 = true := by kernel_rfl
theorem e38 : enters Try.prog 38 = true := by kernel_rfl
theorem e39 : enters Try.prog 39 = true := by kernel_rfl
theorem e40 : enters Try.prog 40 = true := by kernel_rfl
theorem e41 : enters Try.prog 41 = true := by kernel_rfl
theorem e42 : enters Try.prog 42 = true := by kernel_rfl
theorem e43 : enters Try.prog 43 = true := by kernel_rfl
theorem e44 : enters Try.prog 44 = true := by kernel_rfl
theorem e45 : enters Try.prog 45 = true := by kernel_rfl
theorem e46 : enters Try.prog 46 = true := by kernel_rfl
theorem e47 : enters Try.prog 47 = true := by kernel_rfl
theorem e48 : enters Try.prog 48 = true := by kernel_rfl
theorem e49 : enters Try.prog 49 = true := by kernel_rfl
theorem e50 : enters Try.prog 50 = true := by kernel_rfl
theorem e51 : enters Try.prog 51 = true := by kernel_rfl
theorem e52 : enters Try.prog 52 = true := by kernel_rfl
theorem e53 : enters Try.prog 53 = true := by kernel_rfl
theorem e54 : enters Try.prog 54 = true := by kernel_rfl
theorem e55 : enters Try.prog 55 = true := by kernel_rfl
theorem e56 : enters Try.prog 56 = true := by kernel_rfl
theorem e57 : enters Try.prog 57 = true := by kernel_rfl
theorem e58 : enters Try.prog 58 = true := by kernel_rfl
theorem e59 : enters Try.prog 59 = true := by kernel_rfl
theorem e60 : enters Try.prog 60 = true := by kernel_rfl
theorem e61 : enters Try.prog 61 = true := by kernel_rfl
theorem e62 : enters Try.prog 62 = true := by kernel_rfl
theorem e63 : enters Try.prog 63 = true := by kernel_rfl
theorem e64 : enters Try.prog 64 = true := by kernel_rfl
theorem e65 : enters Try.prog 65 = true := by kernel_rfl
theorem e66 : enters Try.prog 66 = true := by kernel_rfl
theorem e67 : enters Try.prog 67 = true := by kernel_rfl
theorem e68 : enters Try.prog 68 = true := by kernel_rfl
theorem e69 : enters Try.prog 69 = true := by kernel_rfl
theorem e70 : enters Try.prog 70 = true := by kernel_rfl
theorem e71 : enters Try.prog 71 = true := by kernel_rfl
theorem e72 : enters Try.prog 72 = true := by kernel_rfl
theorem e73 : enters Try.prog 73 = true := by kernel_rfl
theorem e74 : enters Try.prog 74 = true := by kernel_rfl
theorem e75 : enters Try.prog 75 = true := by kernel_rfl
theorem e76 : enters Try.prog 76 = true := by kernel_rfl
theorem e77 : enters Try.prog 77 = true := by kernel_rfl
theorem e78 : enters Try.prog 78 = true := by kernel_rfl
theorem e79 : enters Try.prog 79 = true := by kernel_rfl
theorem e80 : enters Try.prog 80 = true := by kernel_rfl
theorem e81 : enters Try.prog 81 = true := by kernel_rfl
theorem e82 : enters Try.prog 82 = true := by kernel_rfl
theorem e83 : enters Try.prog 83 = true := by kernel_rfl
theorem e84 : enters Try.prog 84 = true := by kernel_rfl
theorem e85 : enters Try.prog 85 = true := by kernel_rfl
theorem e86 : enters Try.prog 86 = true := by kernel_rfl
theorem e87 : enters Try.prog 87 = true := by kernel_rfl
theorem e88 : enters Try.prog 88 = true := by kernel_rfl
theorem e89 : enters Try.prog 89 = true := by kernel_rfl
theorem e90 : enters Try.prog 90 = true := by kernel_rfl
theorem e91 : enters Try.prog 91 = true := by kernel_rfl
theorem e92 : enters Try.prog 92 = true := by kernel_rfl
theorem e93 : enters Try.prog 93 = true := by kernel_rfl
theorem e94 : enters Try.prog 94 = true := by kernel_rfl
theorem e95 : enters Try.prog 95 = true := by kernel_rfl
theorem e96 : enters Try.prog 96 = true := by kernel_rfl
theorem e97 : enters Try.prog 97 = true := by kernel_rfl
theorem e98 : enters Try.prog 98 = true := by kernel_rfl
theorem e99 : enters Try.prog 99 = true := by kernel_rfl
theorem e100 : enters Try.prog 100 = true := by kernel_rfl
theorem e101 : enters Try.prog 101 = true := by kernel_rfl
theorem e102 : enters Try.prog 102 = true := by kernel_rfl
theorem e103 : enters Try.prog 103 = true := by kernel_rfl
theorem e104 : enters Try.prog 104 = true := by kernel_rfl
theorem e105 : enters Try.prog 105 = true := by kernel_rfl
theorem e106 : enters Try.prog 106 = true := by kernel_rfl
theorem e107 : enters Try.prog 107 = true := by kernel_rfl
theorem e108 : enters Try.prog 108 = true := by kernel_rfl
theorem e109 : enters Try.prog 109 = true := by kernel_rfl
theorem e110 : enters Try.prog 110 = true := by kernel_rfl
theorem e111 : enters Try.prog 111 = true := by kernel_rfl
theorem e113 : enters Try.prog 113 = true := by kernel_rfl
theorem e115 : enters Try.prog 115 = true := by kernel_rfl
theorem e116 : enters Try.prog 116 = true := by kernel_rfl
theorem e117 : enters Try.prog 117 = true := by kernel_rfl
theorem e118 : enters Try.prog 118 = true := by kernel_rfl
theorem e119 : enters Try.prog 119 = true := by kernel_rfl
theorem e120 : enters Try.prog 120 = true := by kernel_rfl
theorem e121 : enters Try.prog 121 = true := by kernel_rfl
theorem e122 : enters Try.prog 122 = true := by kernel_rfl
theorem e123 : enters Try.prog 123 = true := by kernel_rfl
theorem e124 : enters Try.prog 124 = true := by kernel_rfl
theorem e125 : enters Try.prog 125 = true := by kernel_rfl
theorem e126 : enters Try.prog 126 = true := by kernel_rfl
theorem e127 : enters Try.prog 127 = true := by kernel_rfl
theorem o112 : isOverlaps Try.prog 112 := ⟨Try.f112, 33, 4, _, Try.func112, by kernel_rfl, by kernel_rfl, by kernel_rfl, by kernel_rfl, te_33⟩
theorem o114 : isOverlaps Try.prog 114 := ⟨Try.f114, 45, 4, _, Try.func114, by kernel_rfl, by kernel_rfl, by kernel_rfl, by kernel_rfl, te_45⟩
theorem mixed : Try.prog.follows .mixedOrders = true := by kernel_rfl
end Go.Proofs.Ytkfpkemibnmkoaa.Ty

