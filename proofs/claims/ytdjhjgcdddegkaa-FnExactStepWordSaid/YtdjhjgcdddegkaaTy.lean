/- Facts on the types of the translation, each closed. Written by wip/tools/gen.py. -/
import Derived.Test.YtdjhjgcdddegkaaChecked
import Derived.Test.YtdjhjgcdddegkaaAbsCode
import Derived.KernelRfl
namespace Go.Proofs.Ytdjhjgcdddegkaa.Ty
open Go.Abs Go.Proofs
theorem tc_2 : Try.prog.cellsOf 2 = 1 := by kernel_rfl
theorem tl_2 : tl Try.prog 2 = some (false, 1) := by kernel_rfl
theorem tz_2 : tz Try.prog 2 = some [.int .i64 0] := by kernel_rfl
theorem tflat_2 : tflat Try.prog 2 = true := by kernel_rfl
theorem tbool_2 : tbool Try.prog 2 = false := by kernel_rfl
theorem tkind_2 : tkind Try.prog 2 = some .i64 := by kernel_rfl
theorem tc_3 : Try.prog.cellsOf 3 = 1 := by kernel_rfl
theorem tl_3 : tl Try.prog 3 = some (false, 1) := by kernel_rfl
theorem tz_3 : tz Try.prog 3 = some [.int .i64 0] := by kernel_rfl
theorem tflat_3 : tflat Try.prog 3 = true := by kernel_rfl
theorem tbool_3 : tbool Try.prog 3 = false := by kernel_rfl
theorem tkind_3 : tkind Try.prog 3 = some .i64 := by kernel_rfl
theorem tc_4 : Try.prog.cellsOf 4 = 1 := by kernel_rfl
theorem tl_4 : tl Try.prog 4 = some (false, 1) := by kernel_rfl
theorem tz_4 : tz Try.prog 4 = some [.bool false] := by kernel_rfl
theorem tflat_4 : tflat Try.prog 4 = true := by kernel_rfl
theorem tbool_4 : tbool Try.prog 4 = true := by kernel_rfl
theorem tc_5 : Try.prog.cellsOf 5 = 1 := by kernel_rfl
theorem tl_5 : tl Try.prog 5 = some (false, 1) := by kernel_rfl
theorem tz_5 : tz Try.prog 5 = some [.int .u8 0] := by kernel_rfl
theorem tflat_5 : tflat Try.prog 5 = true := by kernel_rfl
theorem tbool_5 : tbool Try.prog 5 = false := by kernel_rfl
theorem tkind_5 : tkind Try.prog 5 = some .u8 := by kernel_rfl
theorem tc_6 : Try.prog.cellsOf 6 = 1 := by kernel_rfl
theorem tl_6 : tl Try.prog 6 = some (false, 1) := by kernel_rfl
theorem tz_6 : tz Try.prog 6 = some [.int .u8 0] := by kernel_rfl
theorem tflat_6 : tflat Try.prog 6 = true := by kernel_rfl
theorem tbool_6 : tbool Try.prog 6 = false := by kernel_rfl
theorem tkind_6 : tkind Try.prog 6 = some .u8 := by kernel_rfl
theorem tc_7 : Try.prog.cellsOf 7 = 4 := by kernel_rfl
theorem tl_7 : tl Try.prog 7 = some (true, 4) := by kernel_rfl
theorem tp_7 : tp Try.prog 7 = some [(0, 1), (1, 1), (2, 1), (3, 1)] := by kernel_rfl
theorem tf_7_0 : tf Try.prog 7 0 = some (0, false, 1) := by kernel_rfl
theorem tf_7_1 : tf Try.prog 7 1 = some (1, false, 1) := by kernel_rfl
theorem tf_7_2 : tf Try.prog 7 2 = some (2, false, 1) := by kernel_rfl
theorem tf_7_3 : tf Try.prog 7 3 = some (3, false, 1) := by kernel_rfl
theorem tz_7 : tz Try.prog 7 = some [.int .i64 0, .int .i64 0, .bool false, .int .u8 0] := by kernel_rfl
theorem tflat_7 : tflat Try.prog 7 = true := by kernel_rfl
theorem tbool_7 : tbool Try.prog 7 = false := by kernel_rfl
theorem tc_8 : Try.prog.cellsOf 8 = 4 := by kernel_rfl
theorem tl_8 : tl Try.prog 8 = some (true, 4) := by kernel_rfl
theorem tp_8 : tp Try.prog 8 = some [(0, 1), (1, 1), (2, 1), (3, 1)] := by kernel_rfl
theorem tf_8_0 : tf Try.prog 8 0 = some (0, false, 1) := by kernel_rfl
theorem tf_8_1 : tf Try.prog 8 1 = some (1, false, 1) := by kernel_rfl
theorem tf_8_2 : tf Try.prog 8 2 = some (2, false, 1) := by kernel_rfl
theorem tf_8_3 : tf Try.prog 8 3 = some (3, false, 1) := by kernel_rfl
theorem tz_8 : tz Try.prog 8 = some [.int .i64 0, .int .i64 0, .bool false, .int .u8 0] := by kernel_rfl
theorem tflat_8 : tflat Try.prog 8 = true := by kernel_rfl
theorem tbool_8 : tbool Try.prog 8 = false := by kernel_rfl
theorem tc_9 : Try.prog.cellsOf 9 = 1 := by kernel_rfl
theorem tl_9 : tl Try.prog 9 = some (false, 1) := by kernel_rfl
theorem tz_9 : tz Try.prog 9 = some [.str .empty] := by kernel_rfl
theorem tflat_9 : tflat Try.prog 9 = true := by kernel_rfl
theorem tbool_9 : tbool Try.prog 9 = false := by kernel_rfl
theorem tstr_9 : tstr Try.prog 9 = true := by kernel_rfl
theorem tc_10 : Try.prog.cellsOf 10 = 1 := by kernel_rfl
theorem tl_10 : tl Try.prog 10 = some (false, 1) := by kernel_rfl
theorem tz_10 : tz Try.prog 10 = some [.str .empty] := by kernel_rfl
theorem tflat_10 : tflat Try.prog 10 = true := by kernel_rfl
theorem tbool_10 : tbool Try.prog 10 = false := by kernel_rfl
theorem tstr_10 : tstr Try.prog 10 = true := by kernel_rfl
theorem tc_11 : Try.prog.cellsOf 11 = 1 := by kernel_rfl
theorem tl_11 : tl Try.prog 11 = some (false, 1) := by kernel_rfl
theorem tz_11 : tz Try.prog 11 = some [.str .empty] := by kernel_rfl
theorem tflat_11 : tflat Try.prog 11 = true := by kernel_rfl
theorem tbool_11 : tbool Try.prog 11 = false := by kernel_rfl
theorem tstr_11 : tstr Try.prog 11 = true := by kernel_rfl
theorem tc_12 : Try.prog.cellsOf 12 = 1 := by kernel_rfl
theorem tl_12 : tl Try.prog 12 = some (false, 1) := by kernel_rfl
theorem tz_12 : tz Try.prog 12 = some [.int .u64 0] := by kernel_rfl
theorem tflat_12 : tflat Try.prog 12 = true := by kernel_rfl
theorem tbool_12 : tbool Try.prog 12 = false := by kernel_rfl
theorem tkind_12 : tkind Try.prog 12 = some .u64 := by kernel_rfl
theorem tc_13 : Try.prog.cellsOf 13 = 2 := by kernel_rfl
theorem tl_13 : tl Try.prog 13 = some (true, 2) := by kernel_rfl
theorem tp_13 : tp Try.prog 13 = some [(0, 1), (1, 1)] := by kernel_rfl
theorem tf_13_0 : tf Try.prog 13 0 = some (0, false, 1) := by kernel_rfl
theorem tf_13_1 : tf Try.prog 13 1 = some (1, false, 1) := by kernel_rfl
theorem tz_13 : tz Try.prog 13 = some [.str .empty, .int .u64 0] := by kernel_rfl
theorem tflat_13 : tflat Try.prog 13 = true := by kernel_rfl
theorem tbool_13 : tbool Try.prog 13 = false := by kernel_rfl
theorem tc_14 : Try.prog.cellsOf 14 = 2 := by kernel_rfl
theorem tl_14 : tl Try.prog 14 = some (true, 2) := by kernel_rfl
theorem tp_14 : tp Try.prog 14 = some [(0, 1), (1, 1)] := by kernel_rfl
theorem tf_14_0 : tf Try.prog 14 0 = some (0, false, 1) := by kernel_rfl
theorem tf_14_1 : tf Try.prog 14 1 = some (1, false, 1) := by kernel_rfl
theorem tz_14 : tz Try.prog 14 = some [.str .empty, .int .u64 0] := by kernel_rfl
theorem tflat_14 : tflat Try.prog 14 = true := by kernel_rfl
theorem tbool_14 : tbool Try.prog 14 = false := by kernel_rfl
theorem tc_15 : Try.prog.cellsOf 15 = 1 := by kernel_rfl
theorem tl_15 : tl Try.prog 15 = some (false, 1) := by kernel_rfl
theorem tbool_15 : tbool Try.prog 15 = false := by kernel_rfl
theorem tc_16 : Try.prog.cellsOf 16 = 1 := by kernel_rfl
theorem tl_16 : tl Try.prog 16 = some (false, 1) := by kernel_rfl
theorem tbool_16 : tbool Try.prog 16 = false := by kernel_rfl
theorem tc_17 : Try.prog.cellsOf 17 = 1 := by kernel_rfl
theorem tl_17 : tl Try.prog 17 = some (false, 1) := by kernel_rfl
theorem tbool_17 : tbool Try.prog 17 = false := by kernel_rfl
theorem tc_18 : Try.prog.cellsOf 18 = 1 := by kernel_rfl
theorem tl_18 : tl Try.prog 18 = some (true, 1) := by kernel_rfl
theorem tp_18 : tp Try.prog 18 = some [(0, 1)] := by kernel_rfl
theorem tf_18_0 : tf Try.prog 18 0 = some (0, false, 1) := by kernel_rfl
theorem tbool_18 : tbool Try.prog 18 = false := by kernel_rfl
theorem tc_19 : Try.prog.cellsOf 19 = 1 := by kernel_rfl
theorem tl_19 : tl Try.prog 19 = some (true, 1) := by kernel_rfl
theorem tp_19 : tp Try.prog 19 = some [(0, 1)] := by kernel_rfl
theorem tf_19_0 : tf Try.prog 19 0 = some (0, false, 1) := by kernel_rfl
theorem tbool_19 : tbool Try.prog 19 = false := by kernel_rfl
theorem tc_21 : Try.prog.cellsOf 21 = 1 := by kernel_rfl
theorem tl_21 : tl Try.prog 21 = some (false, 1) := by kernel_rfl
theorem tz_21 : tz Try.prog 21 = some [.int .i32 0] := by kernel_rfl
theorem tflat_21 : tflat Try.prog 21 = true := by kernel_rfl
theorem tbool_21 : tbool Try.prog 21 = false := by kernel_rfl
theorem tkind_21 : tkind Try.prog 21 = some .i32 := by kernel_rfl
theorem tc_25 : Try.prog.cellsOf 25 = 3 := by kernel_rfl
theorem tl_25 : tl Try.prog 25 = some (true, 3) := by kernel_rfl
theorem tp_25 : tp Try.prog 25 = some [(0, 1), (1, 1), (2, 1)] := by kernel_rfl
theorem tf_25_0 : tf Try.prog 25 0 = some (0, false, 1) := by kernel_rfl
theorem tf_25_1 : tf Try.prog 25 1 = some (1, false, 1) := by kernel_rfl
theorem tf_25_2 : tf Try.prog 25 2 = some (2, false, 1) := by kernel_rfl
theorem tz_25 : tz Try.prog 25 = some [.int .i64 0, .int .i64 0, .int .i64 0] := by kernel_rfl
theorem tflat_25 : tflat Try.prog 25 = true := by kernel_rfl
theorem tbool_25 : tbool Try.prog 25 = false := by kernel_rfl
theorem tc_26 : Try.prog.cellsOf 26 = 3 := by kernel_rfl
theorem tl_26 : tl Try.prog 26 = some (true, 3) := by kernel_rfl
theorem tp_26 : tp Try.prog 26 = some [(0, 1), (1, 1), (2, 1)] := by kernel_rfl
theorem tf_26_0 : tf Try.prog 26 0 = some (0, false, 1) := by kernel_rfl
theorem tf_26_1 : tf Try.prog 26 1 = some (1, false, 1) := by kernel_rfl
theorem tf_26_2 : tf Try.prog 26 2 = some (2, false, 1) := by kernel_rfl
theorem teq_26 : teq Try.prog 26 = some [0, 0, 0] := by kernel_rfl
theorem tz_26 : tz Try.prog 26 = some [.int .i64 0, .int .i64 0, .int .i64 0] := by kernel_rfl
theorem tflat_26 : tflat Try.prog 26 = true := by kernel_rfl
theorem tbool_26 : tbool Try.prog 26 = false := by kernel_rfl
theorem tc_28 : Try.prog.cellsOf 28 = 3 := by kernel_rfl
theorem tl_28 : tl Try.prog 28 = some (true, 3) := by kernel_rfl
theorem tp_28 : tp Try.prog 28 = some [(0, 1), (1, 1), (2, 1)] := by kernel_rfl
theorem tf_28_0 : tf Try.prog 28 0 = some (0, false, 1) := by kernel_rfl
theorem tf_28_1 : tf Try.prog 28 1 = some (1, false, 1) := by kernel_rfl
theorem tf_28_2 : tf Try.prog 28 2 = some (2, false, 1) := by kernel_rfl
theorem teq_28 : teq Try.prog 28 = some [0, 0, 0] := by kernel_rfl
theorem tz_28 : tz Try.prog 28 = some [.int .i64 0, .int .i64 0, .int .i64 0] := by kernel_rfl
theorem tflat_28 : tflat Try.prog 28 = true := by kernel_rfl
theorem tbool_28 : tbool Try.prog 28 = false := by kernel_rfl
theorem tc_31 : Try.prog.cellsOf 31 = 3 := by kernel_rfl
theorem tl_31 : tl Try.prog 31 = some (true, 3) := by kernel_rfl
theorem tp_31 : tp Try.prog 31 = some [(0, 1), (1, 1), (2, 1)] := by kernel_rfl
theorem tf_31_0 : tf Try.prog 31 0 = some (0, false, 1) := by kernel_rfl
theorem tf_31_1 : tf Try.prog 31 1 = some (1, false, 1) := by kernel_rfl
theorem tf_31_2 : tf Try.prog 31 2 = some (2, false, 1) := by kernel_rfl
theorem tz_31 : tz Try.prog 31 = some [.int .i64 0, .int .i64 0, .int .i64 0] := by kernel_rfl
theorem tflat_31 : tflat Try.prog 31 = true := by kernel_rfl
theorem tbool_31 : tbool Try.prog 31 = false := by kernel_rfl
theorem tc_32 : Try.prog.cellsOf 32 = 3 := by kernel_rfl
theorem tl_32 : tl Try.prog 32 = some (true, 3) := by kernel_rfl
theorem tp_32 : tp Try.prog 32 = some [(0, 1), (1, 1), (2, 1)] := by kernel_rfl
theorem tf_32_0 : tf Try.prog 32 0 = some (0, false, 1) := by kernel_rfl
theorem tf_32_1 : tf Try.prog 32 1 = some (1, false, 1) := by kernel_rfl
theorem tf_32_2 : tf Try.prog 32 2 = some (2, false, 1) := by kernel_rfl
theorem teq_32 : teq Try.prog 32 = some [0, 0, 0] := by kernel_rfl
theorem tz_32 : tz Try.prog 32 = some [.int .i64 0, .int .i64 0, .int .i64 0] := by kernel_rfl
theorem tflat_32 : tflat Try.prog 32 = true := by kernel_rfl
theorem tbool_32 : tbool Try.prog 32 = false := by kernel_rfl
theorem tc_34 : Try.prog.cellsOf 34 = 3 := by kernel_rfl
theorem tl_34 : tl Try.prog 34 = some (true, 3) := by kernel_rfl
theorem tp_34 : tp Try.prog 34 = some [(0, 1), (1, 1), (2, 1)] := by kernel_rfl
theorem tf_34_0 : tf Try.prog 34 0 = some (0, false, 1) := by kernel_rfl
theorem tf_34_1 : tf Try.prog 34 1 = some (1, false, 1) := by kernel_rfl
theorem tf_34_2 : tf Try.prog 34 2 = some (2, false, 1) := by kernel_rfl
theorem teq_34 : teq Try.prog 34 = some [0, 0, 0] := by kernel_rfl
theorem tz_34 : tz Try.prog 34 = some [.int .i64 0, .int .i64 0, .int .i64 0] := by kernel_rfl
theorem tflat_34 : tflat Try.prog 34 = true := by kernel_rfl
theorem tbool_34 : tbool Try.prog 34 = false := by kernel_rfl
theorem tc_37 : Try.prog.cellsOf 37 = 3 := by kernel_rfl
theorem tl_37 : tl Try.prog 37 = some (true, 3) := by kernel_rfl
theorem tp_37 : tp Try.prog 37 = some [(0, 1), (1, 1), (2, 1)] := by kernel_rfl
theorem tf_37_0 : tf Try.prog 37 0 = some (0, false, 1) := by kernel_rfl
theorem tf_37_1 : tf Try.prog 37 1 = some (1, false, 1) := by kernel_rfl
theorem tf_37_2 : tf Try.prog 37 2 = some (2, false, 1) := by kernel_rfl
theorem tz_37 : tz Try.prog 37 = some [.int .i64 0, .int .i64 0, .int .i64 0] := by kernel_rfl
theorem tflat_37 : tflat Try.prog 37 = true := by kernel_rfl
theorem tbool_37 : tbool Try.prog 37 = false := by kernel_rfl
theorem tc_38 : Try.prog.cellsOf 38 = 3 := by kernel_rfl
theorem tl_38 : tl Try.prog 38 = some (true, 3) := by kernel_rfl
theorem tp_38 : tp Try.prog 38 = some [(0, 1), (1, 1), (2, 1)] := by kernel_rfl
theorem tf_38_0 : tf Try.prog 38 0 = some (0, false, 1) := by kernel_rfl
theorem tf_38_1 : tf Try.prog 38 1 = some (1, false, 1) := by kernel_rfl
theorem tf_38_2 : tf Try.prog 38 2 = some (2, false, 1) := by kernel_rfl
theorem teq_38 : teq Try.prog 38 = some [0, 0, 0] := by kernel_rfl
theorem tz_38 : tz Try.prog 38 = some [.int .i64 0, .int .i64 0, .int .i64 0] := by kernel_rfl
theorem tflat_38 : tflat Try.prog 38 = true := by kernel_rfl
theorem tbool_38 : tbool Try.prog 38 = false := by kernel_rfl
theorem tc_40 : Try.prog.cellsOf 40 = 3 := by kernel_rfl
theorem tl_40 : tl Try.prog 40 = some (true, 3) := by kernel_rfl
theorem tp_40 : tp Try.prog 40 = some [(0, 1), (1, 1), (2, 1)] := by kernel_rfl
theorem tf_40_0 : tf Try.prog 40 0 = some (0, false, 1) := by kernel_rfl
theorem tf_40_1 : tf Try.prog 40 1 = some (1, false, 1) := by kernel_rfl
theorem tf_40_2 : tf Try.prog 40 2 = some (2, false, 1) := by kernel_rfl
theorem teq_40 : teq Try.prog 40 = some [0, 0, 0] := by kernel_rfl
theorem tz_40 : tz Try.prog 40 = some [.int .i64 0, .int .i64 0, .int .i64 0] := by kernel_rfl
theorem tflat_40 : tflat Try.prog 40 = true := by kernel_rfl
theorem tbool_40 : tbool Try.prog 40 = false := by kernel_rfl
theorem tc_43 : Try.prog.cellsOf 43 = 1 := by kernel_rfl
theorem tl_43 : tl Try.prog 43 = some (false, 1) := by kernel_rfl
theorem te_43 : te Try.prog 43 = some (83, 2, 16) := by kernel_rfl
theorem tz_43 : tz Try.prog 43 = some [.sl 2 []] := by kernel_rfl
theorem tflat_43 : tflat Try.prog 43 = false := by kernel_rfl
theorem tbool_43 : tbool Try.prog 43 = false := by kernel_rfl
theorem tc_47 : Try.prog.cellsOf 47 = 1 := by kernel_rfl
theorem tl_47 : tl Try.prog 47 = some (false, 1) := by kernel_rfl
theorem te_47 : te Try.prog 47 = some (81, 2, 16) := by kernel_rfl
theorem tz_47 : tz Try.prog 47 = some [.sl 2 []] := by kernel_rfl
theorem tflat_47 : tflat Try.prog 47 = false := by kernel_rfl
theorem tbool_47 : tbool Try.prog 47 = false := by kernel_rfl
theorem tc_53 : Try.prog.cellsOf 53 = 1 := by kernel_rfl
theorem tl_53 : tl Try.prog 53 = some (false, 1) := by kernel_rfl
theorem te_53 : te Try.prog 53 = some (86, 3, 24) := by kernel_rfl
theorem tz_53 : tz Try.prog 53 = some [.sl 3 []] := by kernel_rfl
theorem tflat_53 : tflat Try.prog 53 = false := by kernel_rfl
theorem tbool_53 : tbool Try.prog 53 = false := by kernel_rfl
theorem tc_56 : Try.prog.cellsOf 56 = 1 := by kernel_rfl
theorem tl_56 : tl Try.prog 56 = some (false, 1) := by kernel_rfl
theorem te_56 : te Try.prog 56 = some (62, 3, 24) := by kernel_rfl
theorem tz_56 : tz Try.prog 56 = some [.sl 3 []] := by kernel_rfl
theorem tflat_56 : tflat Try.prog 56 = false := by kernel_rfl
theorem tbool_56 : tbool Try.prog 56 = false := by kernel_rfl
theorem tc_61 : Try.prog.cellsOf 61 = 3 := by kernel_rfl
theorem tl_61 : tl Try.prog 61 = some (true, 3) := by kernel_rfl
theorem tp_61 : tp Try.prog 61 = some [(0, 1), (1, 1), (2, 1)] := by kernel_rfl
theorem tf_61_0 : tf Try.prog 61 0 = some (0, false, 1) := by kernel_rfl
theorem tf_61_1 : tf Try.prog 61 1 = some (1, false, 1) := by kernel_rfl
theorem tf_61_2 : tf Try.prog 61 2 = some (2, false, 1) := by kernel_rfl
theorem tz_61 : tz Try.prog 61 = some [.int .i64 0, .bool false, .int .i64 0] := by kernel_rfl
theorem tflat_61 : tflat Try.prog 61 = true := by kernel_rfl
theorem tbool_61 : tbool Try.prog 61 = false := by kernel_rfl
theorem tc_62 : Try.prog.cellsOf 62 = 3 := by kernel_rfl
theorem tl_62 : tl Try.prog 62 = some (true, 3) := by kernel_rfl
theorem tp_62 : tp Try.prog 62 = some [(0, 1), (1, 1), (2, 1)] := by kernel_rfl
theorem tf_62_0 : tf Try.prog 62 0 = some (0, false, 1) := by kernel_rfl
theorem tf_62_1 : tf Try.prog 62 1 = some (1, false, 1) := by kernel_rfl
theorem tf_62_2 : tf Try.prog 62 2 = some (2, false, 1) := by kernel_rfl
theorem teq_62 : teq Try.prog 62 = some [0, 1, 0] := by kernel_rfl
theorem tz_62 : tz Try.prog 62 = some [.int .i64 0, .bool false, .int .i64 0] := by kernel_rfl
theorem tflat_62 : tflat Try.prog 62 = true := by kernel_rfl
theorem tbool_62 : tbool Try.prog 62 = false := by kernel_rfl
theorem tc_66 : Try.prog.cellsOf 66 = 1 := by kernel_rfl
theorem tl_66 : tl Try.prog 66 = some (false, 1) := by kernel_rfl
theorem te_66 : te Try.prog 66 = some (92, 2, 16) := by kernel_rfl
theorem tz_66 : tz Try.prog 66 = some [.sl 2 []] := by kernel_rfl
theorem tflat_66 : tflat Try.prog 66 = false := by kernel_rfl
theorem tbool_66 : tbool Try.prog 66 = false := by kernel_rfl
theorem tc_68 : Try.prog.cellsOf 68 = 1 := by kernel_rfl
theorem tl_68 : tl Try.prog 68 = some (false, 1) := by kernel_rfl
theorem te_68 : te Try.prog 68 = some (90, 2, 16) := by kernel_rfl
theorem tz_68 : tz Try.prog 68 = some [.sl 2 []] := by kernel_rfl
theorem tflat_68 : tflat Try.prog 68 = false := by kernel_rfl
theorem tbool_68 : tbool Try.prog 68 = false := by kernel_rfl
theorem tc_78 : Try.prog.cellsOf 78 = 1 := by kernel_rfl
theorem tl_78 : tl Try.prog 78 = some (false, 1) := by kernel_rfl
theorem te_78 : te Try.prog 78 = some (9, 1, 16) := by kernel_rfl
theorem tz_78 : tz Try.prog 78 = some [.sl 1 []] := by kernel_rfl
theorem tflat_78 : tflat Try.prog 78 = false := by kernel_rfl
theorem tbool_78 : tbool Try.prog 78 = false := by kernel_rfl
theorem tc_79 : Try.prog.cellsOf 79 = 22 := by kernel_rfl
theorem tl_79 : tl Try.prog 79 = some (true, 22) := by kernel_rfl
theorem ta_79 : ta Try.prog 79 = some (22, 9, 1) := by kernel_rfl
theorem tp_79 : tp Try.prog 79 = some [(0, 1), (1, 1), (2, 1), (3, 1), (4, 1), (5, 1), (6, 1), (7, 1), (8, 1), (9, 1), (10, 1), (11, 1), (12, 1), (13, 1), (14, 1), (15, 1), (16, 1), (17, 1), (18, 1), (19, 1), (20, 1), (21, 1)] := by kernel_rfl
theorem tz_79 : tz Try.prog 79 = some [.str .empty, .str .empty, .str .empty, .str .empty, .str .empty, .str .empty, .str .empty, .str .empty, .str .empty, .str .empty, .str .empty, .str .empty, .str .empty, .str .empty, .str .empty, .str .empty, .str .empty, .str .empty, .str .empty, .str .empty, .str .empty, .str .empty] := by kernel_rfl
theorem tflat_79 : tflat Try.prog 79 = true := by kernel_rfl
theorem tbool_79 : tbool Try.prog 79 = false := by kernel_rfl
theorem tc_80 : Try.prog.cellsOf 80 = 2 := by kernel_rfl
theorem tl_80 : tl Try.prog 80 = some (true, 2) := by kernel_rfl
theorem tp_80 : tp Try.prog 80 = some [(0, 1), (1, 1)] := by kernel_rfl
theorem tf_80_0 : tf Try.prog 80 0 = some (0, false, 1) := by kernel_rfl
theorem tf_80_1 : tf Try.prog 80 1 = some (1, false, 1) := by kernel_rfl
theorem tz_80 : tz Try.prog 80 = some [.int .i64 0, .int .i64 0] := by kernel_rfl
theorem tflat_80 : tflat Try.prog 80 = true := by kernel_rfl
theorem tbool_80 : tbool Try.prog 80 = false := by kernel_rfl
theorem tc_81 : Try.prog.cellsOf 81 = 2 := by kernel_rfl
theorem tl_81 : tl Try.prog 81 = some (true, 2) := by kernel_rfl
theorem tp_81 : tp Try.prog 81 = some [(0, 1), (1, 1)] := by kernel_rfl
theorem tf_81_0 : tf Try.prog 81 0 = some (0, false, 1) := by kernel_rfl
theorem tf_81_1 : tf Try.prog 81 1 = some (1, false, 1) := by kernel_rfl
theorem teq_81 : teq Try.prog 81 = some [0, 0] := by kernel_rfl
theorem tz_81 : tz Try.prog 81 = some [.int .i64 0, .int .i64 0] := by kernel_rfl
theorem tflat_81 : tflat Try.prog 81 = true := by kernel_rfl
theorem tbool_81 : tbool Try.prog 81 = false := by kernel_rfl
theorem tc_83 : Try.prog.cellsOf 83 = 2 := by kernel_rfl
theorem tl_83 : tl Try.prog 83 = some (true, 2) := by kernel_rfl
theorem tp_83 : tp Try.prog 83 = some [(0, 1), (1, 1)] := by kernel_rfl
theorem tf_83_0 : tf Try.prog 83 0 = some (0, false, 1) := by kernel_rfl
theorem tf_83_1 : tf Try.prog 83 1 = some (1, false, 1) := by kernel_rfl
theorem teq_83 : teq Try.prog 83 = some [0, 0] := by kernel_rfl
theorem tz_83 : tz Try.prog 83 = some [.int .i64 0, .int .i64 0] := by kernel_rfl
theorem tflat_83 : tflat Try.prog 83 = true := by kernel_rfl
theorem tbool_83 : tbool Try.prog 83 = false := by kernel_rfl
theorem tc_86 : Try.prog.cellsOf 86 = 3 := by kernel_rfl
theorem tl_86 : tl Try.prog 86 = some (true, 3) := by kernel_rfl
theorem tp_86 : tp Try.prog 86 = some [(0, 1), (1, 1), (2, 1)] := by kernel_rfl
theorem tf_86_0 : tf Try.prog 86 0 = some (0, false, 1) := by kernel_rfl
theorem tf_86_1 : tf Try.prog 86 1 = some (1, false, 1) := by kernel_rfl
theorem tf_86_2 : tf Try.prog 86 2 = some (2, false, 1) := by kernel_rfl
theorem teq_86 : teq Try.prog 86 = some [0, 1, 0] := by kernel_rfl
theorem tz_86 : tz Try.prog 86 = some [.int .i64 0, .bool false, .int .i64 0] := by kernel_rfl
theorem tflat_86 : tflat Try.prog 86 = true := by kernel_rfl
theorem tbool_86 : tbool Try.prog 86 = false := by kernel_rfl
theorem tc_89 : Try.prog.cellsOf 89 = 2 := by kernel_rfl
theorem tl_89 : tl Try.prog 89 = some (true, 2) := by kernel_rfl
theorem tp_89 : tp Try.prog 89 = some [(0, 1), (1, 1)] := by kernel_rfl
theorem tf_89_0 : tf Try.prog 89 0 = some (0, false, 1) := by kernel_rfl
theorem tf_89_1 : tf Try.prog 89 1 = some (1, false, 1) := by kernel_rfl
theorem tz_89 : tz Try.prog 89 = some [.int .i64 0, .int .i64 0] := by kernel_rfl
theorem tflat_89 : tflat Try.prog 89 = true := by kernel_rfl
theorem tbool_89 : tbool Try.prog 89 = false := by kernel_rfl
theorem tc_90 : Try.prog.cellsOf 90 = 2 := by kernel_rfl
theorem tl_90 : tl Try.prog 90 = some (true, 2) := by kernel_rfl
theorem tp_90 : tp Try.prog 90 = some [(0, 1), (1, 1)] := by kernel_rfl
theorem tf_90_0 : tf Try.prog 90 0 = some (0, false, 1) := by kernel_rfl
theorem tf_90_1 : tf Try.prog 90 1 = some (1, false, 1) := by kernel_rfl
theorem teq_90 : teq Try.prog 90 = some [0, 0] := by kernel_rfl
theorem tz_90 : tz Try.prog 90 = some [.int .i64 0, .int .i64 0] := by kernel_rfl
theorem tflat_90 : tflat Try.prog 90 = true := by kernel_rfl
theorem tbool_90 : tbool Try.prog 90 = false := by kernel_rfl
theorem tc_92 : Try.prog.cellsOf 92 = 2 := by kernel_rfl
theorem tl_92 : tl Try.prog 92 = some (true, 2) := by kernel_rfl
theorem tp_92 : tp Try.prog 92 = some [(0, 1), (1, 1)] := by kernel_rfl
theorem tf_92_0 : tf Try.prog 92 0 = some (0, false, 1) := by kernel_rfl
theorem tf_92_1 : tf Try.prog 92 1 = some (1, false, 1) := by kernel_rfl
theorem teq_92 : teq Try.prog 92 = some [0, 0] := by kernel_rfl
theorem tz_92 : tz Try.prog 92 = some [.int .i64 0, .int .i64 0] := by kernel_rfl
theorem tflat_92 : tflat Try.prog 92 = true := by kernel_rfl
theorem tbool_92 : tbool Try.prog 92 = false := by kernel_rfl
theorem tc_102 : Try.prog.cellsOf 102 = 4 := by kernel_rfl
theorem tl_102 : tl Try.prog 102 = some (true, 4) := by kernel_rfl
theorem tp_102 : tp Try.prog 102 = some [(0, 1), (1, 1), (2, 1), (3, 1)] := by kernel_rfl
theorem tf_102_0 : tf Try.prog 102 0 = some (0, false, 1) := by kernel_rfl
theorem tf_102_1 : tf Try.prog 102 1 = some (1, false, 1) := by kernel_rfl
theorem tf_102_2 : tf Try.prog 102 2 = some (2, false, 1) := by kernel_rfl
theorem tf_102_3 : tf Try.prog 102 3 = some (3, false, 1) := by kernel_rfl
theorem tbool_102 : tbool Try.prog 102 = false := by kernel_rfl
theorem tc_103 : Try.prog.cellsOf 103 = 4 := by kernel_rfl
theorem tl_103 : tl Try.prog 103 = some (true, 4) := by kernel_rfl
theorem tp_103 : tp Try.prog 103 = some [(0, 1), (1, 1), (2, 1), (3, 1)] := by kernel_rfl
theorem tf_103_0 : tf Try.prog 103 0 = some (0, false, 1) := by kernel_rfl
theorem tf_103_1 : tf Try.prog 103 1 = some (1, false, 1) := by kernel_rfl
theorem tf_103_2 : tf Try.prog 103 2 = some (2, false, 1) := by kernel_rfl
theorem tf_103_3 : tf Try.prog 103 3 = some (3, false, 1) := by kernel_rfl
theorem tbool_103 : tbool Try.prog 103 = false := by kernel_rfl
theorem tc_104 : Try.prog.cellsOf 104 = 0 := by kernel_rfl
theorem tl_104 : tl Try.prog 104 = some (true, 0) := by kernel_rfl
theorem ta_104 : ta Try.prog 104 = some (0, 16, 1) := by kernel_rfl
theorem tp_104 : tp Try.prog 104 = some [] := by kernel_rfl
theorem tbool_104 : tbool Try.prog 104 = false := by kernel_rfl
theorem tc_105 : Try.prog.cellsOf 105 = 0 := by kernel_rfl
theorem tl_105 : tl Try.prog 105 = some (true, 0) := by kernel_rfl
theorem tp_105 : tp Try.prog 105 = some [(0, 0)] := by kernel_rfl
theorem tbool_105 : tbool Try.prog 105 = false := by kernel_rfl
theorem tc_106 : Try.prog.cellsOf 106 = 0 := by kernel_rfl
theorem tl_106 : tl Try.prog 106 = some (true, 0) := by kernel_rfl
theorem tp_106 : tp Try.prog 106 = some [(0, 0)] := by kernel_rfl
theorem tbool_106 : tbool Try.prog 106 = false := by kernel_rfl
theorem tc_108 : Try.prog.cellsOf 108 = 1 := by kernel_rfl
theorem tl_108 : tl Try.prog 108 = some (false, 1) := by kernel_rfl
theorem tz_108 : tz Try.prog 108 = some [.int .u32 0] := by kernel_rfl
theorem tflat_108 : tflat Try.prog 108 = true := by kernel_rfl
theorem tbool_108 : tbool Try.prog 108 = false := by kernel_rfl
theorem tkind_108 : tkind Try.prog 108 = some .u32 := by kernel_rfl
theorem tc_109 : Try.prog.cellsOf 109 = 1 := by kernel_rfl
theorem tl_109 : tl Try.prog 109 = some (false, 1) := by kernel_rfl
theorem tz_109 : tz Try.prog 109 = some [.int .u8 0] := by kernel_rfl
theorem tflat_109 : tflat Try.prog 109 = true := by kernel_rfl
theorem tbool_109 : tbool Try.prog 109 = false := by kernel_rfl
theorem tkind_109 : tkind Try.prog 109 = some .u8 := by kernel_rfl
theorem tc_110 : Try.prog.cellsOf 110 = 1 := by kernel_rfl
theorem tl_110 : tl Try.prog 110 = some (false, 1) := by kernel_rfl
theorem tz_110 : tz Try.prog 110 = some [.int .u8 0] := by kernel_rfl
theorem tflat_110 : tflat Try.prog 110 = true := by kernel_rfl
theorem tbool_110 : tbool Try.prog 110 = false := by kernel_rfl
theorem tkind_110 : tkind Try.prog 110 = some .u8 := by kernel_rfl
theorem tc_112 : Try.prog.cellsOf 112 = 1 := by kernel_rfl
theorem tl_112 : tl Try.prog 112 = some (false, 1) := by kernel_rfl
theorem tbool_112 : tbool Try.prog 112 = false := by kernel_rfl
theorem tc_113 : Try.prog.cellsOf 113 = 1 := by kernel_rfl
theorem tl_113 : tl Try.prog 113 = some (false, 1) := by kernel_rfl
theorem tz_113 : tz Try.prog 113 = some [.int .i32 0] := by kernel_rfl
theorem tflat_113 : tflat Try.prog 113 = true := by kernel_rfl
theorem tbool_113 : tbool Try.prog 113 = false := by kernel_rfl
theorem tkind_113 : tkind Try.prog 113 = some .i32 := by kernel_rfl
theorem tc_114 : Try.prog.cellsOf 114 = 1 := by kernel_rfl
theorem tl_114 : tl Try.prog 114 = some (false, 1) := by kernel_rfl
theorem tz_114 : tz Try.prog 114 = some [.int .i32 0] := by kernel_rfl
theorem tflat_114 : tflat Try.prog 114 = true := by kernel_rfl
theorem tbool_114 : tbool Try.prog 114 = false := by kernel_rfl
theorem tkind_114 : tkind Try.prog 114 = some .i32 := by kernel_rfl
theorem tc_115 : Try.prog.cellsOf 115 = 11 := by kernel_rfl
theorem tl_115 : tl Try.prog 115 = some (true, 11) := by kernel_rfl
theorem tf_115_0 : tf Try.prog 115 0 = some (0, false, 1) := by kernel_rfl
theorem tf_115_1 : tf Try.prog 115 1 = some (1, false, 1) := by kernel_rfl
theorem tf_115_2 : tf Try.prog 115 2 = some (2, false, 1) := by kernel_rfl
theorem tf_115_3 : tf Try.prog 115 3 = some (3, false, 1) := by kernel_rfl
theorem tf_115_4 : tf Try.prog 115 4 = some (4, false, 1) := by kernel_rfl
theorem tf_115_5 : tf Try.prog 115 5 = some (5, false, 1) := by kernel_rfl
theorem tf_115_6 : tf Try.prog 115 6 = some (6, false, 1) := by kernel_rfl
theorem tf_115_8 : tf Try.prog 115 8 = some (8, false, 1) := by kernel_rfl
theorem tf_115_9 : tf Try.prog 115 9 = some (9, false, 1) := by kernel_rfl
theorem tf_115_10 : tf Try.prog 115 10 = some (10, false, 1) := by kernel_rfl
theorem tbool_115 : tbool Try.prog 115 = false := by kernel_rfl
theorem tc_116 : Try.prog.cellsOf 116 = 11 := by kernel_rfl
theorem tl_116 : tl Try.prog 116 = some (true, 11) := by kernel_rfl
theorem tf_116_0 : tf Try.prog 116 0 = some (0, false, 1) := by kernel_rfl
theorem tf_116_1 : tf Try.prog 116 1 = some (1, false, 1) := by kernel_rfl
theorem tf_116_2 : tf Try.prog 116 2 = some (2, false, 1) := by kernel_rfl
theorem tf_116_3 : tf Try.prog 116 3 = some (3, false, 1) := by kernel_rfl
theorem tf_116_4 : tf Try.prog 116 4 = some (4, false, 1) := by kernel_rfl
theorem tf_116_5 : tf Try.prog 116 5 = some (5, false, 1) := by kernel_rfl
theorem tf_116_6 : tf Try.prog 116 6 = some (6, false, 1) := by kernel_rfl
theorem tf_116_8 : tf Try.prog 116 8 = some (8, false, 1) := by kernel_rfl
theorem tf_116_9 : tf Try.prog 116 9 = some (9, false, 1) := by kernel_rfl
theorem tf_116_10 : tf Try.prog 116 10 = some (10, false, 1) := by kernel_rfl
theorem tbool_116 : tbool Try.prog 116 = false := by kernel_rfl
theorem e2 : enters Try.prog 2 = true := by kernel_rfl
theorem e3 : enters Try.prog 3 = true := by kernel_rfl
theorem e4 : enters Try.prog 4 = true := by kernel_rfl
theorem e5 : enters Try.prog 5 = true := by kernel_rfl
theorem e6 : enters Try.prog 6 = true := by kernel_rfl
theorem e7 : enters Try.prog 7 = true := by kernel_rfl
theorem e8 : enters Try.prog 8 = true := by kernel_rfl
theorem e9 : enters Try.prog 9 = true := by kernel_rfl
theorem e10 : enters Try.prog 10 = true := by kernel_rfl
theorem e11 : enters Try.prog 11 = true := by kernel_rfl
theorem e12 : enters Try.prog 12 = true := by kernel_rfl
theorem e13 : enters Try.prog 13 = true := by kernel_rfl
theorem e14 : enters Try.prog 14 = true := by kernel_rfl
theorem e15 : enters Try.prog 15 = true := by kernel_rfl
theorem e16 : enters Try.prog 16 = true := by kernel_rfl
theorem e17 : enters Try.prog 17 = true := by kernel_rfl
theorem e18 : enters Try.prog 18 = true := by kernel_rfl
theorem e19 : enters Try.prog 19 = true := by kernel_rfl
theorem e20 : enters Try.prog 20 = true := by kernel_rfl
theorem e21 : enters Try.prog 21 = true := by kernel_rfl
theorem e22 : enters Try.prog 22 = true := by kernel_rfl
theorem e23 : enters Try.prog 23 = true := by kernel_rfl
theorem e24 : enters Try.prog 24 = true := by kernel_rfl
theorem e25 : enters Try.prog 25 = true := by kernel_rfl
theorem e26 : enters Try.prog 26 = true := by kernel_rfl
theorem e27 : enters Try.prog 27 = true := by kernel_rfl
theorem e28 : enters Try.prog 28 = true := by kernel_rfl
theorem e29 : enters Try.prog 29 = true := by kernel_rfl
theorem e30 : enters Try.prog 30 = true := by kernel_rfl
theorem e31 : enters Try.prog 31 = true := by kernel_rfl
theorem e32 : enters Try.prog 32 = true := by kernel_rfl
theorem e33 : enters Try.prog 33 = true := by kernel_rfl
theorem e34 : enters Try.prog 34 = true := by kernel_rfl
theorem e35 : enters Try.prog 35 = true := by kernel_rfl
theorem e36 : enters Try.prog 36 = true := by kernel_rfl
theorem e37 : enters Try.prog 37 = true := by kernel_rfl
theorem e38 : enters Try.prog 38 = true := by kernel_rfl
theorem e39 : enters Try.prog 39 = true := by kernel_rfl
theorem e40 : enters Try.prog 40 = true := by kernel_rfl
theorem e41 : enters Try.prog 41 = true := by kernel_rfl
theorem e42 : enters Try.prog 42 = true := by kernel_rfl
theorem e43 : enters Try.prog 43 = true := by kernel_rfl
theorem e44 : enters Try.prog 44 = true := by kernel_rfl
theorem e45 : enters Try.prog 45 = true := by kernel_rfl
theorem e46 : enters Try.prog 46 = true := by kernel_rfl
theorem e47 : enters Try.prog 47 = true := by kernel_rfl
theorem e48 : enters Try.prog 48 = true := by kernel_rfl
theorem e49 : enters Try.prog 49 = true := by kernel_rfl
theorem e50 : enters Try.prog 50 = true := by kernel_rfl
theorem e51 : enters Try.prog 51 = true := by kernel_rfl
theorem e52 : enters Try.prog 52 = true := by kernel_rfl
theorem e53 : enters Try.prog 53 = true := by kernel_rfl
theorem e54 : enters Try.prog 54 = true := by kernel_rfl
theorem e55 : enters Try.prog 55 = true := by kernel_rfl
theorem e56 : enters Try.prog 56 = true := by kernel_rfl
theorem e57 : enters Try.prog 57 = true := by kernel_rfl
theorem e58 : enters Try.prog 58 = true := by kernel_rfl
theorem e59 : enters Try.prog 59 = true := by kernel_rfl
theorem e60 : enters Try.prog 60 = true := by kernel_rfl
theorem e61 : enters Try.prog 61 = true := by kernel_rfl
theorem e62 : enters Try.prog 62 = true := by kernel_rfl
theorem e63 : enters Try.prog 63 = true := by kernel_rfl
theorem e64 : enters Try.prog 64 = true := by kernel_rfl
theorem e65 : enters Try.prog 65 = true := by kernel_rfl
theorem e66 : enters Try.prog 66 = true := by kernel_rfl
theorem e67 : enters Try.prog 67 = true := by kernel_rfl
theorem e68 : enters Try.prog 68 = true := by kernel_rfl
theorem e69 : enters Try.prog 69 = true := by kernel_rfl
theorem e70 : enters Try.prog 70 = true := by kernel_rfl
theorem e71 : enters Try.prog 71 = true := by kernel_rfl
theorem e72 : enters Try.prog 72 = true := by kernel_rfl
theorem e73 : enters Try.prog 73 = true := by kernel_rfl
theorem e74 : enters Try.prog 74 = true := by kernel_rfl
theorem e75 : enters Try.prog 75 = true := by kernel_rfl
theorem e76 : enters Try.prog 76 = true := by kernel_rfl
theorem mixed : Try.prog.follows .mixedOrders = true := by kernel_rfl
end Go.Proofs.Ytdjhjgcdddegkaa.Ty

