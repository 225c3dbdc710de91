/- Facts on the types of the translation, each closed. Written by wip/tools/gen.py. -/
import Derived.Test.YtcanhdhlbghfiaaGreatChecked
import Derived.Test.YtcanhdhlbghfiaaGreatAbsCode
import Derived.KernelRfl
namespace Go.Proofs.YtcanhdhlbghfiaaGreat.Ty
open Go.Abs Go.Proofs
@[go_sem] theorem t_2 : Tryz.prog.cellsOf 2 = 1 ∧ tl Tryz.prog 2 = some (false, 1) ∧ te Tryz.prog 2 = none ∧ tz Tryz.prog 2 = some [.int .i64 0] ∧ tflat Tryz.prog 2 = true ∧ tbool Tryz.prog 2 = false ∧ tkind Tryz.prog 2 = some .i64 := by
 refine ⟨?_, ?_, ?_, ?_, ?_, ?_, ?_⟩ <;> kernel_rfl
@[go_sem] theorem tc_3 : Tryz.prog.cellsOf 3 = 1 := by kernel_rfl
@[go_sem] theorem t_3 : tl Tryz.prog 3 = some (false, 1) ∧ te Tryz.prog 3 = none ∧ tz Tryz.prog 3 = some [.int .i64 0] ∧ tflat Tryz.prog 3 = true ∧ tbool Tryz.prog 3 = false ∧ tkind Tryz.prog 3 = some .i64 := by
 refine ⟨?_, ?_, ?_, ?_, ?_, ?_⟩ <;> kernel_rfl
@[go_sem] theorem t_4 : Tryz.prog.cellsOf 4 = 1 ∧ tl Tryz.prog 4 = some (false, 1) ∧ te Tryz.prog 4 = none ∧ tz Tryz.prog 4 = some [.bool false] ∧ tflat Tryz.prog 4 = true ∧ tbool Tryz.prog 4 = true := by
 refine ⟨?_, ?_, ?_, ?_, ?_, ?_⟩ <;> kernel_rfl
@[go_sem] theorem t_5 : Tryz.prog.cellsOf 5 = 1 ∧ tl Tryz.prog 5 = some (false, 1) ∧ te Tryz.prog 5 = none ∧ tz Tryz.prog 5 = some [.int .u8 0] ∧ tflat Tryz.prog 5 = true ∧ tbool Tryz.prog 5 = false ∧ tkind Tryz.prog 5 = some .u8 := by
 refine ⟨?_, ?_, ?_, ?_, ?_, ?_, ?_⟩ <;> kernel_rfl
@[go_sem] theorem t_6 : Tryz.prog.cellsOf 6 = 1 ∧ tl Tryz.prog 6 = some (false, 1) ∧ te Tryz.prog 6 = none ∧ tz Tryz.prog 6 = some [.int .u8 0] ∧ tflat Tryz.prog 6 = true ∧ tbool Tryz.prog 6 = false ∧ tkind Tryz.prog 6 = some .u8 := by
 refine ⟨?_, ?_, ?_, ?_, ?_, ?_, ?_⟩ <;> kernel_rfl
@[go_sem] theorem t_7 : Tryz.prog.cellsOf 7 = 4 ∧ tl Tryz.prog 7 = some (true, 4) ∧ te Tryz.prog 7 = none ∧ tp Tryz.prog 7 = some [(0, 1), (1, 1), (2, 1), (3, 1)] ∧ tf Tryz.prog 7 0 = some (0, false, 1) ∧ tf Tryz.prog 7 1 = some (1, false, 1) ∧ tf Tryz.prog 7 2 = some (2, false, 1) ∧ tf Tryz.prog 7 3 = some (3, false, 1) ∧ tz Tryz.prog 7 = some [.int .i64 0, .int .i64 0, .bool false, .int .u8 0] ∧ tflat Tryz.prog 7 = true ∧ tbool Tryz.prog 7 = false := by
 refine ⟨?_, ?_, ?_, ?_, ?_, ?_, ?_, ?_, ?_, ?_, ?_⟩ <;> kernel_rfl
@[go_sem] theorem t_8 : Tryz.prog.cellsOf 8 = 4 ∧ tl Tryz.prog 8 = some (true, 4) ∧ te Tryz.prog 8 = none ∧ tp Tryz.prog 8 = some [(0, 1), (1, 1), (2, 1), (3, 1)] ∧ tf Tryz.prog 8 0 = some (0, false, 1) ∧ tf Tryz.prog 8 1 = some (1, false, 1) ∧ tf Tryz.prog 8 2 = some (2, false, 1) ∧ tf Tryz.prog 8 3 = some (3, false, 1) ∧ tz Tryz.prog 8 = some [.int .i64 0, .int .i64 0, .bool false, .int .u8 0] ∧ tflat Tryz.prog 8 = true ∧ tbool Tryz.prog 8 = false := by
 refine ⟨?_, ?_, ?_, ?_, ?_, ?_, ?_, ?_, ?_, ?_, ?_⟩ <;> kernel_rfl
@[go_sem] theorem t_9 : Tryz.prog.cellsOf 9 = 1 ∧ tl Tryz.prog 9 = some (false, 1) ∧ te Tryz.prog 9 = none ∧ tz Tryz.prog 9 = some [.str .empty] ∧ tflat Tryz.prog 9 = true ∧ tbool Tryz.prog 9 = false ∧ tstr Tryz.prog 9 = true := by
 refine ⟨?_, ?_, ?_, ?_, ?_, ?_, ?_⟩ <;> kernel_rfl
@[go_sem] theorem t_10 : Tryz.prog.cellsOf 10 = 1 ∧ tl Tryz.prog 10 = some (false, 1) ∧ te Tryz.prog 10 = none ∧ tz Tryz.prog 10 = some [.str .empty] ∧ tflat Tryz.prog 10 = true ∧ tbool Tryz.prog 10 = false ∧ tstr Tryz.prog 10 = true := by
 refine ⟨?_, ?_, ?_, ?_, ?_, ?_, ?_⟩ <;> kernel_rfl
@[go_sem] theorem t_11 : Tryz.prog.cellsOf 11 = 1 ∧ tl Tryz.prog 11 = some (false, 1) ∧ te Tryz.prog 11 = none ∧ tz Tryz.prog 11 = some [.str .empty] ∧ tflat Tryz.prog 11 = true ∧ tbool Tryz.prog 11 = false ∧ tstr Tryz.prog 11 = true := by
 refine ⟨?_, ?_, ?_, ?_, ?_, ?_, ?_⟩ <;> kernel_rfl
@[go_sem] theorem t_12 : Tryz.prog.cellsOf 12 = 1 ∧ tl Tryz.prog 12 = some (false, 1) ∧ te Tryz.prog 12 = none ∧ tz Tryz.prog 12 = some [.int .u64 0] ∧ tflat Tryz.prog 12 = true ∧ tbool Tryz.prog 12 = false ∧ tkind Tryz.prog 12 = some .u64 := by
 refine ⟨?_, ?_, ?_, ?_, ?_, ?_, ?_⟩ <;> kernel_rfl
@[go_sem] theorem t_13 : Tryz.prog.cellsOf 13 = 2 ∧ tl Tryz.prog 13 = some (true, 2) ∧ te Tryz.prog 13 = none ∧ tp Tryz.prog 13 = some [(0, 1), (1, 1)] ∧ tf Tryz.prog 13 0 = some (0, false, 1) ∧ tf Tryz.prog 13 1 = some (1, false, 1) ∧ tz Tryz.prog 13 = some [.str .empty, .int .u64 0] ∧ tflat Tryz.prog 13 = true ∧ tbool Tryz.prog 13 = false := by
 refine ⟨?_, ?_, ?_, ?_, ?_, ?_, ?_, ?_, ?_⟩ <;> kernel_rfl
@[go_sem] theorem t_14 : Tryz.prog.cellsOf 14 = 2 ∧ tl Tryz.prog 14 = some (true, 2) ∧ te Tryz.prog 14 = none ∧ tp Tryz.prog 14 = some [(0, 1), (1, 1)] ∧ tf Tryz.prog 14 0 = some (0, false, 1) ∧ tf Tryz.prog 14 1 = some (1, false, 1) ∧ tz Tryz.prog 14 = some [.str .empty, .int .u64 0] ∧ tflat Tryz.prog 14 = true ∧ tbool Tryz.prog 14 = false := by
 refine ⟨?_, ?_, ?_, ?_, ?_, ?_, ?_, ?_, ?_⟩ <;> kernel_rfl
@[go_sem] theorem t_15 : Tryz.prog.cellsOf 15 = 1 ∧ tl Tryz.prog 15 = some (false, 1) ∧ te Tryz.prog 15 = none ∧ tbool Tryz.prog 15 = false := by
 refine ⟨?_, ?_, ?_, ?_⟩ <;> kernel_rfl
@[go_sem] theorem t_16 : Tryz.prog.cellsOf 16 = 1 ∧ tl Tryz.prog 16 = some (false, 1) ∧ te Tryz.prog 16 = none ∧ tbool Tryz.prog 16 = false := by
 refine ⟨?_, ?_, ?_, ?_⟩ <;> kernel_rfl
@[go_sem] theorem t_17 : Tryz.prog.cellsOf 17 = 1 ∧ tl Tryz.prog 17 = some (false, 1) ∧ te Tryz.prog 17 = none ∧ tbool Tryz.prog 17 = false := by
 refine ⟨?_, ?_, ?_, ?_⟩ <;> kernel_rfl
@[go_sem] theorem t_18 : Tryz.prog.cellsOf 18 = 1 ∧ tl Tryz.prog 18 = some (true, 1) ∧ te Tryz.prog 18 = none ∧ tp Tryz.prog 18 = some [(0, 1)] ∧ tf Tryz.prog 18 0 = some (0, false, 1) ∧ tbool Tryz.prog 18 = false := by
 refine ⟨?_, ?_, ?_, ?_, ?_, ?_⟩ <;> kernel_rfl
@[go_sem] theorem t_19 : Tryz.prog.cellsOf 19 = 1 ∧ tl Tryz.prog 19 = some (true, 1) ∧ te Tryz.prog 19 = none ∧ tp Tryz.prog 19 = some [(0, 1)] ∧ tf Tryz.prog 19 0 = some (0, false, 1) ∧ tbool Tryz.prog 19 = false := by
 refine ⟨?_, ?_, ?_, ?_, ?_, ?_⟩ <;> kernel_rfl
@[go_sem] theorem t_21 : Tryz.prog.cellsOf 21 = 1 ∧ tl Tryz.prog 21 = some (false, 1) ∧ te Tryz.prog 21 = none ∧ tz Tryz.prog 21 = some [.int .i32 0] ∧ tflat Tryz.prog 21 = true ∧ tbool Tryz.prog 21 = false ∧ tkind Tryz.prog 21 = some .i32 := by
 refine ⟨?_, ?_, ?_, ?_, ?_, ?_, ?_⟩ <;> kernel_rfl
@[go_sem] theorem t_22 : Tryz.prog.cellsOf 22 = 1 ∧ tl Tryz.prog 22 = some (false, 1) ∧ te Tryz.prog 22 = some (3, 1, 8) ∧ tz Tryz.prog 22 = some [.sl 1 []] ∧ tflat Tryz.prog 22 = false ∧ tbool Tryz.prog 22 = false := by
 refine ⟨?_, ?_, ?_, ?_, ?_, ?_⟩ <;> kernel_rfl
@[go_sem] theorem t_23 : Tryz.prog.cellsOf 23 = 2 ∧ tl Tryz.prog 23 = some (true, 2) ∧ te Tryz.prog 23 = none ∧ tp Tryz.prog 23 = some [(0, 1), (1, 1)] ∧ tf Tryz.prog 23 0 = some (0, false, 1) ∧ tf Tryz.prog 23 1 = some (1, false, 1) ∧ tz Tryz.prog 23 = some [.sl 1 [], .sl 1 []] ∧ tflat Tryz.prog 23 = false ∧ tbool Tryz.prog 23 = false := by
 refine ⟨?_, ?_, ?_, ?_, ?_, ?_, ?_, ?_, ?_⟩ <;> kernel_rfl
@[go_sem] theorem t_24 : Tryz.prog.cellsOf 24 = 2 ∧ tl Tryz.prog 24 = some (true, 2) ∧ te Tryz.prog 24 = none ∧ tp Tryz.prog 24 = some [(0, 1), (1, 1)] ∧ tf Tryz.prog 24 0 = some (0, false, 1) ∧ tf Tryz.prog 24 1 = some (1, false, 1) ∧ tz Tryz.prog 24 = some [.sl 1 [], .sl 1 []] ∧ tflat Tryz.prog 24 = false ∧ tbool Tryz.prog 24 = false := by
 refine ⟨?_, ?_, ?_, ?_, ?_, ?_, ?_, ?_, ?_⟩ <;> kernel_rfl
@[go_sem] theorem t_25 : Tryz.prog.cellsOf 25 = 1 ∧ tl Tryz.prog 25 = some (false, 1) ∧ te Tryz.prog 25 = some (373, 1, 24) ∧ tz Tryz.prog 25 = some [.sl 1 []] ∧ tflat Tryz.prog 25 = false ∧ tbool Tryz.prog 25 = false := by
 refine ⟨?_, ?_, ?_, ?_, ?_, ?_⟩ <;> kernel_rfl
@[go_sem] theorem t_26 : Tryz.prog.cellsOf 26 = 2 ∧ tl Tryz.prog 26 = some (true, 2) ∧ te Tryz.prog 26 = none ∧ tp Tryz.prog 26 = some [(0, 1), (1, 1)] ∧ tf Tryz.prog 26 0 = some (0, false, 1) ∧ tf Tryz.prog 26 1 = some (1, false, 1) ∧ tz Tryz.prog 26 = some [.sl 1 [], .sl 1 []] ∧ tflat Tryz.prog 26 = false ∧ tbool Tryz.prog 26 = false := by
 refine ⟨?_, ?_, ?_, ?_, ?_, ?_, ?_, ?_, ?_⟩ <;> kernel_rfl
@[go_sem] theorem t_27 : Tryz.prog.cellsOf 27 = 2 ∧ tl Tryz.prog 27 = some (true, 2) ∧ te Tryz.prog 27 = none ∧ tp Tryz.prog 27 = some [(0, 1), (1, 1)] ∧ tf Tryz.prog 27 0 = some (0, false, 1) ∧ tf Tryz.prog 27 1 = some (1, false, 1) ∧ tz Tryz.prog 27 = some [.sl 1 [], .sl 1 []] ∧ tflat Tryz.prog 27 = false ∧ tbool Tryz.prog 27 = false := by
 refine ⟨?_, ?_, ?_, ?_, ?_, ?_, ?_, ?_, ?_⟩ <;> kernel_rfl
@[go_sem] theorem t_28 : Tryz.prog.cellsOf 28 = 4 ∧ tl Tryz.prog 28 = some (true, 4) ∧ te Tryz.prog 28 = none ∧ tp Tryz.prog 28 = some [(0, 2), (2, 2)] ∧ tf Tryz.prog 28 0 = some (0, true, 2) ∧ tf Tryz.prog 28 1 = some (2, true, 2) ∧ tz Tryz.prog 28 = some [.sl 1 [], .sl 1 [], .sl 1 [], .sl 1 []] ∧ tflat Tryz.prog 28 = false ∧ tbool Tryz.prog 28 = false := by
 refine ⟨?_, ?_, ?_, ?_, ?_, ?_, ?_, ?_, ?_⟩ <;> kernel_rfl
@[go_sem] theorem t_29 : Tryz.prog.cellsOf 29 = 4 ∧ tl Tryz.prog 29 = some (true, 4) ∧ te Tryz.prog 29 = none ∧ tp Tryz.prog 29 = some [(0, 2), (2, 2)] ∧ tf Tryz.prog 29 0 = some (0, true, 2) ∧ tf Tryz.prog 29 1 = some (2, true, 2) ∧ tz Tryz.prog 29 = some [.sl 1 [], .sl 1 [], .sl 1 [], .sl 1 []] ∧ tflat Tryz.prog 29 = false ∧ tbool Tryz.prog 29 = false := by
 refine ⟨?_, ?_, ?_, ?_, ?_, ?_, ?_, ?_, ?_⟩ <;> kernel_rfl
@[go_sem] theorem t_30 : Tryz.prog.cellsOf 30 = 1 ∧ tl Tryz.prog 30 = some (false, 1) ∧ te Tryz.prog 30 = some (335, 4, 32) ∧ tz Tryz.prog 30 = some [.sl 4 []] ∧ tflat Tryz.prog 30 = false ∧ tbool Tryz.prog 30 = false := by
 refine ⟨?_, ?_, ?_, ?_, ?_, ?_⟩ <;> kernel_rfl
@[go_sem] theorem t_31 : Tryz.prog.cellsOf 31 = 2 ∧ tl Tryz.prog 31 = some (true, 2) ∧ te Tryz.prog 31 = none ∧ tp Tryz.prog 31 = some [(0, 1), (1, 1)] ∧ tf Tryz.prog 31 0 = some (0, false, 1) ∧ tf Tryz.prog 31 1 = some (1, false, 1) ∧ tz Tryz.prog 31 = some [.int .i64 0, .sl 4 []] ∧ tflat Tryz.prog 31 = false ∧ tbool Tryz.prog 31 = false := by
 refine ⟨?_, ?_, ?_, ?_, ?_, ?_, ?_, ?_, ?_⟩ <;> kernel_rfl
@[go_sem] theorem t_32 : Tryz.prog.cellsOf 32 = 2 ∧ tl Tryz.prog 32 = some (true, 2) ∧ te Tryz.prog 32 = none ∧ tp Tryz.prog 32 = some [(0, 1), (1, 1)] ∧ tf Tryz.prog 32 0 = some (0, false, 1) ∧ tf Tryz.prog 32 1 = some (1, false, 1) ∧ tz Tryz.prog 32 = some [.int .i64 0, .sl 4 []] ∧ tflat Tryz.prog 32 = false ∧ tbool Tryz.prog 32 = false := by
 refine ⟨?_, ?_, ?_, ?_, ?_, ?_, ?_, ?_, ?_⟩ <;> kernel_rfl
@[go_sem] theorem t_33 : Tryz.prog.cellsOf 33 = 1 ∧ tl Tryz.prog 33 = some (false, 1) ∧ te Tryz.prog 33 = some (269, 1, 24) ∧ tz Tryz.prog 33 = some [.sl 1 []] ∧ tflat Tryz.prog 33 = false ∧ tbool Tryz.prog 33 = false := by
 refine ⟨?_, ?_, ?_, ?_, ?_, ?_⟩ <;> kernel_rfl
@[go_sem] theorem t_34 : Tryz.prog.cellsOf 34 = 8 ∧ tl Tryz.prog 34 = some (true, 8) ∧ te Tryz.prog 34 = none ∧ tp Tryz.prog 34 = some [(0, 4), (4, 2), (6, 1), (7, 1)] ∧ tf Tryz.prog 34 0 = some (0, true, 4) ∧ tf Tryz.prog 34 1 = some (4, true, 2) ∧ tf Tryz.prog 34 2 = some (6, false, 1) ∧ tf Tryz.prog 34 3 = some (7, false, 1) ∧ tz Tryz.prog 34 = some [.sl 1 [], .sl 1 [], .sl 1 [], .sl 1 [], .int .i64 0, .sl 4 [], .sl 1 [], .sl 1 []] ∧ tflat Tryz.prog 34 = false ∧ tbool Tryz.prog 34 = false := by
 refine ⟨?_, ?_, ?_, ?_, ?_, ?_, ?_, ?_, ?_, ?_, ?_⟩ <;> kernel_rfl
@[go_sem] theorem t_35 : Tryz.prog.cellsOf 35 = 8 ∧ tl Tryz.prog 35 = some (true, 8) ∧ te Tryz.prog 35 = none ∧ tp Tryz.prog 35 = some [(0, 4), (4, 2), (6, 1), (7, 1)] ∧ tf Tryz.prog 35 0 = some (0, true, 4) ∧ tf Tryz.prog 35 1 = some (4, true, 2) ∧ tf Tryz.prog 35 2 = some (6, false, 1) ∧ tf Tryz.prog 35 3 = some (7, false, 1) ∧ tz Tryz.prog 35 = some [.sl 1 [], .sl 1 [], .sl 1 [], .sl 1 [], .int .i64 0, .sl 4 [], .sl 1 [], .sl 1 []] ∧ tflat Tryz.prog 35 = false ∧ tbool Tryz.prog 35 = false := by
 refine ⟨?_, ?_, ?_, ?_, ?_, ?_, ?_, ?_, ?_, ?_, ?_⟩ <;> kernel_rfl
@[go_sem] theorem t_36 : Tryz.prog.cellsOf 36 = 1 ∧ tl Tryz.prog 36 = some (false, 1) ∧ te Tryz.prog 36 = some (205, 3, 24) ∧ tz Tryz.prog 36 = some [.sl 3 []] ∧ tflat Tryz.prog 36 = false ∧ tbool Tryz.prog 36 = false := by
 refine ⟨?_, ?_, ?_, ?_, ?_, ?_⟩ <;> kernel_rfl
@[go_sem] theorem t_37 : Tryz.prog.cellsOf 37 = 1 ∧ tl Tryz.prog 37 = some (false, 1) ∧ te Tryz.prog 37 = some (182, 32, 368) ∧ tz Tryz.prog 37 = some [.sl 32 []] ∧ tflat Tryz.prog 37 = false ∧ tbool Tryz.prog 37 = false := by
 refine ⟨?_, ?_, ?_, ?_, ?_, ?_⟩ <;> kernel_rfl
@[go_sem] theorem t_38 : Tryz.prog.cellsOf 38 = 1 ∧ tl Tryz.prog 38 = some (false, 1) ∧ te Tryz.prog 38 = some (160, 1, 24) ∧ tz Tryz.prog 38 = some [.sl 1 []] ∧ tflat Tryz.prog 38 = false ∧ tbool Tryz.prog 38 = false := by
 refine ⟨?_, ?_, ?_, ?_, ?_, ?_⟩ <;> kernel_rfl
@[go_sem] theorem t_39 : Tryz.prog.cellsOf 39 = 1 ∧ tl Tryz.prog 39 = some (false, 1) ∧ te Tryz.prog 39 = some (185, 6, 80) ∧ tz Tryz.prog 39 = some [.sl 6 []] ∧ tflat Tryz.prog 39 = false ∧ tbool Tryz.prog 39 = false := by
 refine ⟨?_, ?_, ?_, ?_, ?_, ?_⟩ <;> kernel_rfl
@[go_sem] theorem t_40 : Tryz.prog.cellsOf 40 = 13 ∧ tl Tryz.prog 40 = some (true, 13) ∧ te Tryz.prog 40 = none ∧ tp Tryz.prog 40 = some [(0, 8), (8, 1), (9, 1), (10, 1), (11, 1), (12, 1)] ∧ tf Tryz.prog 40 0 = some (0, true, 8) ∧ tf Tryz.prog 40 1 = some (8, false, 1) ∧ tf Tryz.prog 40 2 = some (9, false, 1) ∧ tf Tryz.prog 40 3 = some (10, false, 1) ∧ tf Tryz.prog 40 4 = some (11, false, 1) ∧ tf Tryz.prog 40 5 = some (12, false, 1) ∧ tz Tryz.prog 40 = some [.sl 1 [], .sl 1 [], .sl 1 [], .sl 1 [], .int .i64 0, .sl 4 [], .sl 1 [], .sl 1 [], .sl 3 [], .sl 32 [], .sl 1 [], .sl 6 [], .int .i64 0] ∧ tflat Tryz.prog 40 = false ∧ tbool Tryz.prog 40 = false := by
 refine ⟨?_, ?_, ?_, ?_, ?_, ?_, ?_, ?_, ?_, ?_, ?_, ?_, ?_⟩ <;> kernel_rfl
@[go_sem] theorem t_41 : Tryz.prog.cellsOf 41 = 13 ∧ tl Tryz.prog 41 = some (true, 13) ∧ te Tryz.prog 41 = none ∧ tp Tryz.prog 41 = some [(0, 8), (8, 1), (9, 1), (10, 1), (11, 1), (12, 1)] ∧ tf Tryz.prog 41 0 = some (0, true, 8) ∧ tf Tryz.prog 41 1 = some (8, false, 1) ∧ tf Tryz.prog 41 2 = some (9, false, 1) ∧ tf Tryz.prog 41 3 = some (10, false, 1) ∧ tf Tryz.prog 41 4 = some (11, false, 1) ∧ tf Tryz.prog 41 5 = some (12, false, 1) ∧ tz Tryz.prog 41 = some [.sl 1 [], .sl 1 [], .sl 1 [], .sl 1 [], .int .i64 0, .sl 4 [], .sl 1 [], .sl 1 [], .sl 3 [], .sl 32 [], .sl 1 [], .sl 6 [], .int .i64 0] ∧ tflat Tryz.prog 41 = false ∧ tbool Tryz.prog 41 = false := by
 refine ⟨?_, ?_, ?_, ?_, ?_, ?_, ?_, ?_, ?_, ?_, ?_, ?_, ?_⟩ <;> kernel_rfl
@[go_sem] theorem t_44 : Tryz.prog.cellsOf 44 = 2 ∧ tl Tryz.prog 44 = some (true, 2) ∧ te Tryz.prog 44 = none ∧ tp Tryz.prog 44 = some [(0, 1), (1, 1)] ∧ tf Tryz.prog 44 0 = some (0, false, 1) ∧ tf Tryz.prog 44 1 = some (1, false, 1) ∧ tz Tryz.prog 44 = some [.sl 1 [], .sl 1 []] ∧ tflat Tryz.prog 44 = false ∧ tbool Tryz.prog 44 = false := by
 refine ⟨?_, ?_, ?_, ?_, ?_, ?_, ?_, ?_, ?_⟩ <;> kernel_rfl
@[go_sem] theorem t_45 : Tryz.prog.cellsOf 45 = 1 ∧ tl Tryz.prog 45 = some (false, 1) ∧ te Tryz.prog 45 = some (279, 1, 24) ∧ tz Tryz.prog 45 = some [.sl 1 []] ∧ tflat Tryz.prog 45 = false ∧ tbool Tryz.prog 45 = false := by
 refine ⟨?_, ?_, ?_, ?_, ?_, ?_⟩ <;> kernel_rfl
@[go_sem] theorem t_46 : Tryz.prog.cellsOf 46 = 2 ∧ tl Tryz.prog 46 = some (true, 2) ∧ te Tryz.prog 46 = none ∧ tp Tryz.prog 46 = some [(0, 1), (1, 1)] ∧ tf Tryz.prog 46 0 = some (0, false, 1) ∧ tf Tryz.prog 46 1 = some (1, false, 1) ∧ tz Tryz.prog 46 = some [.sl 1 [], .sl 1 []] ∧ tflat Tryz.prog 46 = false ∧ tbool Tryz.prog 46 = false := by
 refine ⟨?_, ?_, ?_, ?_, ?_, ?_, ?_, ?_, ?_⟩ <;> kernel_rfl
@[go_sem] theorem t_47 : Tryz.prog.cellsOf 47 = 2 ∧ tl Tryz.prog 47 = some (true, 2) ∧ te Tryz.prog 47 = none ∧ tp Tryz.prog 47 = some [(0, 1), (1, 1)] ∧ tf Tryz.prog 47 0 = some (0, false, 1) ∧ tf Tryz.prog 47 1 = some (1, false, 1) ∧ tz Tryz.prog 47 = some [.sl 1 [], .sl 1 []] ∧ tflat Tryz.prog 47 = false ∧ tbool Tryz.prog 47 = false := by
 refine ⟨?_, ?_, ?_, ?_, ?_, ?_, ?_, ?_, ?_⟩ <;> kernel_rfl
@[go_sem] theorem t_48 : Tryz.prog.cellsOf 48 = 4 ∧ tl Tryz.prog 48 = some (true, 4) ∧ te Tryz.prog 48 = none ∧ tp Tryz.prog 48 = some [(0, 2), (2, 2)] ∧ tf Tryz.prog 48 0 = some (0, true, 2) ∧ tf Tryz.prog 48 1 = some (2, true, 2) ∧ tz Tryz.prog 48 = some [.sl 1 [], .sl 1 [], .sl 1 [], .sl 1 []] ∧ tflat Tryz.prog 48 = false ∧ tbool Tryz.prog 48 = false := by
 refine ⟨?_, ?_, ?_, ?_, ?_, ?_, ?_, ?_, ?_⟩ <;> kernel_rfl
@[go_sem] theorem t_49 : Tryz.prog.cellsOf 49 = 4 ∧ tl Tryz.prog 49 = some (true, 4) ∧ te Tryz.prog 49 = none ∧ tp Tryz.prog 49 = some [(0, 2), (2, 2)] ∧ tf Tryz.prog 49 0 = some (0, true, 2) ∧ tf Tryz.prog 49 1 = some (2, true, 2) ∧ tz Tryz.prog 49 = some [.sl 1 [], .sl 1 [], .sl 1 [], .sl 1 []] ∧ tflat Tryz.prog 49 = false ∧ tbool Tryz.prog 49 = false := by
 refine ⟨?_, ?_, ?_, ?_, ?_, ?_, ?_, ?_, ?_⟩ <;> kernel_rfl
@[go_sem] theorem t_50 : Tryz.prog.cellsOf 50 = 1 ∧ tl Tryz.prog 50 = some (false, 1) ∧ te Tryz.prog 50 = some (139, 4, 32) ∧ tz Tryz.prog 50 = some [.sl 4 []] ∧ tflat Tryz.prog 50 = false ∧ tbool Tryz.prog 50 = false := by
 refine ⟨?_, ?_, ?_, ?_, ?_, ?_⟩ <;> kernel_rfl
@[go_sem] theorem t_51 : Tryz.prog.cellsOf 51 = 2 ∧ tl Tryz.prog 51 = some (true, 2) ∧ te Tryz.prog 51 = none ∧ tp Tryz.prog 51 = some [(0, 1), (1, 1)] ∧ tf Tryz.prog 51 0 = some (0, false, 1) ∧ tf Tryz.prog 51 1 = some (1, false, 1) ∧ tz Tryz.prog 51 = some [.int .i64 0, .sl 4 []] ∧ tflat Tryz.prog 51 = false ∧ tbool Tryz.prog 51 = false := by
 refine ⟨?_, ?_, ?_, ?_, ?_, ?_, ?_, ?_, ?_⟩ <;> kernel_rfl
@[go_sem] theorem t_52 : Tryz.prog.cellsOf 52 = 2 ∧ tl Tryz.prog 52 = some (true, 2) ∧ te Tryz.prog 52 = none ∧ tp Tryz.prog 52 = some [(0, 1), (1, 1)] ∧ tf Tryz.prog 52 0 = some (0, false, 1) ∧ tf Tryz.prog 52 1 = some (1, false, 1) ∧ tz Tryz.prog 52 = some [.int .i64 0, .sl 4 []] ∧ tflat Tryz.prog 52 = false ∧ tbool Tryz.prog 52 = false := by
 refine ⟨?_, ?_, ?_, ?_, ?_, ?_, ?_, ?_, ?_⟩ <;> kernel_rfl
@[go_sem] theorem t_53 : Tryz.prog.cellsOf 53 = 1 ∧ tl Tryz.prog 53 = some (false, 1) ∧ te Tryz.prog 53 = some (210, 1, 24) ∧ tz Tryz.prog 53 = some [.sl 1 []] ∧ tflat Tryz.prog 53 = false ∧ tbool Tryz.prog 53 = false := by
 refine ⟨?_, ?_, ?_, ?_, ?_, ?_⟩ <;> kernel_rfl
@[go_sem] theorem t_54 : Tryz.prog.cellsOf 54 = 8 ∧ tl Tryz.prog 54 = some (true, 8) ∧ te Tryz.prog 54 = none ∧ tp Tryz.prog 54 = some [(0, 4), (4, 2), (6, 1), (7, 1)] ∧ tf Tryz.prog 54 0 = some (0, true, 4) ∧ tf Tryz.prog 54 1 = some (4, true, 2) ∧ tf Tryz.prog 54 2 = some (6, false, 1) ∧ tf Tryz.prog 54 3 = some (7, false, 1) ∧ tz Tryz.prog 54 = some [.sl 1 [], .sl 1 [], .sl 1 [], .sl 1 [], .int .i64 0, .sl 4 [], .sl 1 [], .sl 1 []] ∧ tflat Tryz.prog 54 = false ∧ tbool Tryz.prog 54 = false := by
 refine ⟨?_, ?_, ?_, ?_, ?_, ?_, ?_, ?_, ?_, ?_, ?_⟩ <;> kernel_rfl
@[go_sem] theorem t_55 : Tryz.prog.cellsOf 55 = 8 ∧ tl Tryz.prog 55 = some (true, 8) ∧ te Tryz.prog 55 = none ∧ tp Tryz.prog 55 = some [(0, 4), (4, 2), (6, 1), (7, 1)] ∧ tf Tryz.prog 55 0 = some (0, true, 4) ∧ tf Tryz.prog 55 1 = some (4, true, 2) ∧ tf Tryz.prog 55 2 = some (6, false, 1) ∧ tf Tryz.prog 55 3 = some (7, false, 1) ∧ tz Tryz.prog 55 = some [.sl 1 [], .sl 1 [], .sl 1 [], .sl 1 [], .int .i64 0, .sl 4 [], .sl 1 [], .sl 1 []] ∧ tflat Tryz.prog 55 = false ∧ tbool Tryz.prog 55 = false := by
 refine ⟨?_, ?_, ?_, ?_, ?_, ?_, ?_, ?_, ?_, ?_, ?_⟩ <;> kernel_rfl
@[go_sem] theorem t_56 : Tryz.prog.cellsOf 56 = 1 ∧ tl Tryz.prog 56 = some (false, 1) ∧ te Tryz.prog 56 = some (91, 3, 24) ∧ tz Tryz.prog 56 = some [.sl 3 []] ∧ tflat Tryz.prog 56 = false ∧ tbool Tryz.prog 56 = false := by
 refine ⟨?_, ?_, ?_, ?_, ?_, ?_⟩ <;> kernel_rfl
@[go_sem] theorem t_57 : Tryz.prog.cellsOf 57 = 1 ∧ tl Tryz.prog 57 = some (false, 1) ∧ te Tryz.prog 57 = some (103, 32, 368) ∧ tz Tryz.prog 57 = some [.sl 32 []] ∧ tflat Tryz.prog 57 = false ∧ tbool Tryz.prog 57 = false := by
 refine ⟨?_, ?_, ?_, ?_, ?_, ?_⟩ <;> kernel_rfl
@[go_sem] theorem t_58 : Tryz.prog.cellsOf 58 = 1 ∧ tl Tryz.prog 58 = some (false, 1) ∧ te Tryz.prog 58 = some (165, 1, 24) ∧ tz Tryz.prog 58 = some [.sl 1 []] ∧ tflat Tryz.prog 58 = false ∧ tbool Tryz.prog 58 = false := by
 refine ⟨?_, ?_, ?_, ?_, ?_, ?_⟩ <;> kernel_rfl
@[go_sem] theorem t_59 : Tryz.prog.cellsOf 59 = 1 ∧ tl Tryz.prog 59 = some (false, 1) ∧ te Tryz.prog 59 = some (152, 6, 80) ∧ tz Tryz.prog 59 = some [.sl 6 []] ∧ tflat Tryz.prog 59 = false ∧ tbool Tryz.prog 59 = false := by
 refine ⟨?_, ?_, ?_, ?_, ?_, ?_⟩ <;> kernel_rfl
@[go_sem] theorem t_60 : Tryz.prog.cellsOf 60 = 13 ∧ tl Tryz.prog 60 = some (true, 13) ∧ te Tryz.prog 60 = none ∧ tp Tryz.prog 60 = some [(0, 8), (8, 1), (9, 1), (10, 1), (11, 1), (12, 1)] ∧ tf Tryz.prog 60 0 = some (0, true, 8) ∧ tf Tryz.prog 60 1 = some (8, false, 1) ∧ tf Tryz.prog 60 2 = some (9, false, 1) ∧ tf Tryz.prog 60 3 = some (10, false, 1) ∧ tf Tryz.prog 60 4 = some (11, false, 1) ∧ tf Tryz.prog 60 5 = some (12, false, 1) ∧ tz Tryz.prog 60 = some [.sl 1 [], .sl 1 [], .sl 1 [], .sl 1 [], .int .i64 0, .sl 4 [], .sl 1 [], .sl 1 [], .sl 3 [], .sl 32 [], .sl 1 [], .sl 6 [], .int .i64 0] ∧ tflat Tryz.prog 60 = false ∧ tbool Tryz.prog 60 = false := by
 refine ⟨?_, ?_, ?_, ?_, ?_, ?_, ?_, ?_, ?_, ?_, ?_, ?_, ?_⟩ <;> kernel_rfl
@[go_sem] theorem t_61 : Tryz.prog.cellsOf 61 = 13 ∧ tl Tryz.prog 61 = some (true, 13) ∧ te Tryz.prog 61 = none ∧ tp Tryz.prog 61 = some [(0, 8), (8, 1), (9, 1), (10, 1), (11, 1), (12, 1)] ∧ tf Tryz.prog 61 0 = some (0, true, 8) ∧ tf Tryz.prog 61 1 = some (8, false, 1) ∧ tf Tryz.prog 61 2 = some (9, false, 1) ∧ tf Tryz.prog 61 3 = some (10, false, 1) ∧ tf Tryz.prog 61 4 = some (11, false, 1) ∧ tf Tryz.prog 61 5 = some (12, false, 1) ∧ tz Tryz.prog 61 = some [.sl 1 [], .sl 1 [], .sl 1 [], .sl 1 [], .int .i64 0, .sl 4 [], .sl 1 [], .sl 1 [], .sl 3 [], .sl 32 [], .sl 1 [], .sl 6 [], .int .i64 0] ∧ tflat Tryz.prog 61 = false ∧ tbool Tryz.prog 61 = false := by
 refine ⟨?_, ?_, ?_, ?_, ?_, ?_, ?_, ?_, ?_, ?_, ?_, ?_, ?_⟩ <;> kernel_rfl
@[go_sem] theorem t_65 : Tryz.prog.cellsOf 65 = 1 ∧ tl Tryz.prog 65 = some (false, 1) ∧ te Tryz.prog 65 = some (134, 2, 16) ∧ tz Tryz.prog 65 = some [.sl 2 []] ∧ tflat Tryz.prog 65 = false ∧ tbool Tryz.prog 65 = false := by
 refine ⟨?_, ?_, ?_, ?_, ?_, ?_⟩ <;> kernel_rfl
@[go_sem] theorem t_90 : Tryz.prog.cellsOf 90 = 3 ∧ tl Tryz.prog 90 = some (true, 3) ∧ te Tryz.prog 90 = none ∧ tp Tryz.prog 90 = some [(0, 1), (1, 1), (2, 1)] ∧ tf Tryz.prog 90 0 = some (0, false, 1) ∧ tf Tryz.prog 90 1 = some (1, false, 1) ∧ tf Tryz.prog 90 2 = some (2, false, 1) ∧ tz Tryz.prog 90 = some [.int .i64 0, .int .i64 0, .int .i64 0] ∧ tflat Tryz.prog 90 = true ∧ tbool Tryz.prog 90 = false := by
 refine ⟨?_, ?_, ?_, ?_, ?_, ?_, ?_, ?_, ?_, ?_⟩ <;> kernel_rfl
@[go_sem] theorem t_91 : Tryz.prog.cellsOf 91 = 3 ∧ tl Tryz.prog 91 = some (true, 3) ∧ te Tryz.prog 91 = none ∧ tp Tryz.prog 91 = some [(0, 1), (1, 1), (2, 1)] ∧ tf Tryz.prog 91 0 = some (0, false, 1) ∧ tf Tryz.prog 91 1 = some (1, false, 1) ∧ tf Tryz.prog 91 2 = some (2, false, 1) ∧ teq Tryz.prog 91 = some [0, 0, 0] ∧ tz Tryz.prog 91 = some [.int .i64 0, .int .i64 0, .int .i64 0] ∧ tflat Tryz.prog 91 = true ∧ tbool Tryz.prog 91 = false := by
 refine ⟨?_, ?_, ?_, ?_, ?_, ?_, ?_, ?_, ?_, ?_, ?_⟩ <;> kernel_rfl
@[go_sem] theorem t_92 : Tryz.prog.cellsOf 92 = 1 ∧ tl Tryz.prog 92 = some (false, 1) ∧ te Tryz.prog 92 = some (251, 3, 24) ∧ tz Tryz.prog 92 = some [.sl 3 []] ∧ tflat Tryz.prog 92 = false ∧ tbool Tryz.prog 92 = false := by
 refine ⟨?_, ?_, ?_, ?_, ?_, ?_⟩ <;> kernel_rfl
@[go_sem] theorem t_93 : Tryz.prog.cellsOf 93 = 2 ∧ tl Tryz.prog 93 = some (true, 2) ∧ te Tryz.prog 93 = none ∧ tp Tryz.prog 93 = some [(0, 1), (1, 1)] ∧ tf Tryz.prog 93 0 = some (0, false, 1) ∧ tf Tryz.prog 93 1 = some (1, false, 1) ∧ tz Tryz.prog 93 = some [.bool false, .sl 3 []] ∧ tflat Tryz.prog 93 = false ∧ tbool Tryz.prog 93 = false := by
 refine ⟨?_, ?_, ?_, ?_, ?_, ?_, ?_, ?_, ?_⟩ <;> kernel_rfl
@[go_sem] theorem t_94 : Tryz.prog.cellsOf 94 = 2 ∧ tl Tryz.prog 94 = some (true, 2) ∧ te Tryz.prog 94 = none ∧ tp Tryz.prog 94 = some [(0, 1), (1, 1)] ∧ tf Tryz.prog 94 0 = some (0, false, 1) ∧ tf Tryz.prog 94 1 = some (1, false, 1) ∧ tz Tryz.prog 94 = some [.bool false, .sl 3 []] ∧ tflat Tryz.prog 94 = false ∧ tbool Tryz.prog 94 = false := by
 refine ⟨?_, ?_, ?_, ?_, ?_, ?_, ?_, ?_, ?_⟩ <;> kernel_rfl
@[go_sem] theorem t_95 : Tryz.prog.cellsOf 95 = 3 ∧ tl Tryz.prog 95 = some (true, 3) ∧ te Tryz.prog 95 = none ∧ tp Tryz.prog 95 = some [(0, 1), (1, 1), (2, 1)] ∧ tf Tryz.prog 95 0 = some (0, false, 1) ∧ tf Tryz.prog 95 1 = some (1, false, 1) ∧ tf Tryz.prog 95 2 = some (2, false, 1) ∧ tz Tryz.prog 95 = some [.int .i64 0, .int .i64 0, .int .i64 0] ∧ tflat Tryz.prog 95 = true ∧ tbool Tryz.prog 95 = false := by
 refine ⟨?_, ?_, ?_, ?_, ?_, ?_, ?_, ?_, ?_, ?_⟩ <;> kernel_rfl
@[go_sem] theorem t_96 : Tryz.prog.cellsOf 96 = 3 ∧ tl Tryz.prog 96 = some (true, 3) ∧ te Tryz.prog 96 = none ∧ tp Tryz.prog 96 = some [(0, 1), (1, 1), (2, 1)] ∧ tf Tryz.prog 96 0 = some (0, false, 1) ∧ tf Tryz.prog 96 1 = some (1, false, 1) ∧ tf Tryz.prog 96 2 = some (2, false, 1) ∧ teq Tryz.prog 96 = some [0, 0, 0] ∧ tz Tryz.prog 96 = some [.int .i64 0, .int .i64 0, .int .i64 0] ∧ tflat Tryz.prog 96 = true ∧ tbool Tryz.prog 96 = false := by
 refine ⟨?_, ?_, ?_, ?_, ?_, ?_, ?_, ?_, ?_, ?_, ?_⟩ <;> kernel_rfl
@[go_sem] theorem t_97 : Tryz.prog.cellsOf 97 = 10 ∧ tl Tryz.prog 97 = some (true, 10) ∧ te Tryz.prog 97 = none ∧ tp Tryz.prog 97 = some [(0, 1), (1, 1), (2, 1), (3, 1), (4, 1), (5, 1), (6, 1), (7, 1), (8, 1), (9, 1)] ∧ tf Tryz.prog 97 0 = some (0, false, 1) ∧ tf Tryz.prog 97 1 = some (1, false, 1) ∧ tf Tryz.prog 97 2 = some (2, false, 1) ∧ tf Tryz.prog 97 3 = some (3, false, 1) ∧ tf Tryz.prog 97 4 = some (4, false, 1) ∧ tf Tryz.prog 97 5 = some (5, false, 1) ∧ tf Tryz.prog 97 6 = some (6, false, 1) ∧ tf Tryz.prog 97 7 = some (7, false, 1) ∧ tf Tryz.prog 97 8 = some (8, false, 1) ∧ tf Tryz.prog 97 9 = some (9, false, 1) ∧ tz Tryz.prog 97 = some [.int .i64 0, .int .i64 0, .int .i64 0, .int .i64 0, .int .i64 0, .int .i64 0, .int .i64 0, .int .i64 0, .int .i64 0, .bool false] ∧ tflat Tryz.prog 97 = true ∧ tbool Tryz.prog 97 = false := by
 refine ⟨?_, ?_, ?_, ?_, ?_, ?_, ?_, ?_, ?_, ?_, ?_, ?_, ?_, ?_, ?_, ?_, ?_⟩ <;> kernel_rfl
@[go_sem] theorem t_98 : Tryz.prog.cellsOf 98 = 10 ∧ tl Tryz.prog 98 = some (true, 10) ∧ te Tryz.prog 98 = none ∧ tp Tryz.prog 98 = some [(0, 1), (1, 1), (2, 1), (3, 1), (4, 1), (5, 1), (6, 1), (7, 1), (8, 1), (9, 1)] ∧ tf Tryz.prog 98 0 = some (0, false, 1) ∧ tf Tryz.prog 98 1 = some (1, false, 1) ∧ tf Tryz.prog 98 2 = some (2, false, 1) ∧ tf Tryz.prog 98 3 = some (3, false, 1) ∧ tf Tryz.prog 98 4 = some (4, false, 1) ∧ tf Tryz.prog 98 5 = some (5, false, 1) ∧ tf Tryz.prog 98 6 = some (6, false, 1) ∧ tf Tryz.prog 98 7 = some (7, false, 1) ∧ tf Tryz.prog 98 8 = some (8, false, 1) ∧ tf Tryz.prog 98 9 = some (9, false, 1) ∧ teq Tryz.prog 98 = some [0, 0, 0, 0, 0, 0, 0, 0, 0, 1] ∧ tz Tryz.prog 98 = some [.int .i64 0, .int .i64 0, .int .i64 0, .int .i64 0, .int .i64 0, .int .i64 0, .int .i64 0, .int .i64 0, .int .i64 0, .bool false] ∧ tflat Tryz.prog 98 = true ∧ tbool Tryz.prog 98 = false := by
 refine ⟨?_, ?_, ?_, ?_, ?_, ?_, ?_, ?_, ?_, ?_, ?_, ?_, ?_, ?_, ?_, ?_, ?_, ?_⟩ <;> kernel_rfl
@[go_sem] theorem t_99 : Tryz.prog.cellsOf 99 = 1 ∧ tl Tryz.prog 99 = some (false, 1) ∧ te Tryz.prog 99 = some (196, 2, 16) ∧ tz Tryz.prog 99 = some [.sl 2 []] ∧ tflat Tryz.prog 99 = false ∧ tbool Tryz.prog 99 = false := by
 refine ⟨?_, ?_, ?_, ?_, ?_, ?_⟩ <;> kernel_rfl
@[go_sem] theorem t_100 : Tryz.prog.cellsOf 100 = 1 ∧ tl Tryz.prog 100 = some (false, 1) ∧ te Tryz.prog 100 = some (198, 3, 24) ∧ tz Tryz.prog 100 = some [.sl 3 []] ∧ tflat Tryz.prog 100 = false ∧ tbool Tryz.prog 100 = false := by
 refine ⟨?_, ?_, ?_, ?_, ?_, ?_⟩ <;> kernel_rfl
@[go_sem] theorem t_101 : Tryz.prog.cellsOf 101 = 1 ∧ tl Tryz.prog 101 = some (false, 1) ∧ te Tryz.prog 101 = some (253, 2, 16) ∧ tz Tryz.prog 101 = some [.sl 2 []] ∧ tflat Tryz.prog 101 = false ∧ tbool Tryz.prog 101 = false := by
 refine ⟨?_, ?_, ?_, ?_, ?_, ?_⟩ <;> kernel_rfl
@[go_sem] theorem t_102 : Tryz.prog.cellsOf 102 = 32 ∧ tl Tryz.prog 102 = some (true, 32) ∧ te Tryz.prog 102 = none ∧ tp Tryz.prog 102 = some [(0, 1), (1, 2), (3, 1), (4, 1), (5, 1), (6, 1), (7, 1), (8, 1), (9, 1), (10, 1), (11, 3), (14, 1), (15, 1), (16, 10), (26, 1), (27, 1), (28, 1), (29, 1), (30, 1), (31, 1)] ∧ tf Tryz.prog 102 0 = some (0, false, 1) ∧ tf Tryz.prog 102 1 = some (1, true, 2) ∧ tf Tryz.prog 102 2 = some (3, false, 1) ∧ tf Tryz.prog 102 3 = some (4, false, 1) ∧ tf Tryz.prog 102 4 = some (5, false, 1) ∧ tf Tryz.prog 102 5 = some (6, false, 1) ∧ tf Tryz.prog 102 6 = some (7, false, 1) ∧ tf Tryz.prog 102 7 = some (8, false, 1) ∧ tf Tryz.prog 102 8 = some (9, false, 1) ∧ tf Tryz.prog 102 9 = some (10, false, 1) ∧ tf Tryz.prog 102 10 = some (11, true, 3) ∧ tf Tryz.prog 102 11 = some (14, false, 1) ∧ tf Tryz.prog 102 12 = some (15, false, 1) ∧ tf Tryz.prog 102 13 = some (16, true, 10) ∧ tf Tryz.prog 102 14 = some (26, false, 1) ∧ tf Tryz.prog 102 15 = some (27, false, 1) ∧ tf Tryz.prog 102 16 = some (28, false, 1) ∧ tf Tryz.prog 102 17 = some (29, false, 1) ∧ tf Tryz.prog 102 18 = some (30, false, 1) ∧ tf Tryz.prog 102 19 = some (31, false, 1) ∧ tz Tryz.prog 102 = some [.bool false, .bool false, .sl 3 [], .int .i64 0, .int .i64 0, .int .i64 0, .int .i64 0, .int .i64 0, .int .i64 0, .int .i64 0, .int .i64 0, .int .i64 0, .int .i64 0, .int .i64 0, .bool false, .int .i64 0, .int .i64 0, .int .i64 0, .int .i64 0, .int .i64 0, .int .i64 0, .int .i64 0, .int .i64 0, .int .i64 0, .int .i64 0, .bool false, .sl 2 [], .sl 3 [], .sl 2 [], .sl 1 [], .sl 1 [], .sl 1 []] ∧ tflat Tryz.prog 102 = false ∧ tbool Tryz.prog 102 = false := by
 refine ⟨?_, ?_, ?_, ?_, ?_, ?_, ?_, ?_, ?_, ?_, ?_, ?_, ?_, ?_, ?_, ?_, ?_, ?_, ?_, ?_, ?_, ?_, ?_, ?_, ?_, ?_, ?_⟩ <;> kernel_rfl
@[go_sem] theorem t_103 : Tryz.prog.cellsOf 103 = 32 ∧ tl Tryz.prog 103 = some (true, 32) ∧ te Tryz.prog 103 = none ∧ tp Tryz.prog 103 = some [(0, 1), (1, 2), (3, 1), (4, 1), (5, 1), (6, 1), (7, 1), (8, 1), (9, 1), (10, 1), (11, 3), (14, 1), (15, 1), (16, 10), (26, 1), (27, 1), (28, 1), (29, 1), (30, 1), (31, 1)] ∧ tf Tryz.prog 103 0 = some (0, false, 1) ∧ tf Tryz.prog 103 1 = some (1, true, 2) ∧ tf Tryz.prog 103 2 = some (3, false, 1) ∧ tf Tryz.prog 103 3 = some (4, false, 1) ∧ tf Tryz.prog 103 4 = some (5, false, 1) ∧ tf Tryz.prog 103 5 = some (6, false, 1) ∧ tf Tryz.prog 103 6 = some (7, false, 1) ∧ tf Tryz.prog 103 7 = some (8, false, 1) ∧ tf Tryz.prog 103 8 = some (9, false, 1) ∧ tf Tryz.prog 103 9 = some (10, false, 1) ∧ tf Tryz.prog 103 10 = some (11, true, 3) ∧ tf Tryz.prog 103 11 = some (14, false, 1) ∧ tf Tryz.prog 103 12 = some (15, false, 1) ∧ tf Tryz.prog 103 13 = some (16, true, 10) ∧ tf Tryz.prog 103 14 = some (26, false, 1) ∧ tf Tryz.prog 103 15 = some (27, false, 1) ∧ tf Tryz.prog 103 16 = some (28, false, 1) ∧ tf Tryz.prog 103 17 = some (29, false, 1) ∧ tf Tryz.prog 103 18 = some (30, false, 1) ∧ tf Tryz.prog 103 19 = some (31, false, 1) ∧ tz Tryz.prog 103 = some [.bool false, .bool false, .sl 3 [], .int .i64 0, .int .i64 0, .int .i64 0, .int .i64 0, .int .i64 0, .int .i64 0, .int .i64 0, .int .i64 0, .int .i64 0, .int .i64 0, .int .i64 0, .bool false, .int .i64 0, .int .i64 0, .int .i64 0, .int .i64 0, .int .i64 0, .int .i64 0, .int .i64 0, .int .i64 0, .int .i64 0, .int .i64 0, .bool false, .sl 2 [], .sl 3 [], .sl 2 [], .sl 1 [], .sl 1 [], .sl 1 []] ∧ tflat Tryz.prog 103 = false ∧ tbool Tryz.prog 103 = false := by
 refine ⟨?_, ?_, ?_, ?_, ?_, ?_, ?_, ?_, ?_, ?_, ?_, ?_, ?_, ?_, ?_, ?_, ?_, ?_, ?_, ?_, ?_, ?_, ?_, ?_, ?_, ?_, ?_⟩ <;> kernel_rfl
@[go_sem] theorem t_125 : Tryz.prog.cellsOf 125 = 1 ∧ tl Tryz.prog 125 = some (false, 1) ∧ te Tryz.prog 125 = some (22, 1, 24) ∧ tz Tryz.prog 125 = some [.sl 1 []] ∧ tflat Tryz.prog 125 = false ∧ tbool Tryz.prog 125 = false := by
 refine ⟨?_, ?_, ?_, ?_, ?_, ?_⟩ <;> kernel_rfl
@[go_sem] theorem t_133 : Tryz.prog.cellsOf 133 = 2 ∧ tl Tryz.prog 133 = some (true, 2) ∧ te Tryz.prog 133 = none ∧ tp Tryz.prog 133 = some [(0, 1), (1, 1)] ∧ tf Tryz.prog 133 0 = some (0, false, 1) ∧ tf Tryz.prog 133 1 = some (1, false, 1) ∧ tz Tryz.prog 133 = some [.int .i64 0, .int .i64 0] ∧ tflat Tryz.prog 133 = true ∧ tbool Tryz.prog 133 = false := by
 refine ⟨?_, ?_, ?_, ?_, ?_, ?_, ?_, ?_, ?_⟩ <;> kernel_rfl
@[go_sem] theorem t_134 : Tryz.prog.cellsOf 134 = 2 ∧ tl Tryz.prog 134 = some (true, 2) ∧ te Tryz.prog 134 = none ∧ tp Tryz.prog 134 = some [(0, 1), (1, 1)] ∧ tf Tryz.prog 134 0 = some (0, false, 1) ∧ tf Tryz.prog 134 1 = some (1, false, 1) ∧ teq Tryz.prog 134 = some [0, 0] ∧ tz Tryz.prog 134 = some [.int .i64 0, .int .i64 0] ∧ tflat Tryz.prog 134 = true ∧ tbool Tryz.prog 134 = false := by
 refine ⟨?_, ?_, ?_, ?_, ?_, ?_, ?_, ?_, ?_, ?_⟩ <;> kernel_rfl
@[go_sem] theorem t_138 : Tryz.prog.cellsOf 138 = 4 ∧ tl Tryz.prog 138 = some (true, 4) ∧ te Tryz.prog 138 = none ∧ tp Tryz.prog 138 = some [(0, 1), (1, 1), (2, 1), (3, 1)] ∧ tf Tryz.prog 138 0 = some (0, false, 1) ∧ tf Tryz.prog 138 1 = some (1, false, 1) ∧ tf Tryz.prog 138 2 = some (2, false, 1) ∧ tf Tryz.prog 138 3 = some (3, false, 1) ∧ tz Tryz.prog 138 = some [.bool false, .int .i64 0, .bool false, .int .i64 0] ∧ tflat Tryz.prog 138 = true ∧ tbool Tryz.prog 138 = false := by
 refine ⟨?_, ?_, ?_, ?_, ?_, ?_, ?_, ?_, ?_, ?_, ?_⟩ <;> kernel_rfl
@[go_sem] theorem t_139 : Tryz.prog.cellsOf 139 = 4 ∧ tl Tryz.prog 139 = some (true, 4) ∧ te Tryz.prog 139 = none ∧ tp Tryz.prog 139 = some [(0, 1), (1, 1), (2, 1), (3, 1)] ∧ tf Tryz.prog 139 0 = some (0, false, 1) ∧ tf Tryz.prog 139 1 = some (1, false, 1) ∧ tf Tryz.prog 139 2 = some (2, false, 1) ∧ tf Tryz.prog 139 3 = some (3, false, 1) ∧ teq Tryz.prog 139 = some [1, 0, 1, 0] ∧ tz Tryz.prog 139 = some [.bool false, .int .i64 0, .bool false, .int .i64 0] ∧ tflat Tryz.prog 139 = true ∧ tbool Tryz.prog 139 = false := by
 refine ⟨?_, ?_, ?_, ?_, ?_, ?_, ?_, ?_, ?_, ?_, ?_, ?_⟩ <;> kernel_rfl
@[go_sem] theorem t_151 : Tryz.prog.cellsOf 151 = 6 ∧ tl Tryz.prog 151 = some (true, 6) ∧ te Tryz.prog 151 = none ∧ tp Tryz.prog 151 = some [(0, 1), (1, 1), (2, 1), (3, 1), (4, 1), (5, 1)] ∧ tf Tryz.prog 151 0 = some (0, false, 1) ∧ tf Tryz.prog 151 1 = some (1, false, 1) ∧ tf Tryz.prog 151 2 = some (2, false, 1) ∧ tf Tryz.prog 151 3 = some (3, false, 1) ∧ tf Tryz.prog 151 4 = some (4, false, 1) ∧ tf Tryz.prog 151 5 = some (5, false, 1) ∧ tz Tryz.prog 151 = some [.int .i64 0, .int .i64 0, .int .i64 0, .int .i64 0, .sl 3 [], .sl 2 []] ∧ tflat Tryz.prog 151 = false ∧ tbool Tryz.prog 151 = false := by
 refine ⟨?_, ?_, ?_, ?_, ?_, ?_, ?_, ?_, ?_, ?_, ?_, ?_, ?_⟩ <;> kernel_rfl
@[go_sem] theorem t_152 : Tryz.prog.cellsOf 152 = 6 ∧ tl Tryz.prog 152 = some (true, 6) ∧ te Tryz.prog 152 = none ∧ tp Tryz.prog 152 = some [(0, 1), (1, 1), (2, 1), (3, 1), (4, 1), (5, 1)] ∧ tf Tryz.prog 152 0 = some (0, false, 1) ∧ tf Tryz.prog 152 1 = some (1, false, 1) ∧ tf Tryz.prog 152 2 = some (2, false, 1) ∧ tf Tryz.prog 152 3 = some (3, false, 1) ∧ tf Tryz.prog 152 4 = some (4, false, 1) ∧ tf Tryz.prog 152 5 = some (5, false, 1) ∧ tz Tryz.prog 152 = some [.int .i64 0, .int .i64 0, .int .i64 0, .int .i64 0, .sl 3 [], .sl 2 []] ∧ tflat Tryz.prog 152 = false ∧ tbool Tryz.prog 152 = false := by
 refine ⟨?_, ?_, ?_, ?_, ?_, ?_, ?_, ?_, ?_, ?_, ?_, ?_, ?_⟩ <;> kernel_rfl
@[go_sem] theorem t_158 : Tryz.prog.cellsOf 158 = 1 ∧ tl Tryz.prog 158 = some (false, 1) ∧ te Tryz.prog 158 = some (175, 2, 32) ∧ tz Tryz.prog 158 = some [.sl 2 []] ∧ tflat Tryz.prog 158 = false ∧ tbool Tryz.prog 158 = false := by
 refine ⟨?_, ?_, ?_, ?_, ?_, ?_⟩ <;> kernel_rfl
@[go_sem] theorem t_159 : Tryz.prog.cellsOf 159 = 1 ∧ tl Tryz.prog 159 = some (true, 1) ∧ te Tryz.prog 159 = none ∧ tp Tryz.prog 159 = some [(0, 1)] ∧ tf Tryz.prog 159 0 = some (0, false, 1) ∧ tz Tryz.prog 159 = some [.sl 2 []] ∧ tflat Tryz.prog 159 = false ∧ tbool Tryz.prog 159 = false := by
 refine ⟨?_, ?_, ?_, ?_, ?_, ?_, ?_, ?_⟩ <;> kernel_rfl
@[go_sem] theorem tc_160 : Tryz.prog.cellsOf 160 = 1 := by kernel_rfl
@[go_sem] theorem t_160 : tl Tryz.prog 160 = some (true, 1) ∧ te Tryz.prog 160 = none ∧ tp Tryz.prog 160 = some [(0, 1)] ∧ tf Tryz.prog 160 0 = some (0, false, 1) ∧ tz Tryz.prog 160 = some [.sl 2 []] ∧ tflat Tryz.prog 160 = false ∧ tbool Tryz.prog 160 = false := by
 refine ⟨?_, ?_, ?_, ?_, ?_, ?_, ?_⟩ <;> kernel_rfl
@[go_sem] theorem t_163 : Tryz.prog.cellsOf 163 = 1 ∧ tl Tryz.prog 163 = some (false, 1) ∧ te Tryz.prog 163 = some (94, 2, 32) ∧ tz Tryz.prog 163 = some [.sl 2 []] ∧ tflat Tryz.prog 163 = false ∧ tbool Tryz.prog 163 = false := by
 refine ⟨?_, ?_, ?_, ?_, ?_, ?_⟩ <;> kernel_rfl
@[go_sem] theorem t_164 : Tryz.prog.cellsOf 164 = 1 ∧ tl Tryz.prog 164 = some (true, 1) ∧ te Tryz.prog 164 = none ∧ tp Tryz.prog 164 = some [(0, 1)] ∧ tf Tryz.prog 164 0 = some (0, false, 1) ∧ tz Tryz.prog 164 = some [.sl 2 []] ∧ tflat Tryz.prog 164 = false ∧ tbool Tryz.prog 164 = false := by
 refine ⟨?_, ?_, ?_, ?_, ?_, ?_, ?_, ?_⟩ <;> kernel_rfl
@[go_sem] theorem t_165 : Tryz.prog.cellsOf 165 = 1 ∧ tl Tryz.prog 165 = some (true, 1) ∧ te Tryz.prog 165 = none ∧ tp Tryz.prog 165 = some [(0, 1)] ∧ tf Tryz.prog 165 0 = some (0, false, 1) ∧ tz Tryz.prog 165 = some [.sl 2 []] ∧ tflat Tryz.prog 165 = false ∧ tbool Tryz.prog 165 = false := by
 refine ⟨?_, ?_, ?_, ?_, ?_, ?_, ?_, ?_⟩ <;> kernel_rfl
@[go_sem] theorem t_173 : Tryz.prog.cellsOf 173 = 1 ∧ tl Tryz.prog 173 = some (false, 1) ∧ te Tryz.prog 173 = some (344, 3, 24) ∧ tz Tryz.prog 173 = some [.sl 3 []] ∧ tflat Tryz.prog 173 = false ∧ tbool Tryz.prog 173 = false := by
 refine ⟨?_, ?_, ?_, ?_, ?_, ?_⟩ <;> kernel_rfl
@[go_sem] theorem t_174 : Tryz.prog.cellsOf 174 = 2 ∧ tl Tryz.prog 174 = some (true, 2) ∧ te Tryz.prog 174 = none ∧ tp Tryz.prog 174 = some [(0, 1), (1, 1)] ∧ tf Tryz.prog 174 0 = some (0, false, 1) ∧ tf Tryz.prog 174 1 = some (1, false, 1) ∧ tz Tryz.prog 174 = some [.bool false, .sl 3 []] ∧ tflat Tryz.prog 174 = false ∧ tbool Tryz.prog 174 = false := by
 refine ⟨?_, ?_, ?_, ?_, ?_, ?_, ?_, ?_, ?_⟩ <;> kernel_rfl
@[go_sem] theorem tc_175 : Tryz.prog.cellsOf 175 = 2 := by kernel_rfl
@[go_sem] theorem t_175 : tl Tryz.prog 175 = some (true, 2) ∧ te Tryz.prog 175 = none ∧ tp Tryz.prog 175 = some [(0, 1), (1, 1)] ∧ tf Tryz.prog 175 0 = some (0, false, 1) ∧ tf Tryz.prog 175 1 = some (1, false, 1) ∧ tz Tryz.prog 175 = some [.bool false, .sl 3 []] ∧ tflat Tryz.prog 175 = false ∧ tbool Tryz.prog 175 = false := by
 refine ⟨?_, ?_, ?_, ?_, ?_, ?_, ?_, ?_⟩ <;> kernel_rfl
@[go_sem] theorem t_176 : Tryz.prog.cellsOf 176 = 3 ∧ tl Tryz.prog 176 = some (true, 3) ∧ te Tryz.prog 176 = none ∧ tp Tryz.prog 176 = some [(0, 1), (1, 1), (2, 1)] ∧ tf Tryz.prog 176 0 = some (0, false, 1) ∧ tf Tryz.prog 176 1 = some (1, false, 1) ∧ tf Tryz.prog 176 2 = some (2, false, 1) ∧ teq Tryz.prog 176 = some [0, 0, 0] ∧ tz Tryz.prog 176 = some [.int .i64 0, .int .i64 0, .int .i64 0] ∧ tflat Tryz.prog 176 = true ∧ tbool Tryz.prog 176 = false := by
 refine ⟨?_, ?_, ?_, ?_, ?_, ?_, ?_, ?_, ?_, ?_, ?_⟩ <;> kernel_rfl
@[go_sem] theorem t_177 : Tryz.prog.cellsOf 177 = 10 ∧ tl Tryz.prog 177 = some (true, 10) ∧ te Tryz.prog 177 = none ∧ tp Tryz.prog 177 = some [(0, 1), (1, 1), (2, 1), (3, 1), (4, 1), (5, 1), (6, 1), (7, 1), (8, 1), (9, 1)] ∧ tf Tryz.prog 177 0 = some (0, false, 1) ∧ tf Tryz.prog 177 1 = some (1, false, 1) ∧ tf Tryz.prog 177 2 = some (2, false, 1) ∧ tf Tryz.prog 177 3 = some (3, false, 1) ∧ tf Tryz.prog 177 4 = some (4, false, 1) ∧ tf Tryz.prog 177 5 = some (5, false, 1) ∧ tf Tryz.prog 177 6 = some (6, false, 1) ∧ tf Tryz.prog 177 7 = some (7, false, 1) ∧ tf Tryz.prog 177 8 = some (8, false, 1) ∧ tf Tryz.prog 177 9 = some (9, false, 1) ∧ teq Tryz.prog 177 = some [0, 0, 0, 0, 0, 0, 0, 0, 0, 1] ∧ tz Tryz.prog 177 = some [.int .i64 0, .int .i64 0, .int .i64 0, .int .i64 0, .int .i64 0, .int .i64 0, .int .i64 0, .int .i64 0, .int .i64 0, .bool false] ∧ tflat Tryz.prog 177 = true ∧ tbool Tryz.prog 177 = false := by
 refine ⟨?_, ?_, ?_, ?_, ?_, ?_, ?_, ?_, ?_, ?_, ?_, ?_, ?_, ?_, ?_, ?_, ?_, ?_⟩ <;> kernel_rfl
@[go_sem] theorem t_178 : Tryz.prog.cellsOf 178 = 1 ∧ tl Tryz.prog 178 = some (false, 1) ∧ te Tryz.prog 178 = some (338, 2, 16) ∧ tz Tryz.prog 178 = some [.sl 2 []] ∧ tflat Tryz.prog 178 = false ∧ tbool Tryz.prog 178 = false := by
 refine ⟨?_, ?_, ?_, ?_, ?_, ?_⟩ <;> kernel_rfl
@[go_sem] theorem t_179 : Tryz.prog.cellsOf 179 = 1 ∧ tl Tryz.prog 179 = some (false, 1) ∧ te Tryz.prog 179 = some (340, 3, 24) ∧ tz Tryz.prog 179 = some [.sl 3 []] ∧ tflat Tryz.prog 179 = false ∧ tbool Tryz.prog 179 = false := by
 refine ⟨?_, ?_, ?_, ?_, ?_, ?_⟩ <;> kernel_rfl
@[go_sem] theorem t_180 : Tryz.prog.cellsOf 180 = 1 ∧ tl Tryz.prog 180 = some (false, 1) ∧ te Tryz.prog 180 = some (342, 2, 16) ∧ tz Tryz.prog 180 = some [.sl 2 []] ∧ tflat Tryz.prog 180 = false ∧ tbool Tryz.prog 180 = false := by
 refine ⟨?_, ?_, ?_, ?_, ?_, ?_⟩ <;> kernel_rfl
@[go_sem] theorem t_181 : Tryz.prog.cellsOf 181 = 32 ∧ tl Tryz.prog 181 = some (true, 32) ∧ te Tryz.prog 181 = none ∧ tp Tryz.prog 181 = some [(0, 1), (1, 2), (3, 1), (4, 1), (5, 1), (6, 1), (7, 1), (8, 1), (9, 1), (10, 1), (11, 3), (14, 1), (15, 1), (16, 10), (26, 1), (27, 1), (28, 1), (29, 1), (30, 1), (31, 1)] ∧ tf Tryz.prog 181 0 = some (0, false, 1) ∧ tf Tryz.prog 181 1 = some (1, true, 2) ∧ tf Tryz.prog 181 2 = some (3, false, 1) ∧ tf Tryz.prog 181 3 = some (4, false, 1) ∧ tf Tryz.prog 181 4 = some (5, false, 1) ∧ tf Tryz.prog 181 5 = some (6, false, 1) ∧ tf Tryz.prog 181 6 = some (7, false, 1) ∧ tf Tryz.prog 181 7 = some (8, false, 1) ∧ tf Tryz.prog 181 8 = some (9, false, 1) ∧ tf Tryz.prog 181 9 = some (10, false, 1) ∧ tf Tryz.prog 181 10 = some (11, true, 3) ∧ tf Tryz.prog 181 11 = some (14, false, 1) ∧ tf Tryz.prog 181 12 = some (15, false, 1) ∧ tf Tryz.prog 181 13 = some (16, true, 10) ∧ tf Tryz.prog 181 14 = some (26, false, 1) ∧ tf Tryz.prog 181 15 = some (27, false, 1) ∧ tf Tryz.prog 181 16 = some (28, false, 1) ∧ tf Tryz.prog 181 17 = some (29, false, 1) ∧ tf Tryz.prog 181 18 = some (30, false, 1) ∧ tf Tryz.prog 181 19 = some (31, false, 1) ∧ tz Tryz.prog 181 = some [.bool false, .bool false, .sl 3 [], .int .i64 0, .int .i64 0, .int .i64 0, .int .i64 0, .int .i64 0, .int .i64 0, .int .i64 0, .int .i64 0, .int .i64 0, .int .i64 0, .int .i64 0, .bool false, .int .i64 0, .int .i64 0, .int .i64 0, .int .i64 0, .int .i64 0, .int .i64 0, .int .i64 0, .int .i64 0, .int .i64 0, .int .i64 0, .bool false, .sl 2 [], .sl 3 [], .sl 2 [], .sl 1 [], .sl 1 [], .sl 1 []] ∧ tflat Tryz.prog 181 = false ∧ tbool Tryz.prog 181 = false := by
 refine ⟨?_, ?_, ?_, ?_, ?_, ?_, ?_, ?_, ?_, ?_, ?_, ?_, ?_, ?_, ?_, ?_, ?_, ?_, ?_, ?_, ?_, ?_, ?_, ?_, ?_, ?_, ?_⟩ <;> kernel_rfl
@[go_sem] theorem tc_182 : Tryz.prog.cellsOf 182 = 32 := by kernel_rfl
@[go_sem] theorem t_182 : tl Tryz.prog 182 = some (true, 32) ∧ te Tryz.prog 182 = none ∧ tp Tryz.prog 182 = some [(0, 1), (1, 2), (3, 1), (4, 1), (5, 1), (6, 1), (7, 1), (8, 1), (9, 1), (10, 1), (11, 3), (14, 1), (15, 1), (16, 10), (26, 1), (27, 1), (28, 1), (29, 1), (30, 1), (31, 1)] ∧ tf Tryz.prog 182 0 = some (0, false, 1) ∧ tf Tryz.prog 182 1 = some (1, true, 2) ∧ tf Tryz.prog 182 2 = some (3, false, 1) ∧ tf Tryz.prog 182 3 = some (4, false, 1) ∧ tf Tryz.prog 182 4 = some (5, false, 1) ∧ tf Tryz.prog 182 5 = some (6, false, 1) ∧ tf Tryz.prog 182 6 = some (7, false, 1) ∧ tf Tryz.prog 182 7 = some (8, false, 1) ∧ tf Tryz.prog 182 8 = some (9, false, 1) ∧ tf Tryz.prog 182 9 = some (10, false, 1) ∧ tf Tryz.prog 182 10 = some (11, true, 3) ∧ tf Tryz.prog 182 11 = some (14, false, 1) ∧ tf Tryz.prog 182 12 = some (15, false, 1) ∧ tf Tryz.prog 182 13 = some (16, true, 10) ∧ tf Tryz.prog 182 14 = some (26, false, 1) ∧ tf Tryz.prog 182 15 = some (27, false, 1) ∧ tf Tryz.prog 182 16 = some (28, false, 1) ∧ tf Tryz.prog 182 17 = some (29, false, 1) ∧ tf Tryz.prog 182 18 = some (30, false, 1) ∧ tf Tryz.prog 182 19 = some (31, false, 1) ∧ tz Tryz.prog 182 = some [.bool false, .bool false, .sl 3 [], .int .i64 0, .int .i64 0, .int .i64 0, .int .i64 0, .int .i64 0, .int .i64 0, .int .i64 0, .int .i64 0, .int .i64 0, .int .i64 0, .int .i64 0, .bool false, .int .i64 0, .int .i64 0, .int .i64 0, .int .i64 0, .int .i64 0, .int .i64 0, .int .i64 0, .int .i64 0, .int .i64 0, .int .i64 0, .bool false, .sl 2 [], .sl 3 [], .sl 2 [], .sl 1 [], .sl 1 [], .sl 1 []] ∧ tflat Tryz.prog 182 = false ∧ tbool Tryz.prog 182 = false := by
 refine ⟨?_, ?_, ?_, ?_, ?_, ?_, ?_, ?_, ?_, ?_, ?_, ?_, ?_, ?_, ?_, ?_, ?_, ?_, ?_, ?_, ?_, ?_, ?_, ?_, ?_, ?_⟩ <;> kernel_rfl
@[go_sem] theorem t_184 : Tryz.prog.cellsOf 184 = 6 ∧ tl Tryz.prog 184 = some (true, 6) ∧ te Tryz.prog 184 = none ∧ tp Tryz.prog 184 = some [(0, 1), (1, 1), (2, 1), (3, 1), (4, 1), (5, 1)] ∧ tf Tryz.prog 184 0 = some (0, false, 1) ∧ tf Tryz.prog 184 1 = some (1, false, 1) ∧ tf Tryz.prog 184 2 = some (2, false, 1) ∧ tf Tryz.prog 184 3 = some (3, false, 1) ∧ tf Tryz.prog 184 4 = some (4, false, 1) ∧ tf Tryz.prog 184 5 = some (5, false, 1) ∧ tz Tryz.prog 184 = some [.int .i64 0, .int .i64 0, .int .i64 0, .int .i64 0, .sl 3 [], .sl 2 []] ∧ tflat Tryz.prog 184 = false ∧ tbool Tryz.prog 184 = false := by
 refine ⟨?_, ?_, ?_, ?_, ?_, ?_, ?_, ?_, ?_, ?_, ?_, ?_, ?_⟩ <;> kernel_rfl
@[go_sem] theorem tc_185 : Tryz.prog.cellsOf 185 = 6 := by kernel_rfl
@[go_sem] theorem t_185 : tl Tryz.prog 185 = some (true, 6) ∧ te Tryz.prog 185 = none ∧ tp Tryz.prog 185 = some [(0, 1), (1, 1), (2, 1), (3, 1), (4, 1), (5, 1)] ∧ tf Tryz.prog 185 0 = some (0, false, 1) ∧ tf Tryz.prog 185 1 = some (1, false, 1) ∧ tf Tryz.prog 185 2 = some (2, false, 1) ∧ tf Tryz.prog 185 3 = some (3, false, 1) ∧ tf Tryz.prog 185 4 = some (4, false, 1) ∧ tf Tryz.prog 185 5 = some (5, false, 1) ∧ tz Tryz.prog 185 = some [.int .i64 0, .int .i64 0, .int .i64 0, .int .i64 0, .sl 3 [], .sl 2 []] ∧ tflat Tryz.prog 185 = false ∧ tbool Tryz.prog 185 = false := by
 refine ⟨?_, ?_, ?_, ?_, ?_, ?_, ?_, ?_, ?_, ?_, ?_, ?_⟩ <;> kernel_rfl
@[go_sem] theorem t_190 : Tryz.prog.cellsOf 190 = 1 ∧ tl Tryz.prog 190 = some (false, 1) ∧ te Tryz.prog 190 = some (193, 2, 16) ∧ tz Tryz.prog 190 = some [.sl 2 []] ∧ tflat Tryz.prog 190 = false ∧ tbool Tryz.prog 190 = false := by
 refine ⟨?_, ?_, ?_, ?_, ?_, ?_⟩ <;> kernel_rfl
@[go_sem] theorem t_192 : Tryz.prog.cellsOf 192 = 2 ∧ tl Tryz.prog 192 = some (true, 2) ∧ te Tryz.prog 192 = none ∧ tp Tryz.prog 192 = some [(0, 1), (1, 1)] ∧ tf Tryz.prog 192 0 = some (0, false, 1) ∧ tf Tryz.prog 192 1 = some (1, false, 1) ∧ tz Tryz.prog 192 = some [.int .i64 0, .int .i64 0] ∧ tflat Tryz.prog 192 = true ∧ tbool Tryz.prog 192 = false := by
 refine ⟨?_, ?_, ?_, ?_, ?_, ?_, ?_, ?_, ?_⟩ <;> kernel_rfl
@[go_sem] theorem t_193 : Tryz.prog.cellsOf 193 = 2 ∧ tl Tryz.prog 193 = some (true, 2) ∧ te Tryz.prog 193 = none ∧ tp Tryz.prog 193 = some [(0, 1), (1, 1)] ∧ tf Tryz.prog 193 0 = some (0, false, 1) ∧ tf Tryz.prog 193 1 = some (1, false, 1) ∧ teq Tryz.prog 193 = some [0, 0] ∧ tz Tryz.prog 193 = some [.int .i64 0, .int .i64 0] ∧ tflat Tryz.prog 193 = true ∧ tbool Tryz.prog 193 = false := by
 refine ⟨?_, ?_, ?_, ?_, ?_, ?_, ?_, ?_, ?_, ?_⟩ <;> kernel_rfl
@[go_sem] theorem t_195 : Tryz.prog.cellsOf 195 = 2 ∧ tl Tryz.prog 195 = some (true, 2) ∧ te Tryz.prog 195 = none ∧ tp Tryz.prog 195 = some [(0, 1), (1, 1)] ∧ tf Tryz.prog 195 0 = some (0, false, 1) ∧ tf Tryz.prog 195 1 = some (1, false, 1) ∧ tz Tryz.prog 195 = some [.int .i64 0, .int .i64 0] ∧ tflat Tryz.prog 195 = true ∧ tbool Tryz.prog 195 = false := by
 refine ⟨?_, ?_, ?_, ?_, ?_, ?_, ?_, ?_, ?_⟩ <;> kernel_rfl
@[go_sem] theorem t_196 : Tryz.prog.cellsOf 196 = 2 ∧ tl Tryz.prog 196 = some (true, 2) ∧ te Tryz.prog 196 = none ∧ tp Tryz.prog 196 = some [(0, 1), (1, 1)] ∧ tf Tryz.prog 196 0 = some (0, false, 1) ∧ tf Tryz.prog 196 1 = some (1, false, 1) ∧ teq Tryz.prog 196 = some [0, 0] ∧ tz Tryz.prog 196 = some [.int .i64 0, .int .i64 0] ∧ tflat Tryz.prog 196 = true ∧ tbool Tryz.prog 196 = false := by
 refine ⟨?_, ?_, ?_, ?_, ?_, ?_, ?_, ?_, ?_, ?_⟩ <;> kernel_rfl
@[go_sem] theorem t_197 : Tryz.prog.cellsOf 197 = 3 ∧ tl Tryz.prog 197 = some (true, 3) ∧ te Tryz.prog 197 = none ∧ tp Tryz.prog 197 = some [(0, 1), (1, 1), (2, 1)] ∧ tf Tryz.prog 197 0 = some (0, false, 1) ∧ tf Tryz.prog 197 1 = some (1, false, 1) ∧ tf Tryz.prog 197 2 = some (2, false, 1) ∧ tz Tryz.prog 197 = some [.int .i64 0, .bool false, .int .i64 0] ∧ tflat Tryz.prog 197 = true ∧ tbool Tryz.prog 197 = false := by
 refine ⟨?_, ?_, ?_, ?_, ?_, ?_, ?_, ?_, ?_, ?_⟩ <;> kernel_rfl
@[go_sem] theorem t_198 : Tryz.prog.cellsOf 198 = 3 ∧ tl Tryz.prog 198 = some (true, 3) ∧ te Tryz.prog 198 = none ∧ tp Tryz.prog 198 = some [(0, 1), (1, 1), (2, 1)] ∧ tf Tryz.prog 198 0 = some (0, false, 1) ∧ tf Tryz.prog 198 1 = some (1, false, 1) ∧ tf Tryz.prog 198 2 = some (2, false, 1) ∧ teq Tryz.prog 198 = some [0, 1, 0] ∧ tz Tryz.prog 198 = some [.int .i64 0, .bool false, .int .i64 0] ∧ tflat Tryz.prog 198 = true ∧ tbool Tryz.prog 198 = false := by
 refine ⟨?_, ?_, ?_, ?_, ?_, ?_, ?_, ?_, ?_, ?_, ?_⟩ <;> kernel_rfl
@[go_sem] theorem tc_205 : Tryz.prog.cellsOf 205 = 3 := by kernel_rfl
@[go_sem] theorem t_205 : tl Tryz.prog 205 = some (true, 3) ∧ te Tryz.prog 205 = none ∧ tp Tryz.prog 205 = some [(0, 1), (1, 1), (2, 1)] ∧ tf Tryz.prog 205 0 = some (0, false, 1) ∧ tf Tryz.prog 205 1 = some (1, false, 1) ∧ tf Tryz.prog 205 2 = some (2, false, 1) ∧ teq Tryz.prog 205 = some [0, 0, 0] ∧ tz Tryz.prog 205 = some [.int .i64 0, .int .i64 0, .int .i64 0] ∧ tflat Tryz.prog 205 = true ∧ tbool Tryz.prog 205 = false := by
 refine ⟨?_, ?_, ?_, ?_, ?_, ?_, ?_, ?_, ?_, ?_⟩ <;> kernel_rfl
@[go_sem] theorem t_209 : Tryz.prog.cellsOf 209 = 1 ∧ tl Tryz.prog 209 = some (true, 1) ∧ te Tryz.prog 209 = none ∧ tp Tryz.prog 209 = some [(0, 1)] ∧ tf Tryz.prog 209 0 = some (0, false, 1) ∧ tz Tryz.prog 209 = some [.sl 2 []] ∧ tflat Tryz.prog 209 = false ∧ tbool Tryz.prog 209 = false := by
 refine ⟨?_, ?_, ?_, ?_, ?_, ?_, ?_, ?_⟩ <;> kernel_rfl
@[go_sem] theorem t_210 : Tryz.prog.cellsOf 210 = 1 ∧ tl Tryz.prog 210 = some (true, 1) ∧ te Tryz.prog 210 = none ∧ tp Tryz.prog 210 = some [(0, 1)] ∧ tf Tryz.prog 210 0 = some (0, false, 1) ∧ tz Tryz.prog 210 = some [.sl 2 []] ∧ tflat Tryz.prog 210 = false ∧ tbool Tryz.prog 210 = false := by
 refine ⟨?_, ?_, ?_, ?_, ?_, ?_, ?_, ?_⟩ <;> kernel_rfl
@[go_sem] theorem t_250 : Tryz.prog.cellsOf 250 = 3 ∧ tl Tryz.prog 250 = some (true, 3) ∧ te Tryz.prog 250 = none ∧ tp Tryz.prog 250 = some [(0, 1), (1, 1), (2, 1)] ∧ tf Tryz.prog 250 0 = some (0, false, 1) ∧ tf Tryz.prog 250 1 = some (1, false, 1) ∧ tf Tryz.prog 250 2 = some (2, false, 1) ∧ tz Tryz.prog 250 = some [.int .i64 0, .int .i64 0, .int .i64 0] ∧ tflat Tryz.prog 250 = true ∧ tbool Tryz.prog 250 = false := by
 refine ⟨?_, ?_, ?_, ?_, ?_, ?_, ?_, ?_, ?_, ?_⟩ <;> kernel_rfl
@[go_sem] theorem t_251 : Tryz.prog.cellsOf 251 = 3 ∧ tl Tryz.prog 251 = some (true, 3) ∧ te Tryz.prog 251 = none ∧ tp Tryz.prog 251 = some [(0, 1), (1, 1), (2, 1)] ∧ tf Tryz.prog 251 0 = some (0, false, 1) ∧ tf Tryz.prog 251 1 = some (1, false, 1) ∧ tf Tryz.prog 251 2 = some (2, false, 1) ∧ teq Tryz.prog 251 = some [0, 0, 0] ∧ tz Tryz.prog 251 = some [.int .i64 0, .int .i64 0, .int .i64 0] ∧ tflat Tryz.prog 251 = true ∧ tbool Tryz.prog 251 = false := by
 refine ⟨?_, ?_, ?_, ?_, ?_, ?_, ?_, ?_, ?_, ?_, ?_⟩ <;> kernel_rfl
@[go_sem] theorem t_252 : Tryz.prog.cellsOf 252 = 2 ∧ tl Tryz.prog 252 = some (true, 2) ∧ te Tryz.prog 252 = none ∧ tp Tryz.prog 252 = some [(0, 1), (1, 1)] ∧ tf Tryz.prog 252 0 = some (0, false, 1) ∧ tf Tryz.prog 252 1 = some (1, false, 1) ∧ tz Tryz.prog 252 = some [.bool false, .int .i64 0] ∧ tflat Tryz.prog 252 = true ∧ tbool Tryz.prog 252 = false := by
 refine ⟨?_, ?_, ?_, ?_, ?_, ?_, ?_, ?_, ?_⟩ <;> kernel_rfl
@[go_sem] theorem t_253 : Tryz.prog.cellsOf 253 = 2 ∧ tl Tryz.prog 253 = some (true, 2) ∧ te Tryz.prog 253 = none ∧ tp Tryz.prog 253 = some [(0, 1), (1, 1)] ∧ tf Tryz.prog 253 0 = some (0, false, 1) ∧ tf Tryz.prog 253 1 = some (1, false, 1) ∧ teq Tryz.prog 253 = some [1, 0] ∧ tz Tryz.prog 253 = some [.bool false, .int .i64 0] ∧ tflat Tryz.prog 253 = true ∧ tbool Tryz.prog 253 = false := by
 refine ⟨?_, ?_, ?_, ?_, ?_, ?_, ?_, ?_, ?_, ?_⟩ <;> kernel_rfl
@[go_sem] theorem t_267 : Tryz.prog.cellsOf 267 = 1 ∧ tl Tryz.prog 267 = some (false, 1) ∧ te Tryz.prog 267 = some (376, 2, 16) ∧ tz Tryz.prog 267 = some [.sl 2 []] ∧ tflat Tryz.prog 267 = false ∧ tbool Tryz.prog 267 = false := by
 refine ⟨?_, ?_, ?_, ?_, ?_, ?_⟩ <;> kernel_rfl
@[go_sem] theorem t_268 : Tryz.prog.cellsOf 268 = 1 ∧ tl Tryz.prog 268 = some (true, 1) ∧ te Tryz.prog 268 = none ∧ tp Tryz.prog 268 = some [(0, 1)] ∧ tf Tryz.prog 268 0 = some (0, false, 1) ∧ tz Tryz.prog 268 = some [.sl 2 []] ∧ tflat Tryz.prog 268 = false ∧ tbool Tryz.prog 268 = false := by
 refine ⟨?_, ?_, ?_, ?_, ?_, ?_, ?_, ?_⟩ <;> kernel_rfl
@[go_sem] theorem tc_269 : Tryz.prog.cellsOf 269 = 1 := by kernel_rfl
@[go_sem] theorem t_269 : tl Tryz.prog 269 = some (true, 1) ∧ te Tryz.prog 269 = none ∧ tp Tryz.prog 269 = some [(0, 1)] ∧ tf Tryz.prog 269 0 = some (0, false, 1) ∧ tz Tryz.prog 269 = some [.sl 2 []] ∧ tflat Tryz.prog 269 = false ∧ tbool Tryz.prog 269 = false := by
 refine ⟨?_, ?_, ?_, ?_, ?_, ?_, ?_⟩ <;> kernel_rfl
@[go_sem] theorem t_278 : Tryz.prog.cellsOf 278 = 1 ∧ tl Tryz.prog 278 = some (true, 1) ∧ te Tryz.prog 278 = none ∧ tp Tryz.prog 278 = some [(0, 1)] ∧ tf Tryz.prog 278 0 = some (0, false, 1) ∧ tz Tryz.prog 278 = some [.sl 1 []] ∧ tflat Tryz.prog 278 = false ∧ tbool Tryz.prog 278 = false := by
 refine ⟨?_, ?_, ?_, ?_, ?_, ?_, ?_, ?_⟩ <;> kernel_rfl
@[go_sem] theorem t_279 : Tryz.prog.cellsOf 279 = 1 ∧ tl Tryz.prog 279 = some (true, 1) ∧ te Tryz.prog 279 = none ∧ tp Tryz.prog 279 = some [(0, 1)] ∧ tf Tryz.prog 279 0 = some (0, false, 1) ∧ tz Tryz.prog 279 = some [.sl 1 []] ∧ tflat Tryz.prog 279 = false ∧ tbool Tryz.prog 279 = false := by
 refine ⟨?_, ?_, ?_, ?_, ?_, ?_, ?_, ?_⟩ <;> kernel_rfl
@[go_sem] theorem t_296 : Tryz.prog.cellsOf 296 = 24 ∧ tl Tryz.prog 296 = some (true, 24) ∧ te Tryz.prog 296 = none ∧ ta Tryz.prog 296 = some (24, 4, 1) ∧ tp Tryz.prog 296 = some [(0, 1), (1, 1), (2, 1), (3, 1), (4, 1), (5, 1), (6, 1), (7, 1), (8, 1), (9, 1), (10, 1), (11, 1), (12, 1), (13, 1), (14, 1), (15, 1), (16, 1), (17, 1), (18, 1), (19, 1), (20, 1), (21, 1), (22, 1), (23, 1)] ∧ tz Tryz.prog 296 = some [.bool false, .bool false, .bool false, .bool false, .bool false, .bool false, .bool false, .bool false, .bool false, .bool false, .bool false, .bool false, .bool false, .bool false, .bool false, .bool false, .bool false, .bool false, .bool false, .bool false, .bool false, .bool false, .bool false, .bool false] ∧ tflat Tryz.prog 296 = true ∧ tbool Tryz.prog 296 = false := by
 refine ⟨?_, ?_, ?_, ?_, ?_, ?_, ?_, ?_⟩ <;> kernel_rfl
@[go_sem] theorem t_324 : Tryz.prog.cellsOf 324 = 1 ∧ tl Tryz.prog 324 = some (false, 1) ∧ te Tryz.prog 324 = none ∧ tz Tryz.prog 324 = some [.int .u64 0] ∧ tflat Tryz.prog 324 = true ∧ tbool Tryz.prog 324 = false ∧ tkind Tryz.prog 324 = some .u64 := by
 refine ⟨?_, ?_, ?_, ?_, ?_, ?_, ?_⟩ <;> kernel_rfl
@[go_sem] theorem tc_335 : Tryz.prog.cellsOf 335 = 4 := by kernel_rfl
@[go_sem] theorem t_335 : tl Tryz.prog 335 = some (true, 4) ∧ te Tryz.prog 335 = none ∧ tp Tryz.prog 335 = some [(0, 1), (1, 1), (2, 1), (3, 1)] ∧ tf Tryz.prog 335 0 = some (0, false, 1) ∧ tf Tryz.prog 335 1 = some (1, false, 1) ∧ tf Tryz.prog 335 2 = some (2, false, 1) ∧ tf Tryz.prog 335 3 = some (3, false, 1) ∧ teq Tryz.prog 335 = some [1, 0, 1, 0] ∧ tz Tryz.prog 335 = some [.bool false, .int .i64 0, .bool false, .int .i64 0] ∧ tflat Tryz.prog 335 = true ∧ tbool Tryz.prog 335 = false := by
 refine ⟨?_, ?_, ?_, ?_, ?_, ?_, ?_, ?_, ?_, ?_, ?_⟩ <;> kernel_rfl
@[go_sem] theorem tc_338 : Tryz.prog.cellsOf 338 = 2 := by kernel_rfl
@[go_sem] theorem t_338 : tl Tryz.prog 338 = some (true, 2) ∧ te Tryz.prog 338 = none ∧ tp Tryz.prog 338 = some [(0, 1), (1, 1)] ∧ tf Tryz.prog 338 0 = some (0, false, 1) ∧ tf Tryz.prog 338 1 = some (1, false, 1) ∧ teq Tryz.prog 338 = some [0, 0] ∧ tz Tryz.prog 338 = some [.int .i64 0, .int .i64 0] ∧ tflat Tryz.prog 338 = true ∧ tbool Tryz.prog 338 = false := by
 refine ⟨?_, ?_, ?_, ?_, ?_, ?_, ?_, ?_, ?_⟩ <;> kernel_rfl
@[go_sem] theorem tc_340 : Tryz.prog.cellsOf 340 = 3 := by kernel_rfl
@[go_sem] theorem t_340 : tl Tryz.prog 340 = some (true, 3) ∧ te Tryz.prog 340 = none ∧ tp Tryz.prog 340 = some [(0, 1), (1, 1), (2, 1)] ∧ tf Tryz.prog 340 0 = some (0, false, 1) ∧ tf Tryz.prog 340 1 = some (1, false, 1) ∧ tf Tryz.prog 340 2 = some (2, false, 1) ∧ teq Tryz.prog 340 = some [0, 1, 0] ∧ tz Tryz.prog 340 = some [.int .i64 0, .bool false, .int .i64 0] ∧ tflat Tryz.prog 340 = true ∧ tbool Tryz.prog 340 = false := by
 refine ⟨?_, ?_, ?_, ?_, ?_, ?_, ?_, ?_, ?_, ?_⟩ <;> kernel_rfl
@[go_sem] theorem tc_342 : Tryz.prog.cellsOf 342 = 2 := by kernel_rfl
@[go_sem] theorem t_342 : tl Tryz.prog 342 = some (true, 2) ∧ te Tryz.prog 342 = none ∧ tp Tryz.prog 342 = some [(0, 1), (1, 1)] ∧ tf Tryz.prog 342 0 = some (0, false, 1) ∧ tf Tryz.prog 342 1 = some (1, false, 1) ∧ teq Tryz.prog 342 = some [1, 0] ∧ tz Tryz.prog 342 = some [.bool false, .int .i64 0] ∧ tflat Tryz.prog 342 = true ∧ tbool Tryz.prog 342 = false := by
 refine ⟨?_, ?_, ?_, ?_, ?_, ?_, ?_, ?_, ?_⟩ <;> kernel_rfl
@[go_sem] theorem tc_344 : Tryz.prog.cellsOf 344 = 3 := by kernel_rfl
@[go_sem] theorem t_344 : tl Tryz.prog 344 = some (true, 3) ∧ te Tryz.prog 344 = none ∧ tp Tryz.prog 344 = some [(0, 1), (1, 1), (2, 1)] ∧ tf Tryz.prog 344 0 = some (0, false, 1) ∧ tf Tryz.prog 344 1 = some (1, false, 1) ∧ tf Tryz.prog 344 2 = some (2, false, 1) ∧ teq Tryz.prog 344 = some [0, 0, 0] ∧ tz Tryz.prog 344 = some [.int .i64 0, .int .i64 0, .int .i64 0] ∧ tflat Tryz.prog 344 = true ∧ tbool Tryz.prog 344 = false := by
 refine ⟨?_, ?_, ?_, ?_, ?_, ?_, ?_, ?_, ?_, ?_⟩ <;> kernel_rfl
@[go_sem] theorem t_361 : Tryz.prog.cellsOf 361 = 1 ∧ tl Tryz.prog 361 = some (false, 1) ∧ te Tryz.prog 361 = none ∧ tz Tryz.prog 361 = some [.int .i64 0] ∧ tflat Tryz.prog 361 = true ∧ tbool Tryz.prog 361 = false ∧ tkind Tryz.prog 361 = some .i64 := by
 refine ⟨?_, ?_, ?_, ?_, ?_, ?_, ?_⟩ <;> kernel_rfl
@[go_sem] theorem t_369 : Tryz.prog.cellsOf 369 = 1 ∧ tl Tryz.prog 369 = some (false, 1) ∧ te Tryz.prog 369 = none ∧ tz Tryz.prog 369 = some [.int .u32 0] ∧ tflat Tryz.prog 369 = true ∧ tbool Tryz.prog 369 = false ∧ tkind Tryz.prog 369 = some .u32 := by
 refine ⟨?_, ?_, ?_, ?_, ?_, ?_, ?_⟩ <;> kernel_rfl
@[go_sem] theorem t_371 : Tryz.prog.cellsOf 371 = 1 ∧ tl Tryz.prog 371 = some (false, 1) ∧ te Tryz.prog 371 = none ∧ tz Tryz.prog 371 = some [.int .u64 0] ∧ tflat Tryz.prog 371 = true ∧ tbool Tryz.prog 371 = false ∧ tkind Tryz.prog 371 = some .u64 := by
 refine ⟨?_, ?_, ?_, ?_, ?_, ?_, ?_⟩ <;> kernel_rfl
@[go_sem] theorem tc_373 : Tryz.prog.cellsOf 373 = 1 := by kernel_rfl
@[go_sem] theorem t_373 : tl Tryz.prog 373 = some (true, 1) ∧ te Tryz.prog 373 = none ∧ tp Tryz.prog 373 = some [(0, 1)] ∧ tf Tryz.prog 373 0 = some (0, false, 1) ∧ tz Tryz.prog 373 = some [.sl 1 []] ∧ tflat Tryz.prog 373 = false ∧ tbool Tryz.prog 373 = false := by
 refine ⟨?_, ?_, ?_, ?_, ?_, ?_, ?_⟩ <;> kernel_rfl
@[go_sem] theorem tc_376 : Tryz.prog.cellsOf 376 = 2 := by kernel_rfl
@[go_sem] theorem t_376 : tl Tryz.prog 376 = some (true, 2) ∧ te Tryz.prog 376 = none ∧ tp Tryz.prog 376 = some [(0, 1), (1, 1)] ∧ tf Tryz.prog 376 0 = some (0, false, 1) ∧ tf Tryz.prog 376 1 = some (1, false, 1) ∧ teq Tryz.prog 376 = some [0, 0] ∧ tz Tryz.prog 376 = some [.int .i64 0, .int .i64 0] ∧ tflat Tryz.prog 376 = true ∧ tbool Tryz.prog 376 = false := by
 refine ⟨?_, ?_, ?_, ?_, ?_, ?_, ?_, ?_, ?_⟩ <;> kernel_rfl
@[go_sem] theorem t_377 : Tryz.prog.cellsOf 377 = 1 ∧ tl Tryz.prog 377 = some (false, 1) ∧ te Tryz.prog 377 = some (45, 1, 24) ∧ tz Tryz.prog 377 = some [.sl 1 []] ∧ tflat Tryz.prog 377 = false ∧ tbool Tryz.prog 377 = false := by
 refine ⟨?_, ?_, ?_, ?_, ?_, ?_⟩ <;> kernel_rfl
@[go_sem] theorem t_385 : Tryz.prog.cellsOf 385 = 1 ∧ tl Tryz.prog 385 = some (false, 1) ∧ te Tryz.prog 385 = none ∧ tz Tryz.prog 385 = some [.int .u64 0] ∧ tflat Tryz.prog 385 = true ∧ tbool Tryz.prog 385 = false ∧ tkind Tryz.prog 385 = some .u64 := by
 refine ⟨?_, ?_, ?_, ?_, ?_, ?_, ?_⟩ <;> kernel_rfl
@[go_sem] theorem t_389 : Tryz.prog.cellsOf 389 = 1 ∧ tl Tryz.prog 389 = some (false, 1) ∧ te Tryz.prog 389 = none ∧ tbool Tryz.prog 389 = false := by
 refine ⟨?_, ?_, ?_, ?_⟩ <;> kernel_rfl
@[go_sem] theorem t_393 : Tryz.prog.cellsOf 393 = 3 ∧ tl Tryz.prog 393 = some (true, 3) ∧ te Tryz.prog 393 = none ∧ ta Tryz.prog 393 = some (3, 3, 1) ∧ tp Tryz.prog 393 = some [(0, 1), (1, 1), (2, 1)] ∧ tz Tryz.prog 393 = some [.int .i64 0, .int .i64 0, .int .i64 0] ∧ tflat Tryz.prog 393 = true ∧ tbool Tryz.prog 393 = false := by
 refine ⟨?_, ?_, ?_, ?_, ?_, ?_, ?_, ?_⟩ <;> kernel_rfl
@[go_sem] theorem t_401 : Tryz.prog.cellsOf 401 = 4 ∧ tl Tryz.prog 401 = some (true, 4) ∧ te Tryz.prog 401 = none ∧ tp Tryz.prog 401 = some [(0, 1), (1, 1), (2, 1), (3, 1)] ∧ tf Tryz.prog 401 0 = some (0, false, 1) ∧ tf Tryz.prog 401 1 = some (1, false, 1) ∧ tf Tryz.prog 401 2 = some (2, false, 1) ∧ tf Tryz.prog 401 3 = some (3, false, 1) ∧ tbool Tryz.prog 401 = false := by
 refine ⟨?_, ?_, ?_, ?_, ?_, ?_, ?_, ?_, ?_⟩ <;> kernel_rfl
@[go_sem] theorem t_402 : Tryz.prog.cellsOf 402 = 4 ∧ tl Tryz.prog 402 = some (true, 4) ∧ te Tryz.prog 402 = none ∧ tp Tryz.prog 402 = some [(0, 1), (1, 1), (2, 1), (3, 1)] ∧ tf Tryz.prog 402 0 = some (0, false, 1) ∧ tf Tryz.prog 402 1 = some (1, false, 1) ∧ tf Tryz.prog 402 2 = some (2, false, 1) ∧ tf Tryz.prog 402 3 = some (3, false, 1) ∧ tbool Tryz.prog 402 = false := by
 refine ⟨?_, ?_, ?_, ?_, ?_, ?_, ?_, ?_, ?_⟩ <;> kernel_rfl
@[go_sem] theorem t_403 : Tryz.prog.cellsOf 403 = 0 ∧ tl Tryz.prog 403 = some (true, 0) ∧ te Tryz.prog 403 = none ∧ ta Tryz.prog 403 = some (0, 16, 1) ∧ tp Tryz.prog 403 = some [] ∧ tbool Tryz.prog 403 = false := by
 refine ⟨?_, ?_, ?_, ?_, ?_, ?_⟩ <;> kernel_rfl
@[go_sem] theorem t_404 : Tryz.prog.cellsOf 404 = 0 ∧ tl Tryz.prog 404 = some (true, 0) ∧ te Tryz.prog 404 = none ∧ tp Tryz.prog 404 = some [(0, 0)] ∧ tbool Tryz.prog 404 = false := by
 refine ⟨?_, ?_, ?_, ?_, ?_⟩ <;> kernel_rfl
@[go_sem] theorem t_405 : Tryz.prog.cellsOf 405 = 0 ∧ tl Tryz.prog 405 = some (true, 0) ∧ te Tryz.prog 405 = none ∧ tp Tryz.prog 405 = some [(0, 0)] ∧ tbool Tryz.prog 405 = false := by
 refine ⟨?_, ?_, ?_, ?_, ?_⟩ <;> kernel_rfl
@[go_sem] theorem t_407 : Tryz.prog.cellsOf 407 = 1 ∧ tl Tryz.prog 407 = some (false, 1) ∧ te Tryz.prog 407 = none ∧ tz Tryz.prog 407 = some [.int .u8 0] ∧ tflat Tryz.prog 407 = true ∧ tbool Tryz.prog 407 = false ∧ tkind Tryz.prog 407 = some .u8 := by
 refine ⟨?_, ?_, ?_, ?_, ?_, ?_, ?_⟩ <;> kernel_rfl
@[go_sem] theorem t_408 : Tryz.prog.cellsOf 408 = 1 ∧ tl Tryz.prog 408 = some (false, 1) ∧ te Tryz.prog 408 = none ∧ tz Tryz.prog 408 = some [.int .u8 0] ∧ tflat Tryz.prog 408 = true ∧ tbool Tryz.prog 408 = false ∧ tkind Tryz.prog 408 = some .u8 := by
 refine ⟨?_, ?_, ?_, ?_, ?_, ?_, ?_⟩ <;> kernel_rfl
@[go_sem] theorem t_410 : Tryz.prog.cellsOf 410 = 1 ∧ tl Tryz.prog 410 = some (false, 1) ∧ te Tryz.prog 410 = none ∧ tbool Tryz.prog 410 = false := by
 refine ⟨?_, ?_, ?_, ?_⟩ <;> kernel_rfl
@[go_sem] theorem t_411 : Tryz.prog.cellsOf 411 = 1 ∧ tl Tryz.prog 411 = some (false, 1) ∧ te Tryz.prog 411 = none ∧ tz Tryz.prog 411 = some [.int .i32 0] ∧ tflat Tryz.prog 411 = true ∧ tbool Tryz.prog 411 = false ∧ tkind Tryz.prog 411 = some .i32 := by
 refine ⟨?_, ?_, ?_, ?_, ?_, ?_, ?_⟩ <;> kernel_rfl
@[go_sem] theorem t_412 : Tryz.prog.cellsOf 412 = 1 ∧ tl Tryz.prog 412 = some (false, 1) ∧ te Tryz.prog 412 = none ∧ tz Tryz.prog 412 = some [.int .i32 0] ∧ tflat Tryz.prog 412 = true ∧ tbool Tryz.prog 412 = false ∧ tkind Tryz.prog 412 = some .i32 := by
 refine ⟨?_, ?_, ?_, ?_, ?_, ?_, ?_⟩ <;> kernel_rfl
@[go_sem] theorem t_413 : Tryz.prog.cellsOf 413 = 11 ∧ tl Tryz.prog 413 = some (true, 11) ∧ te Tryz.prog 413 = none ∧ tf Tryz.prog 413 0 = some (0, false, 1) ∧ tf Tryz.prog 413 1 = some (1, false, 1) ∧ tf Tryz.prog 413 2 = some (2, false, 1) ∧ tf Tryz.prog 413 3 = some (3, false, 1) ∧ tf Tryz.prog 413 4 = some (4, false, 1) ∧ tf Tryz.prog 413 5 = some (5, false, 1) ∧ tf Tryz.prog 413 6 = some (6, false, 1) ∧ tf Tryz.prog 413 8 = some (8, false, 1) ∧ tf Tryz.prog 413 9 = some (9, false, 1) ∧ tf Tryz.prog 413 10 = some (10, false, 1) ∧ tbool Tryz.prog 413 = false := by
 refine ⟨?_, ?_, ?_, ?_, ?_, ?_, ?_, ?_, ?_, ?_, ?_, ?_, ?_, ?_⟩ <;> kernel_rfl
@[go_sem] theorem t_414 : Tryz.prog.cellsOf 414 = 11 ∧ tl Tryz.prog 414 = some (true, 11) ∧ te Tryz.prog 414 = none ∧ tf Tryz.prog 414 0 = some (0, false, 1) ∧ tf Tryz.prog 414 1 = some (1, false, 1) ∧ tf Tryz.prog 414 2 = some (2, false, 1) ∧ tf Tryz.prog 414 3 = some (3, false, 1) ∧ tf Tryz.prog 414 4 = some (4, false, 1) ∧ tf Tryz.prog 414 5 = some (5, false, 1) ∧ tf Tryz.prog 414 6 = some (6, false, 1) ∧ tf Tryz.prog 414 8 = some (8, false, 1) ∧ tf Tryz.prog 414 9 = some (9, false, 1) ∧ tf Tryz.prog 414 10 = some (10, false, 1) ∧ tbool Tryz.prog 414 = false := by
 refine ⟨?_, ?_, ?_, ?_, ?_, ?_, ?_, ?_, ?_, ?_, ?_, ?_, ?_, ?_⟩ <;> kernel_rfl
theorem e2 : enters Tryz.prog 2 = true := by kernel_rfl
theorem e4 : enters Tryz.prog 4 = true := by kernel_rfl
theorem e13 : enters Tryz.prog 13 = true := by kernel_rfl
theorem e14 : enters Tryz.prog 14 = true := by kernel_rfl
theorem e15 : enters Tryz.prog 15 = true := by kernel_rfl
theorem e16 : enters Tryz.prog 16 = true := by kernel_rfl
theorem e17 : enters Tryz.prog 17 = true := by kernel_rfl
theorem e25 : enters Tryz.prog 25 = true := by kernel_rfl
theorem e28 : enters Tryz.prog 28 = true := by kernel_rfl
theorem e29 : enters Tryz.prog 29 = true := by kernel_rfl
theorem e30 : enters Tryz.prog 30 = true := by kernel_rfl
theorem e31 : enters Tryz.prog 31 = true := by kernel_rfl
theorem e32 : enters Tryz.prog 32 = true := by kernel_rfl
theorem e41 : enters Tryz.prog 41 = true := by kernel_rfl
theorem e42 : enters Tryz.prog 42 = true := by kernel_rfl
theorem e44 : enters Tryz.prog 44 = true := by kernel_rfl
theorem e46 : enters Tryz.prog 46 = true := by kernel_rfl
theorem e48 : enters Tryz.prog 48 = true := by kernel_rfl
theorem e49 : enters Tryz.prog 49 = true := by kernel_rfl
theorem e51 : enters Tryz.prog 51 = true := by kernel_rfl
theorem e52 : enters Tryz.prog 52 = true := by kernel_rfl
theorem e53 : enters Tryz.prog 53 = true := by kernel_rfl
theorem e54 : enters Tryz.prog 54 = true := by kernel_rfl
theorem e55 : enters Tryz.prog 55 = true := by kernel_rfl
theorem e56 : enters Tryz.prog 56 = true := by kernel_rfl
theorem e57 : enters Tryz.prog 57 = true := by kernel_rfl
theorem e58 : enters Tryz.prog 58 = true := by kernel_rfl
theorem e59 : enters Tryz.prog 59 = true := by kernel_rfl
theorem e60 : enters Tryz.prog 60 = true := by kernel_rfl
theorem e61 : enters Tryz.prog 61 = true := by kernel_rfl
theorem e62 : enters Tryz.prog 62 = true := by kernel_rfl
theorem e63 : enters Tryz.prog 63 = true := by kernel_rfl
theorem e64 : enters Tryz.prog 64 = true := by kernel_rfl
theorem e65 : enters Tryz.prog 65 = true := by kernel_rfl
theorem e66 : enters Tryz.prog 66 = true := by kernel_rfl
theorem e67 : enters Tryz.prog 67 = true := by kernel_rfl
theorem e68 : enters Tryz.prog 68 = true := by kernel_rfl
theorem e69 : enters Tryz.prog 69 = true := by kernel_rfl
theorem e70 : enters Tryz.prog 70 = true := by kernel_rfl
theorem e71 : enters Tryz.prog 71 = true := by kernel_rfl
theorem e72 : enters Tryz.prog 72 = true := by kernel_rfl
theorem e73 : enters Tryz.prog 73 = true := by kernel_rfl
theorem e74 : enters Tryz.prog 74 = true := by kernel_rfl
theorem e75 : enters Tryz.prog 75 = true := by kernel_rfl
theorem e76 : enters Tryz.prog 76 = true := by kernel_rfl
theorem e77 : enters Tryz.prog 77 = true := by kernel_rfl
theorem e78 : enters Tryz.prog 78 = true := by kernel_rfl
theorem e80 : enters Tryz.prog 80 = true := by kernel_rfl
theorem e97 : enters Tryz.prog 97 = true := by kernel_rfl
theorem e98 : enters Tryz.prog 98 = true := by kernel_rfl
theorem e99 : enters Tryz.prog 99 = true := by kernel_rfl
theorem e100 : enters Tryz.prog 100 = true := by kernel_rfl
theorem e101 : enters Tryz.prog 101 = true := by kernel_rfl
theorem e102 : enters Tryz.prog 102 = true := by kernel_rfl
theorem e103 : enters Tryz.prog 103 = true := by kernel_rfl
theorem e105 : enters Tryz.prog 105 = true := by kernel_rfl
theorem e113 : enters Tryz.prog 113 = true := by kernel_rfl
theorem e114 : enters Tryz.prog 114 = true := by kernel_rfl
theorem e115 : enters Tryz.prog 115 = true := by kernel_rfl
theorem e118 : enters Tryz.prog 118 = true := by kernel_rfl
theorem e121 : enters Tryz.prog 121 = true := by kernel_rfl
theorem e124 : enters Tryz.prog 124 = true := by kernel_rfl
theorem e125 : enters Tryz.prog 125 = true := by kernel_rfl
theorem e130 : enters Tryz.prog 130 = true := by kernel_rfl
theorem e131 : enters Tryz.prog 131 = true := by kernel_rfl
theorem e132 : enters Tryz.prog 132 = true := by kernel_rfl
theorem e133 : enters Tryz.prog 133 = true := by kernel_rfl
theorem e134 : enters Tryz.prog 134 = true := by kernel_rfl
theorem e135 : enters Tryz.prog 135 = true := by kernel_rfl
theorem e136 : enters Tryz.prog 136 = true := by kernel_rfl
theorem e137 : enters Tryz.prog 137 = true := by kernel_rfl
theorem e138 : enters Tryz.prog 138 = true := by kernel_rfl
theorem e139 : enters Tryz.prog 139 = true := by kernel_rfl
theorem e140 : enters Tryz.prog 140 = true := by kernel_rfl
theorem e141 : enters Tryz.prog 141 = true := by kernel_rfl
theorem e142 : enters Tryz.prog 142 = true := by kernel_rfl
theorem e143 : enters Tryz.prog 143 = true := by kernel_rfl
theorem e144 : enters Tryz.prog 144 = true := by kernel_rfl
theorem e145 : enters Tryz.prog 145 = true := by kernel_rfl
theorem e146 : enters Tryz.prog 146 = true := by kernel_rfl
theorem e147 : enters Tryz.prog 147 = true := by kernel_rfl
theorem e148 : enters Tryz.prog 148 = true := by kernel_rfl
theorem e149 : enters Tryz.prog 149 = true := by kernel_rfl
theorem e150 : enters Tryz.prog 150 = true := by kernel_rfl
theorem e151 : enters Tryz.prog 151 = true := by kernel_rfl
theorem e152 : enters Tryz.prog 152 = true := by kernel_rfl
theorem e153 : enters Tryz.prog 153 = true := by kernel_rfl
theorem e154 : enters Tryz.prog 154 = true := by kernel_rfl
theorem e155 : enters Tryz.prog 155 = true := by kernel_rfl
theorem e156 : enters Tryz.prog 156 = true := by kernel_rfl
theorem e157 : enters Tryz.prog 157 = true := by kernel_rfl
theorem e158 : enters Tryz.prog 158 = true := by kernel_rfl
theorem e159 : enters Tryz.prog 159 = true := by kernel_rfl
theorem e160 : enters Tryz.prog 160 = true := by kernel_rfl
theorem e161 : enters Tryz.prog 161 = true := by kernel_rfl
theorem e162 : enters Tryz.prog 162 = true := by kernel_rfl
theorem e163 : enters Tryz.prog 163 = true := by kernel_rfl
theorem e164 : enters Tryz.prog 164 = true := by kernel_rfl
theorem e165 : enters Tryz.prog 165 = true := by kernel_rfl
theorem e166 : enters Tryz.prog 166 = true := by kernel_rfl
theorem e167 : enters Tryz.prog 167 = true := by kernel_rfl
theorem e168 : enters Tryz.prog 168 = true := by kernel_rfl
theorem e169 : enters Tryz.prog 169 = true := by kernel_rfl
theorem e170 : enters Tryz.prog 170 = true := by kernel_rfl
theorem e171 : enters Tryz.prog 171 = true := by kernel_rfl
theorem e172 : enters Tryz.prog 172 = true := by kernel_rfl
theorem e173 : enters Tryz.prog 173 = true := by kernel_rfl
theorem e174 : enters Tryz.prog 174 = true := by kernel_rfl
theorem e175 : enters Tryz.prog 175 = true := by kernel_rfl
theorem e176 : enters Tryz.prog 176 = true := by kernel_rfl
theorem e177 : enters Tryz.prog 177 = true := by kernel_rfl
theorem e178 : enters Tryz.prog 178 = true := by kernel_rfl
theorem e179 : enters Tryz.prog 179 = true := by kernel_rfl
theorem e180 : enters Tryz.prog 180 = true := by kernel_rfl
theorem e181 : enters Tryz.prog 181 = true := by kernel_rfl
theorem e182 : enters Tryz.prog 182 = true := by kernel_rfl
theorem e183 : enters Tryz.prog 183 = true := by kernel_rfl
theorem e184 : enters Tryz.prog 184 = true := by kernel_rfl
theorem e185 : enters Tryz.prog 185 = true := by kernel_rfl
theorem e186 : enters Tryz.prog 186 = true := by kernel_rfl
theorem e187 : enters Tryz.prog 187 = true := by kernel_rfl
theorem e188 : enters Tryz.prog 188 = true := by kernel_rfl
theorem e189 : enters Tryz.prog 189 = true := by kernel_rfl
theorem e190 : enters Tryz.prog 190 = true := by kernel_rfl
theorem e207 : enters Tryz.prog 207 = true := by kernel_rfl
theorem e212 : enters Tryz.prog 212 = true := by kernel_rfl
theorem e213 : enters Tryz.prog 213 = true := by kernel_rfl
theorem e214 : enters Tryz.prog 214 = true := by kernel_rfl
theorem e215 : enters Tryz.prog 215 = true := by kernel_rfl
theorem e216 : enters Tryz.prog 216 = true := by kernel_rfl
theorem e217 : enters Tryz.prog 217 = true := by kernel_rfl
theorem e218 : enters Tryz.prog 218 = true := by kernel_rfl
theorem e219 : enters Tryz.prog 219 = true := by kernel_rfl
theorem e220 : enters Tryz.prog 220 = true := by kernel_rfl
theorem e221 : enters Tryz.prog 221 = true := by kernel_rfl
theorem e234 : enters Tryz.prog 234 = true := by kernel_rfl
theorem e235 : enters Tryz.prog 235 = true := by kernel_rfl
theorem e236 : enters Tryz.prog 236 = true := by kernel_rfl
theorem e242 : enters Tryz.prog 242 = true := by kernel_rfl
theorem e248 : enters Tryz.prog 248 = true := by kernel_rfl
theorem e255 : enters Tryz.prog 255 = true := by kernel_rfl
theorem e256 : enters Tryz.prog 256 = true := by kernel_rfl
theorem e257 : enters Tryz.prog 257 = true := by kernel_rfl
theorem e258 : enters Tryz.prog 258 = true := by kernel_rfl
theorem e259 : enters Tryz.prog 259 = true := by kernel_rfl
theorem e260 : enters Tryz.prog 260 = true := by kernel_rfl
theorem e261 : enters Tryz.prog 261 = true := by kernel_rfl
theorem e262 : enters Tryz.prog 262 = true := by kernel_rfl
theorem e263 : enters Tryz.prog 263 = true := by kernel_rfl
theorem e264 : enters Tryz.prog 264 = true := by kernel_rfl
theorem e265 : enters Tryz.prog 265 = true := by kernel_rfl
theorem e266 : enters Tryz.prog 266 = true := by kernel_rfl
theorem e267 : enters Tryz.prog 267 = true := by kernel_rfl
theorem e268 : enters Tryz.prog 268 = true := by kernel_rfl
theorem e269 : enters Tryz.prog 269 = true := by kernel_rfl
theorem e270 : enters Tryz.prog 270 = true := by kernel_rfl
theorem e271 : enters Tryz.prog 271 = true := by kernel_rfl
theorem e272 : enters Tryz.prog 272 = true := by kernel_rfl
theorem e273 : enters Tryz.prog 273 = true := by kernel_rfl
theorem e274 : enters Tryz.prog 274 = true := by kernel_rfl
theorem e275 : enters Tryz.prog 275 = true := by kernel_rfl
theorem e276 : enters Tryz.prog 276 = true := by kernel_rfl
theorem e277 : enters Tryz.prog 277 = true := by kernel_rfl
theorem e278 : enters Tryz.prog 278 = true := by kernel_rfl
theorem e279 : enters Tryz.prog 279 = true := by kernel_rfl
theorem e280 : enters Tryz.prog 280 = true := by kernel_rfl
theorem e281 : enters Tryz.prog 281 = true := by kernel_rfl
theorem e282 : enters Tryz.prog 282 = true := by kernel_rfl
theorem e283 : enters Tryz.prog 283 = true := by kernel_rfl
theorem e284 : enters Tryz.prog 284 = true := by kernel_rfl
theorem e285 : enters Tryz.prog 285 = true := by kernel_rfl
theorem e286 : enters Tryz.prog 286 = true := by kernel_rfl
theorem e287 : enters Tryz.prog 287 = true := by kernel_rfl
theorem e288 : enters Tryz.prog 288 = true := by kernel_rfl
theorem e289 : enters Tryz.prog 289 = true := by kernel_rfl
theorem e290 : enters Tryz.prog 290 = true := by kernel_rfl
theorem e291 : enters Tryz.prog 291 = true := by kernel_rfl
theorem e292 : enters Tryz.prog 292 = true := by kernel_rfl
theorem e293 : enters Tryz.prog 293 = true := by kernel_rfl
theorem e294 : enters Tryz.prog 294 = true := by kernel_rfl
theorem e295 : enters Tryz.prog 295 = true := by kernel_rfl
theorem e296 : enters Tryz.prog 296 = true := by kernel_rfl
theorem e297 : enters Tryz.prog 297 = true := by kernel_rfl
theorem e298 : enters Tryz.prog 298 = true := by kernel_rfl
theorem e299 : enters Tryz.prog 299 = true := by kernel_rfl
theorem e300 : enters Tryz.prog 300 = true := by kernel_rfl
theorem e301 : enters Tryz.prog 301 = true := by kernel_rfl
theorem e302 : enters Tryz.prog 302 = true := by kernel_rfl
theorem e303 : enters Tryz.prog 303 = true := by kernel_rfl
theorem e304 : enters Tryz.prog 304 = true := by kernel_rfl
theorem e305 : enters Tryz.prog 305 = true := by kernel_rfl
theorem e306 : enters Tryz.prog 306 = true := by kernel_rfl
theorem e307 : enters Tryz.prog 307 = true := by kernel_rfl
theorem e308 : enters Tryz.prog 308 = true := by kernel_rfl
theorem e309 : enters Tryz.prog 309 = true := by kernel_rfl
theorem e310 : enters Tryz.prog 310 = true := by kernel_rfl
theorem e311 : enters Tryz.prog 311 = true := by kernel_rfl
theorem e312 : enters Tryz.prog 312 = true := by kernel_rfl
theorem e313 : enters Tryz.prog 313 = true := by kernel_rfl
theorem e314 : enters Tryz.prog 314 = true := by kernel_rfl
theorem e315 : enters Tryz.prog 315 = true := by kernel_rfl
theorem e316 : enters Tryz.prog 316 = true := by kernel_rfl
theorem e317 : enters Tryz.prog 317 = true := by kernel_rfl
theorem e318 : enters Tryz.prog 318 = true := by kernel_rfl
theorem e319 : enters Tryz.prog 319 = true := by kernel_rfl
theorem e324 : enters Tryz.prog 324 = true := by kernel_rfl
theorem e334 : enters Tryz.prog 334 = true := by kernel_rfl
theorem e335 : enters Tryz.prog 335 = true := by kernel_rfl
theorem e336 : enters Tryz.prog 336 = true := by kernel_rfl
theorem e337 : enters Tryz.prog 337 = true := by kernel_rfl
theorem e343 : enters Tryz.prog 343 = true := by kernel_rfl
theorem e344 : enters Tryz.prog 344 = true := by kernel_rfl
theorem e353 : enters Tryz.prog 353 = true := by kernel_rfl
theorem e354 : enters Tryz.prog 354 = true := by kernel_rfl
theorem e355 : enters Tryz.prog 355 = true := by kernel_rfl
theorem e356 : enters Tryz.prog 356 = true := by kernel_rfl
theorem e357 : enters Tryz.prog 357 = true := by kernel_rfl
theorem e358 : enters Tryz.prog 358 = true := by kernel_rfl
theorem e359 : enters Tryz.prog 359 = true := by kernel_rfl
theorem e360 : enters Tryz.prog 360 = true := by kernel_rfl
theorem e361 : enters Tryz.prog 361 = true := by kernel_rfl
theorem e362 : enters Tryz.prog 362 = true := by kernel_rfl
theorem e363 : enters Tryz.prog 363 = true := by kernel_rfl
theorem e364 : enters Tryz.prog 364 = true := by kernel_rfl
theorem e365 : enters Tryz.prog 365 = true := by kernel_rfl
theorem e366 : enters Tryz.prog 366 = true := by kernel_rfl
theorem e367 : enters Tryz.prog 367 = true := by kernel_rfl
theorem e368 : enters Tryz.prog 368 = true := by kernel_rfl
theorem e369 : enters Tryz.prog 369 = true := by kernel_rfl
theorem e370 : enters Tryz.prog 370 = true := by kernel_rfl
theorem e371 : enters Tryz.prog 371 = true := by kernel_rfl
theorem e372 : enters Tryz.prog 372 = true := by kernel_rfl
theorem e373 : enters Tryz.prog 373 = true := by kernel_rfl
theorem e374 : enters Tryz.prog 374 = true := by kernel_rfl
theorem e375 : enters Tryz.prog 375 = true := by kernel_rfl
theorem e376 : enters Tryz.prog 376 = true := by kernel_rfl
theorem e377 : enters Tryz.prog 377 = true := by kernel_rfl
theorem e378 : enters Tryz.prog 378 = true := by kernel_rfl
theorem e379 : enters Tryz.prog 379 = true := by kernel_rfl
theorem e380 : enters Tryz.prog 380 = true := by kernel_rfl
theorem e381 : enters Tryz.prog 381 = true := by kernel_rfl
theorem e382 : enters Tryz.prog 382 = true := by kernel_rfl
theorem e383 : enters Tryz.prog 383 = true := by kernel_rfl
theorem e384 : enters Tryz.prog 384 = true := by kernel_rfl
theorem e385 : enters Tryz.prog 385 = true := by kernel_rfl
theorem e392 : enters Tryz.prog 392 = true := by kernel_rfl
theorem e406 : enters Tryz.prog 406 = true := by kernel_rfl
theorem e407 : enters Tryz.prog 407 = true := by kernel_rfl
theorem e408 : enters Tryz.prog 408 = true := by kernel_rfl
theorem e409 : enters Tryz.prog 409 = true := by kernel_rfl
theorem e410 : enters Tryz.prog 410 = true := by kernel_rfl
theorem e411 : enters Tryz.prog 411 = true := by kernel_rfl
theorem e412 : enters Tryz.prog 412 = true := by kernel_rfl
theorem e413 : enters Tryz.prog 413 = true := by kernel_rfl
theorem e414 : enters Tryz.prog 414 = true := by kernel_rfl
theorem e415 : enters Tryz.prog 415 = true := by kernel_rfl
theorem e416 : enters Tryz.prog 416 = true := by kernel_rfl
theorem e417 : enters Tryz.prog 417 = true := by kernel_rfl
theorem e418 : enters Tryz.prog 418 = true := by kernel_rfl
theorem e434 : enters Tryz.prog 434 = true := by kernel_rfl
theorem e435 : enters Tryz.prog 435 = true := by kernel_rfl
theorem e436 : enters Tryz.prog 436 = true := by kernel_rfl
theorem mixed : Tryz.prog.follows .mixedOrders = true := by kernel_rfl
end Go.Proofs.YtcanhdhlbghfiaaGreat.Ty
