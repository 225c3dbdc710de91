import Derived.Test.YtcnddedeeplbcaaGreatChecked
import Derived.Test.YtcnddedeeplbcaaGreatSAbsCode
import Derived.KernelRfl
/- Facts on the types of the translation, each closed. Written by wip/tools/gen.py. -/
namespace Go.Proofs.YtcnddedeeplbcaaGreat.Ty
open Go.Proofs.Tryz Go.Abs Go.Proofs
@[go_sem] theorem tc_3:prog.cellsOf 3=1:=by kernel_rfl
@[go_sem] theorem t_3:tl prog 3=some (false,1) /\ te prog 3=none /\ tz prog 3=some [.int .i64 0] /\ tflat prog 3=true /\ tbool prog 3=false /\ tkind prog 3=some .i64:=by and_intros <;> kernel_rfl
@[go_sem] theorem t_4:prog.cellsOf 4=1 /\ tl prog 4=some (false,1) /\ te prog 4=none /\ tz prog 4=some [.bool false] /\ tflat prog 4=true /\ tbool prog 4=true:=by and_intros <;> kernel_rfl
@[go_sem] theorem t_24:prog.cellsOf 24=1 /\ tl prog 24=some (false,1) /\ te prog 24=some (3,1,8) /\ tz prog 24=some [.sl 1 []] /\ tflat prog 24=false /\ tbool prog 24=false:=by and_intros <;> kernel_rfl
@[go_sem] theorem t_26:prog.cellsOf 26=2 /\ tl prog 26=some (true,2) /\ te prog 26=none /\ tp prog 26=some [(0,1),(1,1)] /\ tf prog 26 0=some (0,false,1) /\ tf prog 26 1=some (1,false,1) /\ tz prog 26=some [.sl 1 [],.sl 1 []] /\ tflat prog 26=false /\ tbool prog 26=false:=by and_intros <;> kernel_rfl
@[go_sem] theorem t_27:prog.cellsOf 27=1 /\ tl prog 27=some (false,1) /\ te prog 27=some (116,1,24) /\ tz prog 27=some [.sl 1 []] /\ tflat prog 27=false /\ tbool prog 27=false:=by and_intros <;> kernel_rfl
@[go_sem] theorem t_29:prog.cellsOf 29=2 /\ tl prog 29=some (true,2) /\ te prog 29=none /\ tp prog 29=some [(0,1),(1,1)] /\ tf prog 29 0=some (0,false,1) /\ tf prog 29 1=some (1,false,1) /\ tz prog 29=some [.sl 1 [],.sl 1 []] /\ tflat prog 29=false /\ tbool prog 29=false:=by and_intros <;> kernel_rfl
@[go_sem] theorem t_31:prog.cellsOf 31=4 /\ tl prog 31=some (true,4) /\ te prog 31=none /\ tp prog 31=some [(0,2),(2,2)] /\ tf prog 31 0=some (0,true,2) /\ tf prog 31 1=some (2,true,2) /\ tz prog 31=some [.sl 1 [],.sl 1 [],.sl 1 [],.sl 1 []] /\ tflat prog 31=false /\ tbool prog 31=false:=by and_intros <;> kernel_rfl
@[go_sem] theorem t_63:prog.cellsOf 63=2 /\ tl prog 63=some (true,2) /\ te prog 63=none /\ tp prog 63=some [(0,1),(1,1)] /\ tf prog 63 0=some (0,false,1) /\ tf prog 63 1=some (1,false,1) /\ tz prog 63=some [.sl 1 [],.sl 1 []] /\ tflat prog 63=false /\ tbool prog 63=false:=by and_intros <;> kernel_rfl
@[go_sem] theorem t_64:prog.cellsOf 64=1 /\ tl prog 64=some (false,1) /\ te prog 64=some (311,1,24) /\ tz prog 64=some [.sl 1 []] /\ tflat prog 64=false /\ tbool prog 64=false:=by and_intros <;> kernel_rfl
@[go_sem] theorem t_66:prog.cellsOf 66=2 /\ tl prog 66=some (true,2) /\ te prog 66=none /\ tp prog 66=some [(0,1),(1,1)] /\ tf prog 66 0=some (0,false,1) /\ tf prog 66 1=some (1,false,1) /\ tz prog 66=some [.sl 1 [],.sl 1 []] /\ tflat prog 66=false /\ tbool prog 66=false:=by and_intros <;> kernel_rfl
@[go_sem] theorem t_68:prog.cellsOf 68=4 /\ tl prog 68=some (true,4) /\ te prog 68=none /\ tp prog 68=some [(0,2),(2,2)] /\ tf prog 68 0=some (0,true,2) /\ tf prog 68 1=some (2,true,2) /\ tz prog 68=some [.sl 1 [],.sl 1 [],.sl 1 [],.sl 1 []] /\ tflat prog 68=false /\ tbool prog 68=false:=by and_intros <;> kernel_rfl
@[go_sem] theorem t_69:prog.cellsOf 69=1 /\ tl prog 69=some (false,1) /\ te prog 69=some (291,4,32) /\ tz prog 69=some [.sl 4 []] /\ tflat prog 69=false /\ tbool prog 69=false:=by and_intros <;> kernel_rfl
@[go_sem] theorem t_71:prog.cellsOf 71=2 /\ tl prog 71=some (true,2) /\ te prog 71=none /\ tp prog 71=some [(0,1),(1,1)] /\ tf prog 71 0=some (0,false,1) /\ tf prog 71 1=some (1,false,1) /\ tz prog 71=some [.int .i64 0,.sl 4 []] /\ tflat prog 71=false /\ tbool prog 71=false:=by and_intros <;> kernel_rfl
@[go_sem] theorem t_72:prog.cellsOf 72=1 /\ tl prog 72=some (false,1) /\ te prog 72=some (232,1,24) /\ tz prog 72=some [.sl 1 []] /\ tflat prog 72=false /\ tbool prog 72=false:=by and_intros <;> kernel_rfl
@[go_sem] theorem t_74:prog.cellsOf 74=8 /\ tl prog 74=some (true,8) /\ te prog 74=none /\ tp prog 74=some [(0,4),(4,2),(6,1),(7,1)] /\ tf prog 74 0=some (0,true,4) /\ tf prog 74 1=some (4,true,2) /\ tf prog 74 2=some (6,false,1) /\ tf prog 74 3=some (7,false,1) /\ tz prog 74=some [.sl 1 [],.sl 1 [],.sl 1 [],.sl 1 [],.int .i64 0,.sl 4 [],.sl 1 [],.sl 1 []] /\ tflat prog 74=false /\ tbool prog 74=false:=by and_intros <;> kernel_rfl
@[go_sem] theorem t_75:prog.cellsOf 75=1 /\ tl prog 75=some (false,1) /\ te prog 75=some (189,21,168) /\ tz prog 75=some [.sl 21 []] /\ tflat prog 75=false /\ tbool prog 75=false:=by and_intros <;> kernel_rfl
@[go_sem] theorem t_76:prog.cellsOf 76=1 /\ tl prog 76=some (false,1) /\ te prog 76=some (172,1,24) /\ tz prog 76=some [.sl 1 []] /\ tflat prog 76=false /\ tbool prog 76=false:=by and_intros <;> kernel_rfl
@[go_sem] theorem t_77:prog.cellsOf 77=1 /\ tl prog 77=some (false,1) /\ te prog 77=some (194,7,56) /\ tz prog 77=some [.sl 7 []] /\ tflat prog 77=false /\ tbool prog 77=false:=by and_intros <;> kernel_rfl
@[go_sem] theorem t_79:prog.cellsOf 79=13 /\ tl prog 79=some (true,13) /\ te prog 79=none /\ tp prog 79=some [(0,8),(8,1),(9,1),(10,1),(11,1),(12,1)] /\ tf prog 79 0=some (0,true,8) /\ tf prog 79 1=some (8,false,1) /\ tf prog 79 2=some (9,false,1) /\ tf prog 79 3=some (10,false,1) /\ tf prog 79 4=some (11,false,1) /\ tf prog 79 5=some (12,false,1) /\ tz prog 79=some [.sl 1 [],.sl 1 [],.sl 1 [],.sl 1 [],.int .i64 0,.sl 4 [],.sl 1 [],.sl 1 [],.sl 1 [],.sl 21 [],.sl 1 [],.sl 7 [],.int .i64 0] /\ tflat prog 79=false /\ tbool prog 79=false:=by and_intros <;> kernel_rfl
@[go_sem] theorem t_81:prog.cellsOf 81=1 /\ tl prog 81=some (false,1) /\ te prog 81=some (288,4,32) /\ tz prog 81=some [.sl 4 []] /\ tflat prog 81=false /\ tbool prog 81=false:=by and_intros <;> kernel_rfl
@[go_sem] theorem t_83:prog.cellsOf 83=2 /\ tl prog 83=some (true,2) /\ te prog 83=none /\ tp prog 83=some [(0,1),(1,1)] /\ tf prog 83 0=some (0,false,1) /\ tf prog 83 1=some (1,false,1) /\ tz prog 83=some [.int .i64 0,.sl 4 []] /\ tflat prog 83=false /\ tbool prog 83=false:=by and_intros <;> kernel_rfl
@[go_sem] theorem t_84:prog.cellsOf 84=1 /\ tl prog 84=some (false,1) /\ te prog 84=some (246,1,24) /\ tz prog 84=some [.sl 1 []] /\ tflat prog 84=false /\ tbool prog 84=false:=by and_intros <;> kernel_rfl
@[go_sem] theorem t_86:prog.cellsOf 86=8 /\ tl prog 86=some (true,8) /\ te prog 86=none /\ tp prog 86=some [(0,4),(4,2),(6,1),(7,1)] /\ tf prog 86 0=some (0,true,4) /\ tf prog 86 1=some (4,true,2) /\ tf prog 86 2=some (6,false,1) /\ tf prog 86 3=some (7,false,1) /\ tz prog 86=some [.sl 1 [],.sl 1 [],.sl 1 [],.sl 1 [],.int .i64 0,.sl 4 [],.sl 1 [],.sl 1 []] /\ tflat prog 86=false /\ tbool prog 86=false:=by and_intros <;> kernel_rfl
@[go_sem] theorem t_87:prog.cellsOf 87=1 /\ tl prog 87=some (false,1) /\ te prog 87=some (180,21,168) /\ tz prog 87=some [.sl 21 []] /\ tflat prog 87=false /\ tbool prog 87=false:=by and_intros <;> kernel_rfl
@[go_sem] theorem t_88:prog.cellsOf 88=1 /\ tl prog 88=some (false,1) /\ te prog 88=some (132,1,24) /\ tz prog 88=some [.sl 1 []] /\ tflat prog 88=false /\ tbool prog 88=false:=by and_intros <;> kernel_rfl
@[go_sem] theorem t_89:prog.cellsOf 89=1 /\ tl prog 89=some (false,1) /\ te prog 89=some (192,7,56) /\ tz prog 89=some [.sl 7 []] /\ tflat prog 89=false /\ tbool prog 89=false:=by and_intros <;> kernel_rfl
@[go_sem] theorem t_91:prog.cellsOf 91=13 /\ tl prog 91=some (true,13) /\ te prog 91=none /\ tp prog 91=some [(0,8),(8,1),(9,1),(10,1),(11,1),(12,1)] /\ tf prog 91 0=some (0,true,8) /\ tf prog 91 1=some (8,false,1) /\ tf prog 91 2=some (9,false,1) /\ tf prog 91 3=some (10,false,1) /\ tf prog 91 4=some (11,false,1) /\ tf prog 91 5=some (12,false,1) /\ tz prog 91=some [.sl 1 [],.sl 1 [],.sl 1 [],.sl 1 [],.int .i64 0,.sl 4 [],.sl 1 [],.sl 1 [],.sl 1 [],.sl 21 [],.sl 1 [],.sl 7 [],.int .i64 0] /\ tflat prog 91=false /\ tbool prog 91=false:=by and_intros <;> kernel_rfl
@[go_sem] theorem t_116:prog.cellsOf 116=1 /\ tl prog 116=some (true,1) /\ te prog 116=none /\ tp prog 116=some [(0,1)] /\ tf prog 116 0=some (0,false,1) /\ tz prog 116=some [.sl 1 []] /\ tflat prog 116=false /\ tbool prog 116=false:=by and_intros <;> kernel_rfl
@[go_sem] theorem t_130:prog.cellsOf 130=1 /\ tl prog 130=some (false,1) /\ te prog 130=some (134,4,32) /\ tz prog 130=some [.sl 4 []] /\ tflat prog 130=false /\ tbool prog 130=false:=by and_intros <;> kernel_rfl
@[go_sem] theorem t_132:prog.cellsOf 132=1 /\ tl prog 132=some (true,1) /\ te prog 132=none /\ tp prog 132=some [(0,1)] /\ tf prog 132 0=some (0,false,1) /\ tz prog 132=some [.sl 4 []] /\ tflat prog 132=false /\ tbool prog 132=false:=by and_intros <;> kernel_rfl
@[go_sem] theorem t_134:prog.cellsOf 134=4 /\ tl prog 134=some (true,4) /\ te prog 134=none /\ tp prog 134=some [(0,1),(1,1),(2,1),(3,1)] /\ tf prog 134 0=some (0,false,1) /\ tf prog 134 1=some (1,false,1) /\ tf prog 134 2=some (2,false,1) /\ tf prog 134 3=some (3,false,1) /\ teq prog 134=some [0,0,0,0] /\ tz prog 134=some [.int .i64 0,.int .i64 0,.int .i64 0,.int .i64 0] /\ tflat prog 134=true /\ tbool prog 134=false:=by and_intros <;> kernel_rfl
@[go_sem] theorem t_159:prog.cellsOf 159=1 /\ tl prog 159=some (false,1) /\ te prog 159=none /\ tz prog 159=some [.int .u64 0] /\ tflat prog 159=true /\ tbool prog 159=false /\ tkind prog 159=some .u64:=by and_intros <;> kernel_rfl
@[go_sem] theorem t_170:prog.cellsOf 170=1 /\ tl prog 170=some (false,1) /\ te prog 170=some (186,4,32) /\ tz prog 170=some [.sl 4 []] /\ tflat prog 170=false /\ tbool prog 170=false:=by and_intros <;> kernel_rfl
@[go_sem] theorem tc_172:prog.cellsOf 172=1:=by kernel_rfl
@[go_sem] theorem t_172:tl prog 172=some (true,1) /\ te prog 172=none /\ tp prog 172=some [(0,1)] /\ tf prog 172 0=some (0,false,1) /\ tz prog 172=some [.sl 4 []] /\ tflat prog 172=false /\ tbool prog 172=false:=by and_intros <;> kernel_rfl
@[go_sem] theorem t_178:prog.cellsOf 178=10 /\ tl prog 178=some (true,10) /\ te prog 178=none /\ tp prog 178=some [(0,1),(1,1),(2,1),(3,1),(4,1),(5,1),(6,1),(7,1),(8,1),(9,1)] /\ tf prog 178 0=some (0,false,1) /\ tf prog 178 1=some (1,false,1) /\ tf prog 178 2=some (2,false,1) /\ tf prog 178 3=some (3,false,1) /\ tf prog 178 4=some (4,false,1) /\ tf prog 178 5=some (5,false,1) /\ tf prog 178 6=some (6,false,1) /\ tf prog 178 7=some (7,false,1) /\ tf prog 178 8=some (8,false,1) /\ tf prog 178 9=some (9,false,1) /\ teq prog 178=some [0,0,0,0,0,0,0,0,0,1] /\ tz prog 178=some [.int .i64 0,.int .i64 0,.int .i64 0,.int .i64 0,.int .i64 0,.int .i64 0,.int .i64 0,.int .i64 0,.int .i64 0,.bool false] /\ tflat prog 178=true /\ tbool prog 178=false:=by and_intros <;> kernel_rfl
@[go_sem] theorem t_180:prog.cellsOf 180=21 /\ tl prog 180=some (true,21) /\ te prog 180=none /\ tp prog 180=some [(0,1),(1,4),(5,1),(6,1),(7,10),(17,1),(18,1),(19,1),(20,1)] /\ tf prog 180 0=some (0,false,1) /\ tf prog 180 1=some (1,true,4) /\ tf prog 180 2=some (5,false,1) /\ tf prog 180 3=some (6,false,1) /\ tf prog 180 4=some (7,true,10) /\ tf prog 180 5=some (17,false,1) /\ tf prog 180 6=some (18,false,1) /\ tf prog 180 7=some (19,false,1) /\ tf prog 180 8=some (20,false,1) /\ teq prog 180=some [1,0,0,0,0,0,0,0,0,0,0,0,0,0,0,0,1,0,0,0,0] /\ tz prog 180=some [.bool false,.int .i64 0,.int .i64 0,.int .i64 0,.int .i64 0,.int .i64 0,.int .i64 0,.int .i64 0,.int .i64 0,.int .i64 0,.int .i64 0,.int .i64 0,.int .i64 0,.int .i64 0,.int .i64 0,.int .i64 0,.bool false,.int .i64 0,.int .i64 0,.int .i64 0,.int .i64 0] /\ tflat prog 180=true /\ tbool prog 180=false:=by and_intros <;> kernel_rfl
@[go_sem] theorem tc_186:prog.cellsOf 186=4:=by kernel_rfl
@[go_sem] theorem t_186:tl prog 186=some (true,4) /\ te prog 186=none /\ tp prog 186=some [(0,1),(1,1),(2,1),(3,1)] /\ tf prog 186 0=some (0,false,1) /\ tf prog 186 1=some (1,false,1) /\ tf prog 186 2=some (2,false,1) /\ tf prog 186 3=some (3,false,1) /\ teq prog 186=some [0,0,0,0] /\ tz prog 186=some [.int .i64 0,.int .i64 0,.int .i64 0,.int .i64 0] /\ tflat prog 186=true /\ tbool prog 186=false:=by and_intros <;> kernel_rfl
@[go_sem] theorem t_187:prog.cellsOf 187=10 /\ tl prog 187=some (true,10) /\ te prog 187=none /\ tp prog 187=some [(0,1),(1,1),(2,1),(3,1),(4,1),(5,1),(6,1),(7,1),(8,1),(9,1)] /\ tf prog 187 0=some (0,false,1) /\ tf prog 187 1=some (1,false,1) /\ tf prog 187 2=some (2,false,1) /\ tf prog 187 3=some (3,false,1) /\ tf prog 187 4=some (4,false,1) /\ tf prog 187 5=some (5,false,1) /\ tf prog 187 6=some (6,false,1) /\ tf prog 187 7=some (7,false,1) /\ tf prog 187 8=some (8,false,1) /\ tf prog 187 9=some (9,false,1) /\ teq prog 187=some [0,0,0,0,0,0,0,0,0,1] /\ tz prog 187=some [.int .i64 0,.int .i64 0,.int .i64 0,.int .i64 0,.int .i64 0,.int .i64 0,.int .i64 0,.int .i64 0,.int .i64 0,.bool false] /\ tflat prog 187=true /\ tbool prog 187=false:=by and_intros <;> kernel_rfl
@[go_sem] theorem tc_189:prog.cellsOf 189=21:=by kernel_rfl
@[go_sem] theorem t_189:tl prog 189=some (true,21) /\ te prog 189=none /\ tp prog 189=some [(0,1),(1,4),(5,1),(6,1),(7,10),(17,1),(18,1),(19,1),(20,1)] /\ tf prog 189 0=some (0,false,1) /\ tf prog 189 1=some (1,true,4) /\ tf prog 189 2=some (5,false,1) /\ tf prog 189 3=some (6,false,1) /\ tf prog 189 4=some (7,true,10) /\ tf prog 189 5=some (17,false,1) /\ tf prog 189 6=some (18,false,1) /\ tf prog 189 7=some (19,false,1) /\ tf prog 189 8=some (20,false,1) /\ teq prog 189=some [1,0,0,0,0,0,0,0,0,0,0,0,0,0,0,0,1,0,0,0,0] /\ tz prog 189=some [.bool false,.int .i64 0,.int .i64 0,.int .i64 0,.int .i64 0,.int .i64 0,.int .i64 0,.int .i64 0,.int .i64 0,.int .i64 0,.int .i64 0,.int .i64 0,.int .i64 0,.int .i64 0,.int .i64 0,.int .i64 0,.bool false,.int .i64 0,.int .i64 0,.int .i64 0,.int .i64 0] /\ tflat prog 189=true /\ tbool prog 189=false:=by and_intros <;> kernel_rfl
@[go_sem] theorem t_192:prog.cellsOf 192=7 /\ tl prog 192=some (true,7) /\ te prog 192=none /\ tp prog 192=some [(0,1),(1,1),(2,1),(3,1),(4,1),(5,1),(6,1)] /\ tf prog 192 0=some (0,false,1) /\ tf prog 192 1=some (1,false,1) /\ tf prog 192 2=some (2,false,1) /\ tf prog 192 3=some (3,false,1) /\ tf prog 192 4=some (4,false,1) /\ tf prog 192 5=some (5,false,1) /\ tf prog 192 6=some (6,false,1) /\ teq prog 192=some [0,0,0,0,0,0,0] /\ tz prog 192=some [.int .i64 0,.int .i64 0,.int .i64 0,.int .i64 0,.int .i64 0,.int .i64 0,.int .i64 0] /\ tflat prog 192=true /\ tbool prog 192=false:=by and_intros <;> kernel_rfl
@[go_sem] theorem tc_194:prog.cellsOf 194=7:=by kernel_rfl
@[go_sem] theorem t_194:tl prog 194=some (true,7) /\ te prog 194=none /\ tp prog 194=some [(0,1),(1,1),(2,1),(3,1),(4,1),(5,1),(6,1)] /\ tf prog 194 0=some (0,false,1) /\ tf prog 194 1=some (1,false,1) /\ tf prog 194 2=some (2,false,1) /\ tf prog 194 3=some (3,false,1) /\ tf prog 194 4=some (4,false,1) /\ tf prog 194 5=some (5,false,1) /\ tf prog 194 6=some (6,false,1) /\ teq prog 194=some [0,0,0,0,0,0,0] /\ tz prog 194=some [.int .i64 0,.int .i64 0,.int .i64 0,.int .i64 0,.int .i64 0,.int .i64 0,.int .i64 0] /\ tflat prog 194=true /\ tbool prog 194=false:=by and_intros <;> kernel_rfl
@[go_sem] theorem t_219:prog.cellsOf 219=24 /\ tl prog 219=some (true,24) /\ te prog 219=none /\ ta prog 219=some (24,4,1) /\ tp prog 219=some [(0,1),(1,1),(2,1),(3,1),(4,1),(5,1),(6,1),(7,1),(8,1),(9,1),(10,1),(11,1),(12,1),(13,1),(14,1),(15,1),(16,1),(17,1),(18,1),(19,1),(20,1),(21,1),(22,1),(23,1)] /\ tz prog 219=some [.bool false,.bool false,.bool false,.bool false,.bool false,.bool false,.bool false,.bool false,.bool false,.bool false,.bool false,.bool false,.bool false,.bool false,.bool false,.bool false,.bool false,.bool false,.bool false,.bool false,.bool false,.bool false,.bool false,.bool false] /\ tflat prog 219=true /\ tbool prog 219=false:=by and_intros <;> kernel_rfl
@[go_sem] theorem t_230:prog.cellsOf 230=1 /\ tl prog 230=some (false,1) /\ te prog 230=some (314,2,16) /\ tz prog 230=some [.sl 2 []] /\ tflat prog 230=false /\ tbool prog 230=false:=by and_intros <;> kernel_rfl
@[go_sem] theorem tc_232:prog.cellsOf 232=1:=by kernel_rfl
@[go_sem] theorem t_232:tl prog 232=some (true,1) /\ te prog 232=none /\ tp prog 232=some [(0,1)] /\ tf prog 232 0=some (0,false,1) /\ tz prog 232=some [.sl 2 []] /\ tflat prog 232=false /\ tbool prog 232=false:=by and_intros <;> kernel_rfl
@[go_sem] theorem t_238:prog.cellsOf 238=1 /\ tl prog 238=some (false,1) /\ te prog 238=some (241,2,16) /\ tz prog 238=some [.sl 2 []] /\ tflat prog 238=false /\ tbool prog 238=false:=by and_intros <;> kernel_rfl
@[go_sem] theorem t_241:prog.cellsOf 241=2 /\ tl prog 241=some (true,2) /\ te prog 241=none /\ tp prog 241=some [(0,1),(1,1)] /\ tf prog 241 0=some (0,false,1) /\ tf prog 241 1=some (1,false,1) /\ teq prog 241=some [0,0] /\ tz prog 241=some [.int .i64 0,.int .i64 0] /\ tflat prog 241=true /\ tbool prog 241=false:=by and_intros <;> kernel_rfl
@[go_sem] theorem t_246:prog.cellsOf 246=1 /\ tl prog 246=some (true,1) /\ te prog 246=none /\ tp prog 246=some [(0,1)] /\ tf prog 246 0=some (0,false,1) /\ tz prog 246=some [.sl 2 []] /\ tflat prog 246=false /\ tbool prog 246=false:=by and_intros <;> kernel_rfl
@[go_sem] theorem t_279:prog.cellsOf 279=1 /\ tl prog 279=some (false,1) /\ te prog 279=some (27,1,24) /\ tz prog 279=some [.sl 1 []] /\ tflat prog 279=false /\ tbool prog 279=false:=by and_intros <;> kernel_rfl
@[go_sem] theorem t_281:prog.cellsOf 281=3 /\ tl prog 281=some (true,3) /\ te prog 281=none /\ ta prog 281=some (3,3,1) /\ tp prog 281=some [(0,1),(1,1),(2,1)] /\ tz prog 281=some [.int .i64 0,.int .i64 0,.int .i64 0] /\ tflat prog 281=true /\ tbool prog 281=false:=by and_intros <;> kernel_rfl
@[go_sem] theorem t_288:prog.cellsOf 288=4 /\ tl prog 288=some (true,4) /\ te prog 288=none /\ tp prog 288=some [(0,1),(1,1),(2,1),(3,1)] /\ tf prog 288 0=some (0,false,1) /\ tf prog 288 1=some (1,false,1) /\ tf prog 288 2=some (2,false,1) /\ tf prog 288 3=some (3,false,1) /\ teq prog 288=some [1,0,1,0] /\ tz prog 288=some [.bool false,.int .i64 0,.bool false,.int .i64 0] /\ tflat prog 288=true /\ tbool prog 288=false:=by and_intros <;> kernel_rfl
@[go_sem] theorem tc_291:prog.cellsOf 291=4:=by kernel_rfl
@[go_sem] theorem t_291:tl prog 291=some (true,4) /\ te prog 291=none /\ tp prog 291=some [(0,1),(1,1),(2,1),(3,1)] /\ tf prog 291 0=some (0,false,1) /\ tf prog 291 1=some (1,false,1) /\ tf prog 291 2=some (2,false,1) /\ tf prog 291 3=some (3,false,1) /\ teq prog 291=some [1,0,1,0] /\ tz prog 291=some [.bool false,.int .i64 0,.bool false,.int .i64 0] /\ tflat prog 291=true /\ tbool prog 291=false:=by and_intros <;> kernel_rfl
@[go_sem] theorem tc_311:prog.cellsOf 311=1:=by kernel_rfl
@[go_sem] theorem t_311:tl prog 311=some (true,1) /\ te prog 311=none /\ tp prog 311=some [(0,1)] /\ tf prog 311 0=some (0,false,1) /\ tz prog 311=some [.sl 1 []] /\ tflat prog 311=false /\ tbool prog 311=false:=by and_intros <;> kernel_rfl
@[go_sem] theorem tc_314:prog.cellsOf 314=2:=by kernel_rfl
@[go_sem] theorem t_314:tl prog 314=some (true,2) /\ te prog 314=none /\ tp prog 314=some [(0,1),(1,1)] /\ tf prog 314 0=some (0,false,1) /\ tf prog 314 1=some (1,false,1) /\ teq prog 314=some [0,0] /\ tz prog 314=some [.int .i64 0,.int .i64 0] /\ tflat prog 314=true /\ tbool prog 314=false:=by and_intros <;> kernel_rfl
theorem e2:enters prog 2=true:=by kernel_rfl
theorem e3:enters prog 3=true:=by kernel_rfl
theorem e4:enters prog 4=true:=by kernel_rfl
theorem e14:enters prog 14=true:=by kernel_rfl
theorem e28:enters prog 28=true:=by kernel_rfl
theorem e29:enters prog 29=true:=by kernel_rfl
theorem e30:enters prog 30=true:=by kernel_rfl
theorem e31:enters prog 31=true:=by kernel_rfl
theorem e32:enters prog 32=true:=by kernel_rfl
theorem e33:enters prog 33=true:=by kernel_rfl
theorem e34:enters prog 34=true:=by kernel_rfl
theorem e38:enters prog 38=true:=by kernel_rfl
theorem e39:enters prog 39=true:=by kernel_rfl
theorem e44:enters prog 44=true:=by kernel_rfl
theorem e46:enters prog 46=true:=by kernel_rfl
theorem e52:enters prog 52=true:=by kernel_rfl
theorem e53:enters prog 53=true:=by kernel_rfl
theorem e54:enters prog 54=true:=by kernel_rfl
theorem e55:enters prog 55=true:=by kernel_rfl
theorem e56:enters prog 56=true:=by kernel_rfl
theorem e57:enters prog 57=true:=by kernel_rfl
theorem e62:enters prog 62=true:=by kernel_rfl
theorem e65:enters prog 65=true:=by kernel_rfl
theorem e66:enters prog 66=true:=by kernel_rfl
theorem e67:enters prog 67=true:=by kernel_rfl
theorem e68:enters prog 68=true:=by kernel_rfl
theorem e69:enters prog 69=true:=by kernel_rfl
theorem e70:enters prog 70=true:=by kernel_rfl
theorem e71:enters prog 71=true:=by kernel_rfl
theorem e72:enters prog 72=true:=by kernel_rfl
theorem e73:enters prog 73=true:=by kernel_rfl
theorem e74:enters prog 74=true:=by kernel_rfl
theorem e75:enters prog 75=true:=by kernel_rfl
theorem e76:enters prog 76=true:=by kernel_rfl
theorem e77:enters prog 77=true:=by kernel_rfl
theorem e78:enters prog 78=true:=by kernel_rfl
theorem e79:enters prog 79=true:=by kernel_rfl
theorem e80:enters prog 80=true:=by kernel_rfl
theorem e81:enters prog 81=true:=by kernel_rfl
theorem e82:enters prog 82=true:=by kernel_rfl
theorem e83:enters prog 83=true:=by kernel_rfl
theorem e84:enters prog 84=true:=by kernel_rfl
theorem e85:enters prog 85=true:=by kernel_rfl
theorem e86:enters prog 86=true:=by kernel_rfl
theorem e87:enters prog 87=true:=by kernel_rfl
theorem e88:enters prog 88=true:=by kernel_rfl
theorem e89:enters prog 89=true:=by kernel_rfl
theorem e90:enters prog 90=true:=by kernel_rfl
theorem e91:enters prog 91=true:=by kernel_rfl
theorem e92:enters prog 92=true:=by kernel_rfl
theorem e93:enters prog 93=true:=by kernel_rfl
theorem e94:enters prog 94=true:=by kernel_rfl
theorem e95:enters prog 95=true:=by kernel_rfl
theorem e96:enters prog 96=true:=by kernel_rfl
theorem e97:enters prog 97=true:=by kernel_rfl
theorem e98:enters prog 98=true:=by kernel_rfl
theorem e99:enters prog 99=true:=by kernel_rfl
theorem e106:enters prog 106=true:=by kernel_rfl
theorem e107:enters prog 107=true:=by kernel_rfl
theorem e108:enters prog 108=true:=by kernel_rfl
theorem e109:enters prog 109=true:=by kernel_rfl
theorem e110:enters prog 110=true:=by kernel_rfl
theorem e111:enters prog 111=true:=by kernel_rfl
theorem e114:enters prog 114=true:=by kernel_rfl
theorem e116:enters prog 116=true:=by kernel_rfl
theorem e117:enters prog 117=true:=by kernel_rfl
theorem e118:enters prog 118=true:=by kernel_rfl
theorem e119:enters prog 119=true:=by kernel_rfl
theorem e120:enters prog 120=true:=by kernel_rfl
theorem e121:enters prog 121=true:=by kernel_rfl
theorem e122:enters prog 122=true:=by kernel_rfl
theorem e123:enters prog 123=true:=by kernel_rfl
theorem e124:enters prog 124=true:=by kernel_rfl
theorem e129:enters prog 129=true:=by kernel_rfl
theorem e130:enters prog 130=true:=by kernel_rfl
theorem e131:enters prog 131=true:=by kernel_rfl
theorem e132:enters prog 132=true:=by kernel_rfl
theorem e133:enters prog 133=true:=by kernel_rfl
theorem e138:enters prog 138=true:=by kernel_rfl
theorem e140:enters prog 140=true:=by kernel_rfl
theorem e141:enters prog 141=true:=by kernel_rfl
theorem e142:enters prog 142=true:=by kernel_rfl
theorem e143:enters prog 143=true:=by kernel_rfl
theorem e144:enters prog 144=true:=by kernel_rfl
theorem e145:enters prog 145=true:=by kernel_rfl
theorem e146:enters prog 146=true:=by kernel_rfl
theorem e147:enters prog 147=true:=by kernel_rfl
theorem e148:enters prog 148=true:=by kernel_rfl
theorem e149:enters prog 149=true:=by kernel_rfl
theorem e150:enters prog 150=true:=by kernel_rfl
theorem e151:enters prog 151=true:=by kernel_rfl
theorem e152:enters prog 152=true:=by kernel_rfl
theorem e153:enters prog 153=true:=by kernel_rfl
theorem e154:enters prog 154=true:=by kernel_rfl
theorem e155:enters prog 155=true:=by kernel_rfl
theorem e156:enters prog 156=true:=by kernel_rfl
theorem e157:enters prog 157=true:=by kernel_rfl
theorem e158:enters prog 158=true:=by kernel_rfl
theorem e159:enters prog 159=true:=by kernel_rfl
theorem e160:enters prog 160=true:=by kernel_rfl
theorem e161:enters prog 161=true:=by kernel_rfl
theorem e162:enters prog 162=true:=by kernel_rfl
theorem e163:enters prog 163=true:=by kernel_rfl
theorem e164:enters prog 164=true:=by kernel_rfl
theorem e165:enters prog 165=true:=by kernel_rfl
theorem e166:enters prog 166=true:=by kernel_rfl
theorem e167:enters prog 167=true:=by kernel_rfl
theorem e168:enters prog 168=true:=by kernel_rfl
theorem e169:enters prog 169=true:=by kernel_rfl
theorem e170:enters prog 170=true:=by kernel_rfl
theorem e171:enters prog 171=true:=by kernel_rfl
theorem e172:enters prog 172=true:=by kernel_rfl
theorem e173:enters prog 173=true:=by kernel_rfl
theorem e174:enters prog 174=true:=by kernel_rfl
theorem e175:enters prog 175=true:=by kernel_rfl
theorem e176:enters prog 176=true:=by kernel_rfl
theorem e177:enters prog 177=true:=by kernel_rfl
theorem e178:enters prog 178=true:=by kernel_rfl
theorem e179:enters prog 179=true:=by kernel_rfl
theorem e180:enters prog 180=true:=by kernel_rfl
theorem e181:enters prog 181=true:=by kernel_rfl
theorem e182:enters prog 182=true:=by kernel_rfl
theorem e183:enters prog 183=true:=by kernel_rfl
theorem e184:enters prog 184=true:=by kernel_rfl
theorem e185:enters prog 185=true:=by kernel_rfl
theorem e195:enters prog 195=true:=by kernel_rfl
theorem e196:enters prog 196=true:=by kernel_rfl
theorem e197:enters prog 197=true:=by kernel_rfl
theorem e198:enters prog 198=true:=by kernel_rfl
theorem e199:enters prog 199=true:=by kernel_rfl
theorem e200:enters prog 200=true:=by kernel_rfl
theorem e201:enters prog 201=true:=by kernel_rfl
theorem e202:enters prog 202=true:=by kernel_rfl
theorem e203:enters prog 203=true:=by kernel_rfl
theorem e204:enters prog 204=true:=by kernel_rfl
theorem e205:enters prog 205=true:=by kernel_rfl
theorem e206:enters prog 206=true:=by kernel_rfl
theorem e207:enters prog 207=true:=by kernel_rfl
theorem e208:enters prog 208=true:=by kernel_rfl
theorem e209:enters prog 209=true:=by kernel_rfl
theorem e210:enters prog 210=true:=by kernel_rfl
theorem e211:enters prog 211=true:=by kernel_rfl
theorem e214:enters prog 214=true:=by kernel_rfl
theorem e215:enters prog 215=true:=by kernel_rfl
theorem e216:enters prog 216=true:=by kernel_rfl
theorem e217:enters prog 217=true:=by kernel_rfl
theorem e218:enters prog 218=true:=by kernel_rfl
theorem e219:enters prog 219=true:=by kernel_rfl
theorem e220:enters prog 220=true:=by kernel_rfl
theorem e221:enters prog 221=true:=by kernel_rfl
theorem e222:enters prog 222=true:=by kernel_rfl
theorem e223:enters prog 223=true:=by kernel_rfl
theorem e224:enters prog 224=true:=by kernel_rfl
theorem e225:enters prog 225=true:=by kernel_rfl
theorem e226:enters prog 226=true:=by kernel_rfl
theorem e227:enters prog 227=true:=by kernel_rfl
theorem e228:enters prog 228=true:=by kernel_rfl
theorem e229:enters prog 229=true:=by kernel_rfl
theorem e230:enters prog 230=true:=by kernel_rfl
theorem e231:enters prog 231=true:=by kernel_rfl
theorem e232:enters prog 232=true:=by kernel_rfl
theorem e233:enters prog 233=true:=by kernel_rfl
theorem e234:enters prog 234=true:=by kernel_rfl
theorem e235:enters prog 235=true:=by kernel_rfl
theorem e236:enters prog 236=true:=by kernel_rfl
theorem e237:enters prog 237=true:=by kernel_rfl
theorem e238:enters prog 238=true:=by kernel_rfl
theorem e239:enters prog 239=true:=by kernel_rfl
theorem e240:enters prog 240=true:=by kernel_rfl
theorem e241:enters prog 241=true:=by kernel_rfl
theorem e242:enters prog 242=true:=by kernel_rfl
theorem e243:enters prog 243=true:=by kernel_rfl
theorem e244:enters prog 244=true:=by kernel_rfl
theorem e245:enters prog 245=true:=by kernel_rfl
theorem e246:enters prog 246=true:=by kernel_rfl
theorem e247:enters prog 247=true:=by kernel_rfl
theorem e248:enters prog 248=true:=by kernel_rfl
theorem e249:enters prog 249=true:=by kernel_rfl
theorem e251:enters prog 251=true:=by kernel_rfl
theorem e252:enters prog 252=true:=by kernel_rfl
theorem e253:enters prog 253=true:=by kernel_rfl
theorem e254:enters prog 254=true:=by kernel_rfl
theorem e255:enters prog 255=true:=by kernel_rfl
theorem e256:enters prog 256=true:=by kernel_rfl
theorem e257:enters prog 257=true:=by kernel_rfl
theorem e258:enters prog 258=true:=by kernel_rfl
theorem e259:enters prog 259=true:=by kernel_rfl
theorem e260:enters prog 260=true:=by kernel_rfl
theorem e261:enters prog 261=true:=by kernel_rfl
theorem e262:enters prog 262=true:=by kernel_rfl
theorem e263:enters prog 263=true:=by kernel_rfl
theorem e264:enters prog 264=true:=by kernel_rfl
theorem e265:enters prog 265=true:=by kernel_rfl
theorem e266:enters prog 266=true:=by kernel_rfl
theorem e272:enters prog 272=true:=by kernel_rfl
theorem e273:enters prog 273=true:=by kernel_rfl
theorem e274:enters prog 274=true:=by kernel_rfl
theorem e275:enters prog 275=true:=by kernel_rfl
theorem e276:enters prog 276=true:=by kernel_rfl
theorem e277:enters prog 277=true:=by kernel_rfl
theorem e278:enters prog 278=true:=by kernel_rfl
theorem e279:enters prog 279=true:=by kernel_rfl
theorem e280:enters prog 280=true:=by kernel_rfl
theorem e281:enters prog 281=true:=by kernel_rfl
theorem e286:enters prog 286=true:=by kernel_rfl
theorem e287:enters prog 287=true:=by kernel_rfl
theorem e288:enters prog 288=true:=by kernel_rfl
theorem e289:enters prog 289=true:=by kernel_rfl
theorem e290:enters prog 290=true:=by kernel_rfl
theorem e291:enters prog 291=true:=by kernel_rfl
theorem e292:enters prog 292=true:=by kernel_rfl
theorem e293:enters prog 293=true:=by kernel_rfl
theorem e294:enters prog 294=true:=by kernel_rfl
theorem e295:enters prog 295=true:=by kernel_rfl
theorem e296:enters prog 296=true:=by kernel_rfl
theorem e297:enters prog 297=true:=by kernel_rfl
theorem e298:enters prog 298=true:=by kernel_rfl
theorem e299:enters prog 299=true:=by kernel_rfl
theorem e300:enters prog 300=true:=by kernel_rfl
theorem e301:enters prog 301=true:=by kernel_rfl
theorem e302:enters prog 302=true:=by kernel_rfl
theorem e303:enters prog 303=true:=by kernel_rfl
theorem e304:enters prog 304=true:=by kernel_rfl
theorem e308:enters prog 308=true:=by kernel_rfl
theorem e309:enters prog 309=true:=by kernel_rfl
theorem e310:enters prog 310=true:=by kernel_rfl
theorem e311:enters prog 311=true:=by kernel_rfl
theorem e312:enters prog 312=true:=by kernel_rfl
theorem e313:enters prog 313=true:=by kernel_rfl
theorem e314:enters prog 314=true:=by kernel_rfl
theorem e315:enters prog 315=true:=by kernel_rfl
theorem e316:enters prog 316=true:=by kernel_rfl
theorem e317:enters prog 317=true:=by kernel_rfl
theorem e318:enters prog 318=true:=by kernel_rfl
theorem e320:enters prog 320=true:=by kernel_rfl
theorem mixed:prog.follows .mixedOrders=true:=by kernel_rfl
end Go.Proofs.YtcnddedeeplbcaaGreat.Ty
